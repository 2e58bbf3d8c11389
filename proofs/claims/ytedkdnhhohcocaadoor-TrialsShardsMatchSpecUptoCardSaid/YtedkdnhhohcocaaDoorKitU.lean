/- Words of our own: two stores that may come in either order; elements of a list in which something was put. -/
import Derived.Test.YtedkdnhhohcocaaDoorKitT
set_option linter.unusedSimpArgs false
set_option linter.unusedVariables false
set_option linter.unnecessarySimpa false
namespace Go.Proofs.YtedkdnhhohcocaaDoor.Kit
open Go Go.RowKit
theorem at?_set {α:Type} {xs:List α} {i:Int} {x:α} (h:at? xs i=some x) (j:Nat) (y:α):∃ x',at? (xs.set j y) i=some x':=by
  obtain ⟨h0,h1,h2⟩:=at?_some h
  have hlt:i.toNat<(xs.set j y).length:=by rw [List.length_set]; omega
  exact ⟨_,by unfold at?; rw [if_pos h0,List.getElem?_eq_getElem hlt]⟩
theorem set_swap {α:Type} {xs:List α} {i j:Int} {x y:α} (hx:at? xs i=some x) (hy:at? xs j=some y):(xs.set j.toNat x).set i.toNat y=(xs.set i.toNat y).set j.toNat x:=by
  obtain ⟨a0,a1,a2⟩:=at?_some hx
  obtain ⟨b0,b1,b2⟩:=at?_some hy
  by_cases h:i.toNat=j.toNat
  · have:x=y:=by
      rw [h,b2] at a2
      injection a2 with a2
      exact a2.symm
    subst this
    rw [h]
  · exact List.set_comm _ _ (Ne.symm h)
section
variable {F:Ctx} {S:Value→Hp→List Ch→Prop} {H0 H:Hp} {w0:World} {es es':List En} {L L':Slots} {cs cs':List Ch} {p:List Nat} {n m:Nat} {K1 K2:Slots→Hp→List Ch→Prop} {T T2:World→Prop} {bs:List Nat} {ls ls1 ls2:List Bool}
theorem DrH.pair (i j:Nat) (hr:Region.ready .any (opsAt F.c p) ls.toArray=[i,j]) (hl1:ls.set i true=ls1) (hl2:ls.set j true=ls2) (h1:DoesH F p i w0 L H cs K1) (h2:DoesH F p j w0 L H cs K2)
    (k1:∀ L' H' cs',Le H H'→K1 L' H' cs'→(∀ wb w,Heap H' w0 w cs'→Sx T T2 bs i wb w)∧DrH F S H0 w0 p es T T2 bs n ls1 L' H' cs')
    (k2:∀ L' H' cs',Le H H'→K2 L' H' cs'→(∀ wb w,Heap H' w0 w cs'→Sx T T2 bs j wb w)∧DrH F S H0 w0 p es T T2 bs n ls2 L' H' cs'):DrH F S H0 w0 p es T T2 bs (n+1) ls L H cs:=by
  intro hl w hh a hf
  have e1:ls.toArray.setIfInBounds i true=ls1.toArray:=by rw [← hl1]; simp
  have e2:ls.toArray.setIfInBounds j true=ls2.toArray:=by rw [← hl2]; simp
  refine ⟨fun h0=>absurd (h0 ▸ hr) (by simp),fun i' hi'=>?_⟩
  rw [hr] at hi'
  simp only [List.mem_cons,List.not_mem_nil,or_false] at hi'
  rcases hi' with rfl | rfl
  · rw [e1]
    refine (h1 w hh).wpOp hf ?_
    rintro L' w' a' ⟨H',cs',hl',hh',hK⟩ hf'
    obtain ⟨hT,k⟩:=k1 L' H' cs' hl' hK
    exact ⟨hT w w' hh',k (hl.then hl') w' hh' a' hf'⟩
  · rw [e2]
    refine (h2 w hh).wpOp hf ?_
    rintro L' w' a' ⟨H',cs',hl',hh',hK⟩ hf'
    obtain ⟨hT,k⟩:=k2 L' H' cs' hl' hK
    exact ⟨hT w w' hh',k (hl.then hl') w' hh' a' hf'⟩
theorem DrH.beside {d k g off:Nat} {v u:Value} {vs:List Value} {evs:List Ev} {cells cells':Array Value} {e:TypeId} {ls3:List Bool} (i j:Nat)
    (hr:Region.ready .any (opsAt F.c p) ls.toArray=[i,j]) (hl1:ls.set i true=ls1) (hl2:ls.set j true=ls2) (hr1:Region.ready .any (opsAt F.c p) ls1.toArray=[j]) (hr2:Region.ready .any (opsAt F.c p) ls2.toArray=[i])
    (hl3:ls1.set j true=ls3) (hl4:ls2.set i true=ls3) (hp:pureAt F.P F.N (opsAt F.c p) i L vs=some (d,v,evs)) (hold:∀ w,Heap H w0 w cs→Hold w evs)
    (hs:stAt F.P F.N (opsAt F.c p) j L=some (⟨g,off,none⟩,u)) (hs2:stAt F.P F.N (opsAt F.c p) j ((d,v)::L)=some (⟨g,off,none⟩,u)) (hk:cs[k]? = some (some (g,.cells cells e (0,0))))
    (hle:Nat.ble (off+u.cells.toList.length) cells.size=true) (hcs:owr cells off u.cells.toList=cells') (hc2:cs.set k (some (g,.cells cells' e (0,0)))=cs') (hold2:∀ w,Heap H w0 w cs'→Hold w evs)
    (hbi:Nat.beq (bs.getD i 0) 0=true) (hbj:Nat.beq (bs.getD j 0) 0=true) (hT:∀ w,Heap H w0 w cs→T w∧T2 w) (hT':∀ w,Heap H w0 w cs'→T w∧T2 w)
    (kk:DrH F S H0 w0 p es T T2 bs n ls3 ((d,v)::L) H cs'):DrH F S H0 w0 p es T T2 bs (n+2) ls L H cs:=by
  subst hc2
  have sx:∀ (m:Nat) (c:List Ch),Nat.beq (bs.getD m 0) 0=true→(∀ w,Heap H w0 w c→T w∧T2 w)→∀ wb w,Heap H w0 w c→Sx T T2 bs m wb w:=fun m c hm hc wb w hh=>by
    have hm:=Nat.eq_of_beq_eq_true hm
    exact ⟨fun _=>(hc w hh).1,fun _=>(hc w hh).2,fun h=>by omega⟩
  refine DrH.pair i j hr hl1 hl2 (DoesH.pureop hp hold) (DoesH.store hs hk hle hcs) ?_ ?_
  · rintro _ _ _ _ ⟨rfl,rfl,rfl⟩
    refine ⟨sx i _ hbi hT,DrH.does j hr1 hl3 (DoesH.store hs2 hk hle hcs) ?_⟩
    rintro _ _ _ _ ⟨rfl,rfl,rfl⟩
    exact ⟨sx j _ hbj hT',kk⟩
  · rintro _ _ _ _ ⟨rfl,rfl,rfl⟩
    refine ⟨sx j _ hbj hT',DrH.does i hr2 hl4 (DoesH.pureop hp hold2) ?_⟩
    rintro _ _ _ _ ⟨rfl,rfl,rfl⟩
    exact ⟨sx i _ hbi hT',kk⟩
theorem DrH.freezeS {α:Type} {d:Kd α} {e:TypeId} {A:Option Addr} {c:Nat} {xs:List α} {ch:Ch} (h:SlOwn d e H A c xs ch) (k:∀ H1,Le H H1→Kd.Row d H1 A xs→DrH F S H0 w0 p es T T2 bs n ls L H1 cs):DrH F S H0 w0 p es T T2 bs n ls L H (ch::cs):=Hs.freezeS h k
theorem owl_all {c vs:List Value} (h:vs.length=c.length):owl c 0 vs=vs:=by simp [owl,h]
theorem DrH.swap {α:Type} {kd:Kd α} {c k:Nat} {e:TypeId} {ix jx:Int} {A:Option Addr} {xs:List α} {x y:α} {vi vj:Value} {ai aj:Addr} {ch:Ch} {ls3:List Bool} (i j:Nat)
    (hr:Region.ready .any (opsAt F.c p) ls.toArray=[i,j]) (hl1:ls.set i true=ls1) (hl2:ls.set j true=ls2) (hr1:Region.ready .any (opsAt F.c p) ls1.toArray=[j]) (hr2:Region.ready .any (opsAt F.c p) ls2.toArray=[i])
    (hl3:ls1.set j true=ls3) (hl4:ls2.set i true=ls3) (hi:stAt F.P F.N (opsAt F.c p) i L=some (ai,vi)) (hj:stAt F.P F.N (opsAt F.c p) j L=some (aj,vj)) (hk:cs[k]? = some ch) (hO:SlOwn kd e H A c xs ch)
    (hx:at? xs ix=some x) (hy:at? xs jx=some y) (hai:ai=((adr A).add (ix.toNat*kd.sz)).add 0) (haj:aj=((adr A).add (jx.toNat*kd.sz)).add 0) (hvi:kd.K H y vi.cells.toList) (hvj:kd.K H x vj.cells.toList)
    (hbi:(Nat.beq (bs.getD i 0) 1||Nat.beq (bs.getD i 0) 2)=true) (hbj:(Nat.beq (bs.getD j 0) 1||Nat.beq (bs.getD j 0) 2)=true) (hT2:∀ ch' w,Heap H w0 w (cs.set k ch')→T2 w)
    (kk:∀ ch',SlOwn kd e H A c ((xs.set ix.toNat y).set jx.toNat x) ch'→DrH F S H0 w0 p es T T2 bs n ls3 L H (cs.set k ch')):DrH F S H0 w0 p es T T2 bs (n+2) ls L H cs:=by
  obtain ⟨_,cx,hcx,hccx⟩:=hO.get hx
  obtain ⟨_,cy,hcy,hccy⟩:=hO.get hy
  have hlt:=(List.getElem?_eq_some_iff.1 hk).1
  have sx:∀ (m:Nat),(Nat.beq (bs.getD m 0) 1||Nat.beq (bs.getD m 0) 2)=true→∀ ch' wb,∀ w,Heap H w0 w (cs.set k ch')→Sx T T2 bs m wb w:=fun m hm ch' wb w hh=>by
    rw [Bool.or_eq_true] at hm
    rcases hm with hm | hm <;> have hm:=Nat.eq_of_beq_eq_true hm <;> exact ⟨fun h=>by omega,fun _=>hT2 ch' w hh,fun h=>by omega⟩
  have li:vi.cells.toList.length=cx.length:=by rw [kd.len hvi,kd.len hcx]
  have lj:vj.cells.toList.length=cy.length:=by rw [kd.len hvj,kd.len hcy]
  refine DrH.pair i j hr hl1 hl2 (DoesH.storeEl (x':=y) (c0:=cx) (o:=0) hi hk hO hx hai hccx (kd.len hcx) (by omega) (by rw [owl_all li]; exact hvi)) (DoesH.storeEl (x':=x) (c0:=cy) (o:=0) hj hk hO hy haj hccy (kd.len hcy) (by omega) (by rw [owl_all lj]; exact hvj)) ?_ ?_
  · rintro _ _ _ _ ⟨ch1,rfl,rfl,rfl,hO1⟩
    refine ⟨sx i hbi ch1,?_⟩
    obtain ⟨y',hy'⟩:=at?_set hy ix.toNat y
    obtain ⟨_,c2,hc2,hcc2⟩:=hO1.get hy'
    have l2:vj.cells.toList.length=c2.length:=by rw [kd.len hvj,kd.len hc2]
    refine DrH.does j hr1 hl3 (DoesH.storeEl (ch:=ch1) (x':=x) (c0:=c2) (o:=0) hj (by rw [List.getElem?_set_self hlt]) hO1 hy' haj hcc2 (kd.len hc2) (by omega) (by rw [owl_all l2]; exact hvj)) ?_
    rintro _ _ _ _ ⟨ch2,rfl,rfl,rfl,hO2⟩
    rw [List.set_set]
    exact ⟨sx j hbj ch2,kk ch2 hO2⟩
  · rintro _ _ _ _ ⟨ch1,rfl,rfl,rfl,hO1⟩
    refine ⟨sx j hbj ch1,?_⟩
    obtain ⟨x',hx'⟩:=at?_set hx jx.toNat x
    obtain ⟨_,c2,hc2,hcc2⟩:=hO1.get hx'
    have l2:vi.cells.toList.length=c2.length:=by rw [kd.len hvi,kd.len hc2]
    refine DrH.does i hr2 hl4 (DoesH.storeEl (ch:=ch1) (x':=y) (c0:=c2) (o:=0) hi (by rw [List.getElem?_set_self hlt]) hO1 hx' hai hcc2 (kd.len hc2) (by omega) (by rw [owl_all l2]; exact hvi)) ?_
    rintro _ _ _ _ ⟨ch2,rfl,rfl,rfl,hO2⟩
    rw [List.set_set]
    refine ⟨sx i hbi ch2,kk ch2 ?_⟩
    rw [set_swap hx hy] at hO2
    exact hO2
end
end Go.Proofs.YtedkdnhhohcocaaDoor.Kit
