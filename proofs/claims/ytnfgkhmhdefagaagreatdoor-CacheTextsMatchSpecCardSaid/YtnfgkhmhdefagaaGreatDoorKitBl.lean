/- Words of our own: a strings.Builder of the call's own; strings joined; numbers as text. -/
import Derived.Test.YtnfgkhmhdefagaaGreatDoorKitX
import Derived.Lib.OthersKept
import Derived.Lib.ItoaNum
import Derived.Lib.LaidTab
import Derived.Sort.Grow
import Derived.Deep.Draws
import Derived.MakeChecks
set_option linter.unusedVariables false
namespace Go.Proofs.YtnfgkhmhdefagaaGreatDoor.Kit
open Go Go.RowKit Go.Sort

/-! ### 80. A builder: its block, its buffer's block; all that was there before lies below it -/
def BlOwn (T e:TypeId) (H:Hp) (F:List Ch) (b:Nat) (s:ByteArray) (chB chU:Ch):Prop :=
  (∀ g o,H g=some o→g<b)∧(∀ q,some q∈F→q.1<b∨∀ c fz,q.2≠.cells c e fz)∧∃ p v,chB=some (b,.cells #[p,v] T (0,0))∧(p=.pointer none∨p=.pointer (some ⟨b,0,none⟩)) ∧
    ((v=.slice none 0 0∧s.size=0∧chU=none) ∨
     ∃ g cap cur fz,v=.slice (some ⟨g,0,none⟩) s.size cap∧chU=some (g,.cells cur e fz)∧b≤g∧fz.2≤s.size∧s.size≤cap∧cap≤maxLen∧cur.size=cap∧cur.toList.take s.size=Lib.strCells s)
def nobyB (e:TypeId) (xs:List Ch):Bool:=xs.all fun ch=>match ch with
  | some (_,.cells _ t _)=>!(Nat.beq t e)
  | _=>true
theorem nobyB_spec {e:TypeId} {xs:List Ch} (h:nobyB e xs=true) {q:Nat × Obj} (hq:some q∈xs):∀ c fz,q.2≠.cells c e fz:=fun c fz he=>by
  obtain ⟨g,o⟩:=q
  have he:o=.cells c e fz:=he
  subst he
  have:=List.all_eq_true.1 h _ hq
  simp at this
theorem Heap.is_builder {T e:TypeId} {H:Hp} {F rest:List Ch} {w0 w:World} {b:Nat} {s:ByteArray} {chB chU:Ch} (hh:Heap H w0 w (chB::chU::rest)) (h:BlOwn T e H F b s chB chU) :
    Lib.IsBuilderF T e b b (Lib.strCells s) w∧w0.heap.size≤b∧b<w.heap.size:=by
  obtain ⟨h1,h2,p,v,rfl,hp,hv⟩:=h
  obtain ⟨a1,a2,a3⟩:=hh.own 0 _ rfl
  have hlt:b<w.heap.size:=(Array.getElem?_eq_some_iff.1 a3).1
  have hB:Lib.BuilderAtF T e b b p (Lib.strCells s) w:=by
    refine ⟨Nat.le_refl _,v,a3,?_,?_⟩
    · refine ⟨by rw [Lib.strCells_length,Nat.mul_one],?_⟩
      rw [Lib.strCells_length,Nat.mul_one]
      rcases hv with ⟨rfl,h0,_⟩ | ⟨g,cap,cur,fz,rfl,rfl,c1,c2,c3,c4,c5,c6⟩
      · exact .inl ⟨rfl,h0⟩
      · exact .inr ⟨g,cap,cur,fz,rfl,c1,(hh.own 1 _ rfl).2.2,c2,c3,c4,by rw [Nat.mul_one]; exact c5,c6⟩
    · rcases hv with ⟨rfl,_,_⟩ | ⟨g,cap,cur,fz,rfl,rfl,_⟩
      · simp [Value.ownBlock]
      · have:=hh.dif 0 1 _ _ rfl rfl (by decide)
        simp only at this
        simp only [Value.ownBlock,ne_eq,Option.some.injEq]
        exact fun e=>this e.symm
  rcases hp with rfl | rfl
  · exact ⟨.inl hB,a1,hlt⟩
  · exact ⟨.inr hB,a1,hlt⟩
theorem Heap.bl_rest {T e:TypeId} {H:Hp} {F xs:List Ch} {w0 w w':World} {b:Nat} {s:ByteArray} {chB chU:Ch} (hh:Heap H w0 w (chB::chU::(xs++F))) (h:BlOwn T e H F b s chB chU) (hx:nobyB e xs=true)
    (hb:Below b w w') (hk:Lib.OthersKept e (some b) w w'):Heap H w0 w' (xs++F)∧Below w0.heap.size w w'∧∀ q,some q∈xs++F→q.1<b∨∀ c fz,q.2≠.cells c e fz:=by
  obtain ⟨h1,h2,p,v,rfl,_⟩:=h
  obtain ⟨a1,a2,a3⟩:=hh.own 0 _ rfl
  have hor:∀ q,some q∈xs++F→q.1<b∨∀ c fz,q.2≠.cells c e fz:=fun q hq=>by
    rcases List.mem_append.1 hq with hq | hq
    · exact .inr (nobyB_spec hx hq)
    · exact h2 q hq
  have hbl:Below w0.heap.size w w':=⟨hb.os,hb.tape,hb.output,hb.size,fun k hkk=>hb.block k (by omega)⟩
  refine ⟨⟨hh.ext.trans hbl,fun g o hg=>(hb.block g (h1 g o hg)).trans (hh.sub g o hg),fun i q hq=>?_,fun i j q r hq hr hne=>?_⟩,hbl,hor⟩
  · obtain ⟨c1,c2,c3⟩:=hh.own (i+2) q hq
    refine ⟨c1,c2,?_⟩
    rcases hor q (List.mem_of_getElem? hq) with hlt | hno
    · exact (hb.block _ hlt).trans c3
    · refine hk _ _ c3 (fun he=>?_) hno
      have:=hh.dif 0 (i+2) _ q rfl hq (by omega)
      exact this (Option.some.inj he).symm
  · exact hh.dif (i+2) (j+2) q r hq hr (by omega)
theorem Heap.bl_put {T e:TypeId} {H:Hp} {F rest:List Ch} {w0 w':World} {b:Nat} {s:ByteArray} (hR:Heap H w0 w' rest) (a1:w0.heap.size≤b) (a2:H b=none) (h1:∀ g o,H g=some o→g<b) (h2:∀ q,some q∈F→q.1<b∨∀ c fz,q.2≠.cells c e fz)
    (hB:Lib.BuilderAtF T e b b (.pointer (some ⟨b,0,none⟩)) (Lib.strCells s) w') (d0:∀ (i:Nat) q,rest[i]? = some (some q)→q.1≠b) (hor:∀ q,some q∈rest→q.1<b∨∀ c fz,q.2≠.cells c e fz) :
    ∃ chB chU,Heap H w0 w' (chB::chU::rest)∧BlOwn T e H F b s chB chU:=by
  obtain ⟨_,v',hb',hown,hne⟩:=hB
  have hlen:(Lib.strCells s).length=s.size:=Lib.strCells_length _
  rw [hlen] at hown
  rcases hown.2 with ⟨rfl,hz⟩ | ⟨g,cap,cur,fz,rfl,c1,c2,c3,c4,c5,c6,c7⟩
  · refine ⟨some (b,.cells #[.pointer (some ⟨b,0,none⟩),.slice none 0 0] T (0,0)),none,?_,h1,h2,_,_,rfl,.inr rfl,.inl ⟨rfl,hz,rfl⟩⟩
    refine ⟨hR.ext,hR.sub,fun i q hq=>?_,fun i j q r hq hr hij=>?_⟩
    · match i,hq with
      | 0,hq=>obtain rfl:=Option.some.inj (Option.some.inj hq); exact ⟨a1,a2,hb'⟩
      | 1,hq=>simp at hq
      | i+2,hq=>exact hR.own i q (by simpa using hq)
    · match i,j,hq,hr with
      | 0,0,_,_=>exact absurd rfl hij
      | 1,_,hq,_=>simp at hq
      | _,1,_,hr=>simp at hr
      | 0,j+2,hq,hr=>obtain rfl:=Option.some.inj (Option.some.inj hq); exact fun he=>d0 j r hr he.symm
      | i+2,0,hq,hr=>obtain rfl:=Option.some.inj (Option.some.inj hr); exact d0 i q hq
      | i+2,j+2,hq,hr=>exact hR.dif i j q r (by simpa using hq) (by simpa using hr) (by omega)
  · have hgb:g≠b:=by simpa [Value.ownBlock] using hne
    have hHg:H g=none:=by
      cases hH:H g with
      | none=>rfl
      | some o =>
        have:=h1 g o hH
        omega
    have dg:∀ (i:Nat) q,rest[i]? = some (some q)→q.1≠g:=fun i q hq he=>by
      rcases hor q (List.mem_of_getElem? hq) with hlt | hno
      · omega
      · have h3:=(hR.own i q hq).2.2
        rw [he,c2] at h3
        exact hno _ _ (Option.some.inj h3).symm
    refine ⟨some (b,.cells #[.pointer (some ⟨b,0,none⟩),.slice (some ⟨g,0,none⟩) s.size cap] T (0,0)),some (g,.cells cur e fz),?_,h1,h2,_,_,rfl,.inr rfl,
      .inr ⟨g,cap,cur,fz,rfl,rfl,c1,by simpa using c3,c4,c5,by simpa using c6,by simpa using c7⟩⟩
    refine ⟨hR.ext,hR.sub,fun i q hq=>?_,fun i j q r hq hr hij=>?_⟩
    · match i,hq with
      | 0,hq=>obtain rfl:=Option.some.inj (Option.some.inj hq); exact ⟨a1,a2,hb'⟩
      | 1,hq=>obtain rfl:=Option.some.inj (Option.some.inj hq); exact ⟨by simp only; omega,hHg,c2⟩
      | i+2,hq=>exact hR.own i q (by simpa using hq)
    · match i,j,hq,hr with
      | 0,0,_,_=>exact absurd rfl hij
      | 1,1,_,_=>exact absurd rfl hij
      | 0,1,hq,hr=>obtain rfl:=Option.some.inj (Option.some.inj hq); obtain rfl:=Option.some.inj (Option.some.inj hr); exact fun he=>hgb he.symm
      | 1,0,hq,hr=>obtain rfl:=Option.some.inj (Option.some.inj hq); obtain rfl:=Option.some.inj (Option.some.inj hr); exact hgb
      | 0,j+2,hq,hr=>obtain rfl:=Option.some.inj (Option.some.inj hq); exact fun he=>d0 j r hr he.symm
      | 1,j+2,hq,hr=>obtain rfl:=Option.some.inj (Option.some.inj hq); exact fun he=>dg j r hr he.symm
      | i+2,0,hq,hr=>obtain rfl:=Option.some.inj (Option.some.inj hr); exact d0 i q hq
      | i+2,1,hq,hr=>obtain rfl:=Option.some.inj (Option.some.inj hr); exact dg i q hq
      | i+2,j+2,hq,hr=>exact hR.dif i j q r (by simpa using hq) (by simpa using hr) (by omega)
theorem noby_nil {e:TypeId}:nobyB e []=true:=rfl
theorem noby_cons {e:TypeId} {c:Ch} {xs:List Ch} (h:nobyB e [c]=true) (k:nobyB e xs=true):nobyB e (c::xs)=true:=by
  unfold nobyB at h k ⊢
  simp only [List.all_cons,List.all_nil,Bool.and_true] at h ⊢
  rw [h,k]
  rfl
theorem SlOwn.noby {α:Type} {d:Kd α} {e e':TypeId} {H:Hp} {A:Option Addr} {n:Nat} {xs:List α} {ch:Ch} (h:SlOwn d e' H A n xs ch) (hne:Nat.beq e' e=false:=by kernel_rfl):nobyB e [ch]=true:=by
  rcases h with ⟨_,_,rfl⟩ | ⟨b,off,cells,_,rfl,_⟩
  · rfl
  · simp [nobyB,hne]
theorem BlOwn.wide {T e:TypeId} {H:Hp} {F xs:List Ch} {b:Nat} {s:ByteArray} {chB chU:Ch} (h:BlOwn T e H F b s chB chU) (hx:nobyB e xs=true):BlOwn T e H (xs++F) b s chB chU :=
  ⟨h.1,fun q hq=>(List.mem_append.1 hq).elim (fun h1=>.inr (nobyB_spec hx h1)) (h.2.1 q),h.2.2⟩
theorem BlOwn.thin {T e:TypeId} {H:Hp} {F F':List Ch} {b:Nat} {s:ByteArray} {chB chU:Ch} (n:Nat) (h:BlOwn T e H F' b s chB chU) (hd:F'.drop n=F:=by rfl):BlOwn T e H F b s chB chU :=
  ⟨h.1,fun q hq=>h.2.1 q (List.mem_of_mem_drop (hd ▸ hq)),h.2.2⟩
theorem write_calls {P:Program} {n:FuncId} {T e:TypeId} {H:Hp} {w0:World} {F xs:List Ch} {b:Nat} {s x:ByteArray} {chB chU:Ch}
    (hC:∀ (B b:Nat) (bs:List Value) (s:ByteArray) (w:World),Lib.IsBuilderF T e B b bs w→bs.length+s.size≤140737488355328→B≤w.heap.size →
      Calls P n #[.pointer (some ⟨b,0,none⟩),.string s] w fun z w'=>z=.returned (.tuple #[.int .i64 s.size,.nilIface])∧(Lib.BuilderAtF T e B b (.pointer (some ⟨b,0,none⟩)) (bs++Lib.strCells s) w'∧Below B w w'∧Lib.OthersKept e (some b) w w'))
    (hx:nobyB e xs=true) (h:BlOwn T e H F b s chB chU) (hl:s.size+x.size≤140737488355328) :
    CallsH P n #[.pointer (some ⟨b,0,none⟩),.string x] H w0 (chB::chU::(xs++F)) (fun v H' cs'=>∃ chB' chU',H=H'∧v=.tuple #[.int .i64 x.size,.nilIface]∧chB'::chU'::(xs++F)=cs'∧BlOwn T e H' F b (s++x) chB' chU'):=by
  intro w hh
  obtain ⟨hi,hw0,hbw⟩:=hh.is_builder h
  refine (hC b b (Lib.strCells s) x w hi (by rw [Lib.strCells_length]; exact hl) (Nat.le_of_lt hbw)).mono ?_
  rintro z w' ⟨rfl,hB',hbel,hk⟩
  obtain ⟨hR,hbl,hor⟩:=hh.bl_rest h hx hbel hk
  have hc:Lib.strCells s++Lib.strCells x=Lib.strCells (s++x):=by
    unfold Lib.strCells
    rw [ByteArray.data_append,Array.toList_append,List.map_append]
  rw [hc] at hB'
  obtain ⟨h1,h2,p,v,rfl,hp,hv⟩:=h
  obtain ⟨a1,a2,a3⟩:=hh.own 0 _ rfl
  obtain ⟨chB',chU',k1,k2⟩:=hR.bl_put a1 a2 h1 h2 hB' (fun i q hq he=>hh.dif 0 (i+2) _ q rfl hq (by omega) he.symm) hor
  exact ⟨_,rfl,H,_,Le.refl H,k1,chB',chU',rfl,rfl,rfl,k2⟩
theorem grow_calls {P:Program} {n:FuncId} {T e:TypeId} {H:Hp} {w0:World} {F:List Ch} {b m:Nat} {s:ByteArray}
    (hC:∀ (B b n0:Nat) (w:World),B≤b→w.heap[b]? = some (.cells #[.pointer none,.slice none 0 0] T (0,0))→B≤w.heap.size→n0≤281474976710656 →
      Calls P n #[.pointer (some ⟨b,0,none⟩),.int .i64 n0] w fun z w'=>z=.returned (.tuple #[])∧(Lib.BuilderAt T e B b (.pointer (some ⟨b,0,none⟩)) [] w'∧Below B w w'))
    (h:BlOwn T e H F b ⟨#[]⟩ (some (b,.cells #[.pointer none,.slice none 0 0] T (0,0))) none) (hF:∀ q,some q∈F→q.1<b) (hl:m≤281474976710656) :
    CallsH P n #[.pointer (some ⟨b,0,none⟩),.int .i64 (m:Int)] H w0 (some (b,.cells #[.pointer none,.slice none 0 0] T (0,0))::none::F) (fun v H' cs'=>∃ chB' chU',H=H'∧v=.tuple #[]∧chB'::chU'::F=cs'∧BlOwn T e H' F b ⟨#[]⟩ chB' chU'):=by
  intro w hh
  obtain ⟨hi,hw0,hbw⟩:=hh.is_builder h
  obtain ⟨h1,h2,_⟩:=h
  obtain ⟨a1,a2,a3⟩:=hh.own 0 _ rfl
  refine (hC b b m w (Nat.le_refl _) a3 (Nat.le_of_lt hbw) hl).mono ?_
  rintro z w' ⟨rfl,hB',hbel⟩
  have hbl:Below w0.heap.size w w':=⟨hbel.os,hbel.tape,hbel.output,hbel.size,fun k hkk=>hbel.block k (by omega)⟩
  have hR:Heap H w0 w' F:=⟨hh.ext.trans hbl,fun g o hg=>(hbel.block g (h1 g o hg)).trans (hh.sub g o hg),fun i q hq=>by
    obtain ⟨c1,c2,c3⟩:=hh.own (i+2) q hq
    exact ⟨c1,c2,(hbel.block _ (hF q (List.mem_of_getElem? hq))).trans c3⟩,fun i j q r hq hr hne=>hh.dif (i+2) (j+2) q r hq hr (by omega)⟩
  obtain ⟨chB',chU',k1,k2⟩:=hR.bl_put (s:=⟨#[]⟩) a1 a2 h1 h2 (Lib.BuilderAtF.of hB') (fun i q hq he=>hh.dif 0 (i+2) _ q rfl hq (by omega) he.symm) (fun q hq=>.inl (hF q hq))
  exact ⟨_,rfl,H,_,Le.refl H,k1,chB',chU',rfl,rfl,rfl,k2⟩
theorem grow_callsI {P:Program} {n:FuncId} {T e:TypeId} {H:Hp} {w0:World} {F:List Ch} {b:Nat} {m:Int}
    (hC:∀ (B b n0:Nat) (w:World),B≤b→w.heap[b]? = some (.cells #[.pointer none,.slice none 0 0] T (0,0))→B≤w.heap.size→n0≤281474976710656 →
      Calls P n #[.pointer (some ⟨b,0,none⟩),.int .i64 n0] w fun z w'=>z=.returned (.tuple #[])∧(Lib.BuilderAt T e B b (.pointer (some ⟨b,0,none⟩)) [] w'∧Below B w w'))
    (h:BlOwn T e H F b ⟨#[]⟩ (some (b,.cells #[.pointer none,.slice none 0 0] T (0,0))) none) (hF:∀ q,some q∈F→q.1<b) (h0:0≤m∧m≤281474976710656) :
    CallsH P n #[.pointer (some ⟨b,0,none⟩),.int .i64 m] H w0 (some (b,.cells #[.pointer none,.slice none 0 0] T (0,0))::none::F) (fun v H' cs'=>∃ chB' chU',H=H'∧v=.tuple #[]∧chB'::chU'::F=cs'∧BlOwn T e H' F b ⟨#[]⟩ chB' chU'):=by
  obtain ⟨k,rfl⟩:=Int.eq_ofNat_of_zero_le h0.1
  exact grow_calls (s:=⟨#[]⟩) hC h hF (by omega)
theorem len_calls {P:Program} {n:FuncId} {T e:TypeId} {H:Hp} {w0:World} {F rest:List Ch} {b:Nat} {s:ByteArray} {chB chU:Ch}
    (hC:∀ (B b:Nat) (bs:List Value) (w:World),Lib.IsBuilderF T e B b bs w→Calls P n #[.pointer (some ⟨b,0,none⟩)] w fun z w'=>z=.returned (.int .i64 bs.length)∧w'=w)
    (h:BlOwn T e H F b s chB chU) :
    CallsH P n #[.pointer (some ⟨b,0,none⟩)] H w0 (chB::chU::rest) (fun v H' cs'=>H=H'∧v=.int .i64 (s.size:Int)∧chB::chU::rest=cs'):=by
  intro w hh
  obtain ⟨hi,hw0,hbw⟩:=hh.is_builder h
  refine (hC b b (Lib.strCells s) w hi).mono ?_
  rintro z w' ⟨rfl,rfl⟩
  exact ⟨_,rfl,H,_,Le.refl H,hh,rfl,by rw [Lib.strCells_length],rfl⟩
theorem string_calls {P:Program} {n:FuncId} {T e:TypeId} {H:Hp} {w0:World} {F xs:List Ch} {b:Nat} {s:ByteArray} {chB chU:Ch}
    (hC:∀ (B b:Nat) (l:List UInt8) (w:World),Lib.IsBuilderF T e B b (Lib.byteCells l) w→B≤w.heap.size →
      Calls P n #[.pointer (some ⟨b,0,none⟩)] w fun z w'=>z=.returned (.string ⟨l.toArray⟩)∧(Lib.IsBuilderF T e B b (Lib.byteCells l) w'∧Below B w w'∧Lib.OthersKept e (some b) w w'))
    (hx:nobyB e xs=true) (h:BlOwn T e H F b s chB chU) :
    CallsH P n #[.pointer (some ⟨b,0,none⟩)] H w0 (chB::chU::(xs++F)) (fun v H' cs'=>H=H'∧v=.string s∧xs++F=cs'):=by
  intro w hh
  obtain ⟨hi,hw0,hbw⟩:=hh.is_builder h
  refine (hC b b s.data.toList w hi (Nat.le_of_lt hbw)).mono ?_
  rintro z w' ⟨rfl,_,hbel,hk⟩
  exact ⟨_,rfl,H,_,Le.refl H,(hh.bl_rest h hx hbel hk).1,rfl,rfl,rfl⟩
section
variable {F:Ctx} {H:Hp} {w0:World} {L:Slots} {cs:List Ch} {p:List Nat} {i:Nat}
theorem DoesH.newBl {d:Nat} {v:Nat→Value} {T e:TypeId} {xs F0:List Ch} (h:∀ g,newAt F.P F.N (opsAt F.c p) i L g=some (some d,v g,.cells #[.pointer none,.slice none 0 0] T (0,0))) (hF:cs=xs++F0) :
    DoesH F p i w0 L H cs (fun L' H' cs'=>∃ g,L'=(d,v g)::L∧H=H'∧some (g,.cells #[.pointer none,.slice none 0 0] T (0,0))::none::cs=cs'∧BlOwn T e H' F0 g ⟨#[]⟩ (some (g,.cells #[.pointer none,.slice none 0 0] T (0,0))) none∧∀ q,some q∈F0→q.1<g):=by
  intro w hh
  obtain ⟨op,ho,hd,hok,hw,hrun⟩:=newAt_spec (h w.heap.size)
  have hlt:∀ q,some q∈F0→q.1<w.heap.size:=fun q hq=>by
    subst hF
    obtain ⟨j,hj⟩:=List.getElem?_of_mem hq
    exact (Array.getElem?_eq_some_iff.1 (hh.own (xs.length+j) q (by rw [List.getElem?_append_right (by omega)]; simpa using hj)).2.2).1
  exact ⟨op,ho,hok,hw,.inl ⟨_,_,hrun w rfl,H,_,Le.refl H,(hh.noneCh.push (Ext.push w _) rfl (by simp)),w.heap.size,by rw [hd]; rfl,rfl,rfl,⟨fun g o hg=>(Array.getElem?_eq_some_iff.1 (hh.sub g o hg)).1,fun q hq=>.inl (hlt q hq),_,_,rfl,.inl rfl,.inl ⟨rfl,rfl,rfl⟩⟩,hlt⟩⟩
end

/-! ### 81. Numbers as text: a table of the library's -/
class TabI (P:Program) (name:String) (g:Nat) (w:World):Prop where
  gl:P.globalNamed name=some g
  tab:Lib.TabIs P w name .u64 Lib.pow10Tab
theorem TabI.at {P:Program} {name:String} {g:Nat} {H:Hp} {w0 w:World} {cs:List Ch} [h:TabI P name g w0] (hh:Heap H w0 w cs):Lib.TabIs P w name .u64 Lib.pow10Tab:=by
  have hg:=h.gl
  have ht:=h.tab
  unfold Lib.TabIs World.var? at ht ⊢
  rw [hg] at ht ⊢
  simp only [Option.bind_some] at ht ⊢
  have hlt:g<w0.heap.size:=by
    rcases Nat.lt_or_ge g w0.heap.size with h' | h'
    · exact h'
    · rw [Array.getElem?_eq_none h'] at ht
      simp at ht
  rw [hh.ext.block g hlt]
  exact ht
theorem laid_at {P:Program} {W:World} {x:String × DataW Unit}:∀ {laid:List (String × DataW Unit)} {ps:List MemPlace},DataW.LaidVars P W laid ps→x∈laid →
    ∃ g t cs fuel p,P.globalNamed x.1=some g∧(P.globals[g]?).map (·.type)=some t∧W.var? P x.1=some cs∧DataW.trod (fun _=>()) P W 0 (fun _=>true) false fuel t cs.toList=some (x.2,p)
  | [],_,_,hm=>by cases hm
  | y::laid,ps,h,hm=>by
    obtain ⟨g,t,cs,fuel,p,q,h1,h2,h3,h4,h5,_⟩:=h
    rcases List.mem_cons.1 hm with rfl | hm
    · exact ⟨g,t,cs,fuel,p,h1,h2,h3,h4⟩
    · exact laid_at h5 hm
theorem TabI.of {P:Program} {W:World} {name:String} {laid:List (String × DataW Unit)} {g i:Nat} {t e:TypeId} {n:Nat} (hL:laidMetH P laid W) (hp:(laid.all fun x=>x.2.handleName?.isNone)=true) (hi:laid[i]? = some (name,Lib.tabData .u64 Lib.pow10Tab))
    (hg:P.globalNamed name=some g) (hty:(P.globals[g]?).map (·.type)=some t) (ht:P.underlying t=some (.array n e)) (he:P.underlying e=some (.int .u64)) (hce:P.cellsOf e=1) (hct:P.cellsOf t=n):TabI P name g W:=by
  rw [MakeChecks.laidMetH_plain _ _ _ hp] at hL
  obtain ⟨ps,h,_⟩:=hL
  obtain ⟨g',t',cs,fuel,p,h1,h2,h3,h4⟩:=laid_at h (List.mem_of_getElem? hi)
  obtain rfl:=Option.some.inj (hg.symm.trans h1)
  obtain rfl:=Option.some.inj (hty.symm.trans h2)
  refine ⟨hg,?_⟩
  unfold Lib.TabIs
  rw [h3,← Lib.cells_of_tab ht he hce hct h4]
theorem itoa_calls {P:Program} {n:FuncId} {name:String} {g:Nat} {H:Hp} {w0:World} {F:List Ch} {x:Int} [TabI P name g w0]
    (hC:∀ (n0:Int),-9223372036854775808≤n0→n0≤9223372036854775807→∀ (w:World),Lib.TabIs P w name .u64 Lib.pow10Tab→Calls P n #[.int .i64 n0] w fun e w'=>e=.returned (.string ⟨(Lib.itoa n0).toArray⟩)∧∃ k os,w'=grow (w.drewN k) os)
    (h0 : -9223372036854775808≤x) (h1:x≤9223372036854775807) :
    CallsH P n #[.int .i64 x] H w0 F (fun v H' cs'=>H=H'∧v=.string ⟨(Lib.itoa x).toArray⟩∧F=cs'):=by
  intro w hh
  refine (hC x h0 h1 w (TabI.at (g:=g) hh)).mono ?_
  rintro z w' ⟨rfl,k,os,rfl⟩
  refine ⟨_,rfl,H,_,Le.refl H,hh.later ?_,rfl,rfl,rfl⟩
  refine ⟨rfl,rfl,rfl,by simp [grow,World.drewN],fun k hk=>?_⟩
  simp only [grow,World.drewN]
  rw [Array.getElem?_append_left hk]
end Go.Proofs.YtnfgkhmhdefagaaGreatDoor.Kit
