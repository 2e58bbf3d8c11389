/- Words of our own: the builtin clear on a tail of a slice. -/
import Derived.Test.YtedkdnhhohcocaaDoorKitS
set_option linter.unusedSimpArgs false
set_option linter.unusedVariables false
set_option linter.unnecessarySimpa false
namespace Go.Proofs.YtedkdnhhohcocaaDoor.Kit
open Go Go.RowKit
def clAt (P:Program) (N:Nat) (ops:Array Oper) (i:Nat) (L:Slots):Option (TypeId × Value) :=
  match ops[i]? with
  | none=>none
  | some o =>
    match okOp N L o with
    | false=>none
    | true =>
      match wantL ops L o.guard,o.dst with
      | some true,none =>
        match o.op with
        | .call { callee:=.builtin .clear,args:=⟨[s]⟩,argTypes:=⟨[t]⟩ }=>some (t,evL L s)
        | _=>none
      | _,_=>none
def zcOf (P:Program) (e:TypeId):Option (Array Value) :=
  match P.info? e with
  | some inf=>match inf.zero with
    | some z=>some z.cells
    | none=>none
  | none=>none
theorem clAt_spec {P:Program} {N:Nat} {ops:Array Oper} {i:Nat} {L:Slots} {t:TypeId} {a:Value} (h:clAt P N ops i L=some (t,a)) :
    ∃ o,ops[i]? = some o∧o.dst=none∧okOp N L o=true∧wantL ops L o.guard=some true∧∀ (w w':World) (v:Value),(Builtin.clear_ #[t] o.type #[a]).run P w=.ok v w'→(execOp (evL L) o).run P w=.ok (.value v) w':=by
  unfold clAt at h
  split at h
  · simp at h
  · rename_i o ho
    split at h
    · simp at h
    · rename_i hok
      split at h
      · rename_i hw hd
        split at h
        · rename_i s t' hop
          injection h with h
          injection h with h1 h2
          subst h1
          refine ⟨o,ho,hd,hok,hw,fun w w' v hrun=>?_⟩
          simp only [execOp,hop,resolve,invoke,builtin,Sem.run_bind,Sem.run_pure,Result.andThen_ok,List.map_toArray,List.map_cons,List.map_nil,h2,hrun]
        · simp at h
      · simp at h
theorem run_clearH {P:Program} {α:Type} {d:Kd α} {t ty e bytes k j:Nat} {H:Hp} {w0 w:World} {cs:List Ch} {A A2:Option Addr} {c c2:Nat} {xs:List α} {ch:Ch} {z:α} {zc:Array Value} (he:elemOk P t e d.sz bytes=true) (hzc:zcOf P e=some zc)
    (hz:d.K H z zc.toList) (hone:zc.toList.all one1=true) (hh:Heap H w0 w cs) (hk:cs[k]? = some ch) (hO:SlOwn d e H A c xs ch) (hj:j≤xs.length) (hA:j<xs.length→∀ b off,A=some ⟨b,off,none⟩→A2=some ⟨b,off+j*d.sz,none⟩) :
    ∃ v w' ch',(Builtin.clear_ #[t] ty #[.slice A2 (xs.length - j) c2]).run P w=.ok v w'∧Heap H w0 w' (cs.set k ch')∧SlOwn d e H A c (xs.take j++List.replicate (xs.length - j) z) ch':=by
  unfold elemOk at he
  split at he
  · rename_i e' hu
    split at he
    · rename_i inf hinf
      split at he
      · rename_i z' hz'
        simp only [Bool.and_eq_true] at he
        obtain ⟨⟨⟨⟨g1,g2⟩,g3⟩,g4⟩,g5⟩:=he
        obtain ⟨g5,g6⟩:=g5
        have g1:=Nat.eq_of_beq_eq_true g1
        have g4:=Nat.eq_of_beq_eq_true g4
        simp only [Nat.blt_eq] at g5
        subst g1
        have hzc':z'.cells=zc:=by
          unfold zcOf at hzc
          rw [hinf] at hzc
          simp only [hz'] at hzc
          injection hzc
        by_cases hlt:j<xs.length
        · rcases hO with ⟨rfl,rfl,rfl⟩ | ⟨b,off,cells,rfl,rfl,h3,h4,h5,h6⟩
          · simp at hlt
          · have hA2:=hA hlt b off rfl
            subst hA2
            obtain ⟨m,hm⟩:∃ m,xs.length - j=m+1:=⟨xs.length - j - 1,by omega⟩
            have hb:=hh.chin k hk
            have hrep:=Rep.zeros (d:=d) (H:=H) hz (xs.length - j) g5
            have htl:(xs.take j).length=j:=by simp; omega
            have hsz:(Builtin.zeroCells zc (xs.length - j)).toList.length=(xs.length - j)*d.sz:=by
              rw [Array.length_toList,size_zeroCells,← hzc',g4]
            have hfit:off+(xs.take j).length*d.sz+(Builtin.zeroCells zc (xs.length - j)).toList.length≤cells.size:=by
              rw [htl,hsz]
              have:(j+(xs.length - j))*d.sz≤c*d.sz:=Nat.mul_le_mul_right _ (by omega)
              rw [Nat.add_mul] at this
              omega
            have ho1:∀ v∈(Builtin.zeroCells zc (xs.length - j)).toList,one1 v=true:=by
              intro v hv
              simp only [Builtin.zeroCells,Array.toList_map,List.mem_map,Array.toList_range,List.mem_range] at hv
              obtain ⟨q,hq,rfl⟩:=hv
              have hs0:0<zc.size:=by rw [← hzc',g4]; exact g5
              have hlt2:q % zc.size<zc.size:=Nat.mod_lt _ hs0
              rw [getElem!_pos zc _ hlt2]
              exact List.all_eq_true.1 hone _ (by simp)
            obtain ⟨w',hst,hz0,hU⟩:=run_storeCells (P:=P) (g:=b) (off:=off+j*d.sz) (Builtin.zeroCells zc (xs.length - j)).toList 0 ho1 hb (by rw [htl] at hfit; omega)
            have hne:(Builtin.zeroCells zc (xs.length - j)).toList≠[]:=by
              intro h0
              rw [h0] at hsz
              simp only [List.length_nil] at hsz
              have:0<(xs.length - j)*d.sz:=Nat.mul_pos (by omega) g5
              omega
            have hU':=hU hne
            rw [Nat.add_zero] at hU'
            refine ⟨.tuple #[],w',some (b,.cells (owr cells (off+j*d.sz) (Builtin.zeroCells zc (xs.length - j)).toList) e' (0,0)),?_,hh.upd hk hU',.inr ⟨b,off,_,rfl,rfl,by simp; omega,h4,by rw [owr_size]; exact h5,?_⟩⟩
            · rw [hm] at hst ⊢
              subst hzc'
              generalize hq:(Builtin.zeroCells z'.cells (m+1)).toList=q at hst
              have hst2:Sem.run P (storeCells ⟨b,off+j*d.sz,none⟩ (Builtin.zeroCells z'.cells (m+1)).toList) w=.ok () w':=by rw [hq]; exact hst
              simp only [Builtin.clear_,zeroValue,typeInfo,Sem.run_bind,run_underlying hu,Result.andThen_ok,List.getElem?_toArray,List.getElem?_cons_zero] at *
              simp [go_sem,hinf,hz']
              simp only [Value.cells] at hst2
              rw [hst2]
              rfl
            · have h6':Kd.Rep d H cells off xs:=h6
              have hz2:(Builtin.zeroCells zc (xs.length - j)).toList.toArray=(Array.range ((xs.length - j)*zc.size)).map (zc[· % zc.size]!):=by rw [Array.toArray_toList]; rfl
              have:=Rep.owr (Rep.take h6' j) (ys:=List.replicate (xs.length - j) z) (news:=(Builtin.zeroCells zc (xs.length - j)).toList) (by rw [hz2]; exact hrep) hfit
              rw [htl] at this
              exact this
        · have hj2:j=xs.length:=by omega
          subst hj2
          refine ⟨.tuple #[],w,ch,?_,hh.setSame hk,by simpa using hO⟩
          cases A2 <;> simp [Builtin.clear_,go_sem,run_underlying hu]
      · simp at he
    · simp at he
  · simp at he
theorem shiftA_at {cap l n size:Nat} {A:Option Addr} (hl:l<n) (hc:n≤cap) {b off:Nat} (hA:A=some ⟨b,off,none⟩):shiftA cap l size A=some ⟨b,off+l*size,none⟩:=by
  subst hA
  unfold shiftA
  rw [if_neg (by omega)]
  simp [add_plain]
section
variable {F:Ctx} {H:Hp} {w0:World} {L:Slots} {cs:List Ch} {p:List Nat} {i:Nat}
theorem DoesH.clear {k j n:Nat} {t e bytes:Nat} {α:Type} {kd:Kd α} {A A2:Option Addr} {c c2:Nat} {xs:List α} {ch:Ch} {z:α} {zc:Array Value} (h:clAt F.P F.N (opsAt F.c p) i L=some (t,.slice A2 n c2)) (hn:n=xs.length - j) (he:elemOk F.P t e kd.sz bytes=true) (hzc:zcOf F.P e=some zc)
    (hz:kd.K H z zc.toList) (hone:zc.toList.all one1=true) (hk:cs[k]? = some ch) (hO:SlOwn kd e H A c xs ch) (hj:j≤xs.length) (hA:j<xs.length→∀ b off,A=some ⟨b,off,none⟩→A2=some ⟨b,off+j*kd.sz,none⟩) :
    DoesH F p i w0 L H cs (fun L' H' cs'=>∃ ch',L=L'∧H=H'∧cs'=cs.set k ch'∧SlOwn kd e H A c (xs.take j++List.replicate (xs.length - j) z) ch'):=by
  intro w hh
  subst hn
  obtain ⟨o,ho,hd,hok,hw,hrun⟩:=clAt_spec h
  obtain ⟨v,w',ch',hr,hh',hO'⟩:=run_clearH (ty:=o.type) (c2:=c2) he hzc hz hone hh hk hO hj hA
  exact ⟨o,ho,hok,hw,.inl ⟨_,w',hrun w w' _ hr,H,_,Le.refl H,hh',ch',by rw [hd]; rfl,rfl,rfl,hO'⟩⟩
end
end Go.Proofs.YtedkdnhhohcocaaDoor.Kit
