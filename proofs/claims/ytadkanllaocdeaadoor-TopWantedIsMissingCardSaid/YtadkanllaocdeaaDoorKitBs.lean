/- Words of our own: bytes as a string. -/
import Derived.Test.YtadkanllaocdeaaDoorKitX
import Derived.Laws.BytesArg
set_option linter.unusedVariables false
namespace Go.Proofs.YtadkanllaocdeaaDoor.Kit
open Go Go.RowKit
def csAt (P:Program) (N:Nat) (ops:Array Oper) (i:Nat) (L:Slots):Option (Nat × Option Addr × Nat × Nat) :=
  match ops[i]? with
  | none=>none
  | some o =>
    match okOp N L o with
    | false=>none
    | true =>
      match wantL ops L o.guard with
      | some true =>
        match o.op,o.dst with
        | .convert t u x,some d =>
          match P.underlying t,P.underlying u,evL L x with
          | some (.slice e),some .string,.slice A n c =>
            match P.underlying e with
            | some (.int .u8)=>some (d,A,n,c)
            | _=>none
          | _,_,_=>none
        | _,_=>none
      | _=>none
section
variable {F:Ctx} {H:Hp} {w0:World} {L:Slots} {cs:List Ch} {p:List Nat} {i:Nat}
theorem run_bytes {P:Program} {w:World} {t u e:TypeId} {A:Option Addr} {n c:Nat} {xs:List Int} (ht:P.underlying t=some (.slice e)) (hu:P.underlying u=some .string) (he:P.underlying e=some (.int .u8)) (hn:n=xs.length) (hr:Rdb (Kd.int .u8) H w A xs) :
    (convert t u (.slice A n c)).run P w=.ok (.string (strN xs)) w:=by
  subst hn
  cases xs with
  | nil =>
    cases A with
    | none=>exact run_convert_bytes_nil w t e ht he 0 c u hu
    | some a =>
      have hl:(loadCells a 0).run P w=.ok (([]:List Int).map (Value.int .u8)).toArray w:=by
        have:=run_loadCells_list (P:=P) w a ([]:List Value) (fun j v hj=>by simp at hj)
        simpa using this
      show (convert t u (.slice (some a) 0 c)).run P w=_
      rw [run_convert_bytes_string w t u e _ 0 c ht he hu,run_bytesToString w _ 0 c [] hl]
      rfl
  | cons x xs =>
    obtain ⟨b,off,cells,ty,fr,rfl,hb,hrep⟩:=hr (by simp)
    refine run_convert_bytes_arg w t e ht he b off _ c (x::xs) rfl (fun i hi=>?_) u hu
    obtain ⟨cc,hc,hv⟩:=hrep i (x::xs)[i] (List.getElem?_eq_getElem hi)
    have hc:cc=[.int .u8 (x::xs)[i]]:=hc
    subst hc
    have:=hv 0 _ rfl
    have e1:(Kd.int .u8).sz=1:=rfl
    rw [e1,Nat.mul_one,Nat.add_zero] at this
    rw [blk_cell hb this]
    simp [List.getD,List.getElem?_eq_getElem hi]
theorem DoesH.bytesStr {d n c:Nat} {A:Option Addr} {xs:List Int} (h:csAt F.P F.N (opsAt F.c p) i L=some (d,A,n,c)) (hn:n=xs.length) (hr:∀ w,Heap H w0 w cs→Rdb (Kd.int .u8) H w A xs) :
    DoesH F p i w0 L H cs (fun L' H' cs'=>L'=(d,.string (strN xs))::L∧H=H'∧cs=cs'):=by
  intro w hh
  unfold csAt at h
  split at h
  · simp at h
  · rename_i o ho
    split at h
    · simp at h
    · rename_i hok
      split at h
      · rename_i hw
        split at h
        · rename_i t u x dx hop hdx
          split at h
          · rename_i e A' n' c' ht hu hx
            split at h
            · rename_i he
              injection h with h
              injection h with h1 h
              injection h with h2 h
              injection h with h3 h4
              subst h1 h2 h3 h4
              have hexec:(execOp (evL L) o).run F.P w=.ok (.value (.string (strN xs))) w:=by
                simp only [execOp,hop,hx,Sem.run_bind,run_bytes ht hu he hn (hr w hh),Result.andThen_ok,Sem.run_pure]
              exact ⟨o,ho,hok,hw,.inl ⟨_,w,hexec,H,cs,Le.refl H,hh,by rw [hdx]; rfl,rfl,rfl⟩⟩
            · simp at h
          · simp at h
        · simp at h
      · simp at h
/-! A literal of bytes that is turned into its own type gets a mark behind its last cell. -/
def mkAt (P:Program) (N:Nat) (ops:Array Oper) (i:Nat) (L:Slots):Option (Nat × Nat × Nat × Nat) :=
  match ops[i]? with
  | none=>none
  | some o =>
    match okOp N L o with
    | false=>none
    | true =>
      match wantL ops L o.guard with
      | some true =>
        match o.op,o.dst with
        | .convert t u x,some d =>
          match Nat.beq t u,P.underlying t,evL L x with
          | true,some (.slice e),.slice (some ⟨g,0,none⟩) n c =>
            match P.underlying e with
            | some (.int .u8)=>some (d,g,n,c)
            | _=>none
          | _,_,_=>none
        | _,_=>none
      | _=>none
def MkOwn {α:Type} (d:Kd α) (H:Hp) (A:Option Addr) (c:Nat) (xs:List α) (ch:Ch):Prop :=
  ∃ b off cells e fr,A=some ⟨b,off,none⟩∧ch=some (b,.cells cells e fr)∧xs.length≤c∧Kd.Rep d H cells off xs
theorem MkOwn.lit {α:Type} {d:Kd α} {H:Hp} {g:Nat} {cells:Array Value} {e:TypeId} {fr:Nat × Nat} {xs:List α} (hr:Kd.Rep d H cells 0 xs):MkOwn d H (some ⟨g,0,none⟩) xs.length xs (some (g,.cells cells e fr)) :=
  ⟨g,0,cells,e,fr,rfl,rfl,Nat.le_refl _,hr⟩
theorem MkOwn.cap {α:Type} {d:Kd α} {H:Hp} {A:Option Addr} {c:Nat} {xs:List α} {ch:Ch} (h:MkOwn d H A c xs ch):xs.length≤c:=by
  obtain ⟨_,_,_,_,_,_,_,h,_⟩:=h
  exact h
theorem MkOwn.rw {α:Type} {d:Kd α} {H:Hp} {A:Option Addr} {c:Nat} {xs:List α} {ch:Ch} {F:List Ch} (h:MkOwn d H A c xs ch) (hm:ch∈F):Rw d H F A xs:=fun _=>by
  obtain ⟨b,off,cells,e,fr,h1,h2,_,h3⟩:=h
  subst h2
  exact ⟨b,off,cells,e,fr,h1,.inr hm,h3⟩
theorem run_mark {P:Program} {w:World} {t e e':TypeId} {g n c:Nat} {C:Array Value} (ht:P.underlying t=some (.slice e)) (he:P.underlying e=some (.int .u8)) (hg:w.heap[g]? = some (.cells C e' (0,0))) :
    ∃ w',(convert t t (.slice (some ⟨g,0,none⟩) n c)).run P w=.ok (.slice (some ⟨g,0,none⟩) n c) w'∧Upd w w' g (.cells C e' (C.size,C.size+1)):=by
  have hsh:w.shape? g=some (e',C.size):=by
    unfold World.shape?
    rw [hg]
  refine ⟨w.freeze ⟨g,C.size,none⟩ 1,?_,?_⟩
  · simp [convert,run_underlying ht,run_underlying he,markStringish,hsh]
  · have hlt:g<w.heap.size:=(Array.getElem?_eq_some_iff.1 hg).1
    unfold World.freeze
    rw [if_neg (by decide)]
    refine ⟨rfl,rfl,rfl,by simp,?_,fun k hk=>?_⟩
    · simp [Array.getElem?_modify,hg]
    · simp [Array.getElem?_modify,Ne.symm hk]
theorem DoesH.mark {d g n c:Nat} {C:Array Value} {e':TypeId} (h:mkAt F.P F.N (opsAt F.c p) i L=some (d,g,n,c)) :
    DoesH F p i w0 L H (some (g,.cells C e' (0,0))::cs) (fun L' H' cs'=>L'=(d,.slice (some ⟨g,0,none⟩) n c)::L∧H=H'∧cs'=some (g,.cells C e' (C.size,C.size+1))::cs):=by
  intro w hh
  unfold mkAt at h
  split at h
  · simp at h
  · rename_i o ho
    split at h
    · simp at h
    · rename_i hok
      split at h
      · rename_i hw
        split at h
        · rename_i t u x dx hop hdx
          split at h
          · rename_i e g' n' c' htu ht hx
            split at h
            · rename_i he
              injection h with h
              injection h with h1 h
              injection h with h2 h
              injection h with h3 h4
              subst h1 h2 h3 h4
              have htu:t=u:=Nat.eq_of_beq_eq_true htu
              subst htu
              obtain ⟨w',hr,hU⟩:=run_mark (n:=n') (c:=c') ht he (hh.chin 0 rfl)
              have hexec:(execOp (evL L) o).run F.P w=.ok (.value (.slice (some ⟨g',0,none⟩) n' c')) w':=by
                simp only [execOp,hop,hx,Sem.run_bind,hr,Result.andThen_ok,Sem.run_pure]
              exact ⟨o,ho,hok,hw,.inl ⟨_,w',hexec,H,_,Le.refl H,hh.upd (k:=0) rfl hU,by rw [hdx]; rfl,rfl,rfl⟩⟩
            · simp at h
          · simp at h
        · simp at h
      · simp at h
end
end Go.Proofs.YtadkanllaocdeaaDoor.Kit
