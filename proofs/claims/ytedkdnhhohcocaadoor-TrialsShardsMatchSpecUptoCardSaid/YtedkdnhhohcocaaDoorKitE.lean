/- Words of our own: stores; a variable that is made and filled. -/
import Derived.Test.YtedkdnhhohcocaaDoorKitD
set_option linter.unusedSimpArgs false
set_option linter.unusedVariables false
set_option linter.unnecessarySimpa false
namespace Go.Proofs.YtedkdnhhohcocaaDoor.Kit
open Go Go.RowKit

/-! ### 15. Stores -/
structure Upd (w w':World) (g:Nat) (o:Obj):Prop where
  os:w'.os=w.os
  tape:w'.tape=w.tape
  output:w'.output=w.output
  size:w'.heap.size=w.heap.size
  at_:w'.heap[g]? = some o
  other:∀ k,k≠g→w'.heap[k]? = w.heap[k]?
def owr (cs:Array Value):Nat→List Value→Array Value
  | _,[]=>cs
  | i,v::vs=>owr (cs.setIfInBounds i v) (i+1) vs
theorem owr_size (cs:Array Value) (i:Nat) (vs:List Value):(owr cs i vs).size=cs.size:=by
  induction vs generalizing cs i with
  | nil=>rfl
  | cons v vs ih=>simp [owr,ih]
theorem upd_cell {w:World} {g off:Nat} {cs:Array Value} {e:TypeId} {v:Value} (hb:w.heap[g]? = some (.cells cs e (0,0))):Upd w (w.setCell ⟨g,off,none⟩ v) g (.cells (cs.setIfInBounds off v) e (0,0)):=by
  have hlt:=(Array.getElem?_eq_some_iff.1 hb).1
  refine ⟨rfl,rfl,rfl,by simp [World.setCell],?_,fun k hk=>?_⟩
  · simp only [World.setCell,Array.getElem?_modify,hb]
    simp
  · simp only [World.setCell,Array.getElem?_modify]
    rw [if_neg (Ne.symm hk)]
theorem Upd.trans {w w1 w2:World} {g:Nat} {o1 o2:Obj} (h:Upd w w1 g o1) (k:Upd w1 w2 g o2):Upd w w2 g o2 :=
  ⟨k.os.trans h.os,k.tape.trans h.tape,k.output.trans h.output,k.size.trans h.size,k.at_,fun i hi=>(k.other i hi).trans (h.other i hi)⟩
theorem run_storeCells {P:Program} {g off:Nat} {e:TypeId}:∀ (vs:List Value) (i:Nat) {cs:Array Value} {w:World},(∀ v∈vs,one1 v=true)→w.heap[g]? = some (.cells cs e (0,0))→off+i+vs.length≤cs.size →
    ∃ w',(storeCells ⟨g,off,none⟩ vs i).run P w=.ok () w'∧(vs=[]→w'=w)∧(vs≠[]→Upd w w' g (.cells (owr cs (off+i) vs) e (0,0)))
  | [],i,cs,w,_,_,_=>⟨w,by simp [storeCells,go_sem],fun _=>rfl,fun h=>absurd rfl h⟩
  | v::vs,i,cs,w,hv,hb,hle=>by
    simp only [List.length_cons] at hle
    have hu:=upd_cell (off:=off+i) (v:=v) hb
    have hcell:∃ u,w.cell? ⟨g,off+i,none⟩=some u:=⟨cs[off+i]'(by omega),by simp [World.cell?,hb]⟩
    obtain ⟨u,hcell⟩:=hcell
    have hfr:w.frozen? ⟨g,off+i,none⟩=false:=by simp [World.frozen?,hb]
    obtain ⟨w',h1,h2,h3⟩:=run_storeCells (P:=P) (off:=off) vs (i+1) (cs:=cs.setIfInBounds (off+i) v) (w:=w.setCell ⟨g,off+i,none⟩ v) (fun u hu=>hv u (by simp [hu])) hu.at_ (by simp; omega)
    refine ⟨w',?_,fun h=>by simp at h,fun _=>?_⟩
    · have hone:=hv v (by simp)
      simp only [storeCells,Sem.run_bind,add_plain]
      have e1:(store (⟨g,off+i,none⟩:Addr) v).run P w=.ok () (w.setCell ⟨g,off+i,none⟩ v):=by
        cases v <;> simp_all [store,Sem.run,one1]
      rw [e1]
      simpa using h1
    · by_cases hnil:vs=[]
      · subst hnil
        rw [h2 rfl]
        exact hu
      · have:=hu.trans (h3 hnil)
        simpa [owr,Nat.add_assoc] using this
def stAt (P:Program) (N:Nat) (ops:Array Oper) (i:Nat) (L:Slots):Option (Addr × Value) :=
  match ops[i]? with
  | none=>none
  | some o =>
    match okOp N L o with
    | false=>none
    | true =>
      match wantL ops L o.guard with
      | some true =>
        match o.op with
        | .store t a x =>
          match o.dst with
          | some _=>none
          | none =>
            match evL L a with
            | .pointer (some ad) =>
              match P.info? t with
              | some inf=>match Nat.beq (evL L x).cells.toList.length inf.size&&(evL L x).cells.toList.all one1 with
                | true=>some (ad,evL L x)
                | false=>none
              | none=>none
            | _=>none
        | _=>none
      | _=>none
section
variable {F:Ctx} {R:Ending→World→Prop} {es es':List En} {L L':Slots} {w:World} {p:List Nat} {i:Nat}
theorem RgL.store {g off:Nat} {v:Value} {cs cs':Array Value} {e:TypeId} (h:stAt F.P F.N (opsAt F.c p) i L=some (⟨g,off,none⟩,v)) (hb:w.heap[g]? = some (.cells cs e (0,0)))
    (hle:Nat.ble (off+v.cells.toList.length) cs.size=true) (hcs:owr cs off v.cells.toList=cs') (k:∀ w',Upd w w' g (.cells cs' e (0,0))→RgL F R p es (i+1) L w'):RgL F R p es i L w:=by
  intro a hf
  unfold stAt at h
  split at h
  · simp at h
  · rename_i o ho
    split at h
    · simp at h
    · rename_i hok
      split at h
      · rename_i hw
        split at h
        · rename_i t x y hop
          split at h
          · simp at h
          · rename_i hdst
            split at h
            · rename_i ad hx
              split at h
              · rename_i inf hinf
                split at h
                · rename_i hc
                  injection h with h
                  injection h with h1 h2
                  subst h1 h2
                  simp only [Bool.and_eq_true] at hc
                  obtain ⟨hc1,hc2⟩:=hc
                  have hc1:=Nat.eq_of_beq_eq_true hc1
                  simp only [Nat.ble_eq] at hle
                  obtain ⟨he,hd2⟩:=okOp_spec hok hf
                  have hlt:i<(opsAt F.c p).size:=(Array.getElem?_eq_some_iff.1 ho).1
                  have e1:(opsAt F.c p).size - i=((opsAt F.c p).size - (i+1))+1:=by omega
                  rw [e1,List.range'_succ]
                  simp only [wpOps,ho,wantL_spec hw hf,if_true]
                  refine .inl ?_
                  obtain ⟨w',hrun,h0,h1⟩:=run_storeCells (P:=F.P) (evL L y).cells.toList 0 (fun u hu=>by simpa using List.all_eq_true.1 hc2 u hu) hb (by simpa using hle)
                  have hU:Upd w w' g (.cells cs' e (0,0)):=by
                    by_cases hnil:(evL L y).cells.toList=[]
                    · rw [h0 hnil]
                      refine ⟨rfl,rfl,rfl,rfl,?_,fun _ _=>rfl⟩
                      rw [hb,← hcs,hnil]
                      rfl
                    · have:=h1 hnil
                      rw [Nat.add_zero,hcs] at this
                      exact this
                  have hexec:(execOp (evL L) o).run F.P w=.ok .skip w':=by
                    have hsz:(evL L y).cells.size=inf.size:=by rw [← hc1]; simp
                    simp only [execOp,hop,Instr.storeAt,hx,Instr.sureAddr]
                    simp only [storeVar,Sem.run_bind,Sem.run_pure,Result.andThen_ok,run_sizeOf hinf,hsz]
                    simp [hrun]
                  unfold Oper.wp
                  rw [he,hexec,Oper.upon_skip]
                  rw [hdst]
                  exact k w' hU a hf
                · simp at h
              · simp at h
            · simp at h
        · simp at h
      · simp at h
end
theorem Upd.ext {w0 w w':World} {g:Nat} {o:Obj} (h:Upd w w' g o) (hE:Ext w0 w) (hg:w0.heap.size≤g):Ext w0 w' :=
  ⟨h.os.trans hE.os,h.tape.trans hE.tape,h.output.trans hE.output,by rw [h.size]; exact hE.size,fun k hk=>(h.other k (by omega)).trans (hE.block k hk)⟩
theorem Upd.sub {H:Hp} {w w':World} {g:Nat} {o:Obj} (h:Upd w w' g o) (hH:Sub H w) (hg:H g=none):Sub H w':=fun k o' hk=>by
  rw [h.other k (by intro he; subst he; rw [hg] at hk; simp at hk)]
  exact hH k o' hk
end Go.Proofs.YtedkdnhhohcocaaDoor.Kit
