/- Caches: looking up blobs and entries as the laws do; the put event. -/
import Derived.Test.YtkjilepjblffeaaDoorPDo
set_option linter.unusedVariables false
set_option linter.unusedSimpArgs false
namespace Go.Proofs.YtkjilepjblffeaaDoor
open Go Go.Proofs.YtkjilepjblffeaaDoor.Kit
def hasK {α:Type} (key:α→ByteArray) (l:List α) (d:ByteArray):Bool:=l.any (fun x=>sEq (key x) d)
theorem hasK_iff {α:Type} {key:α→ByteArray} {l:List α} {d:ByteArray}:hasK key l d=true↔∃ x∈l,key x=d:=by
  unfold hasK
  rw [List.any_eq_true]
  constructor
  · rintro ⟨x,h1,h2⟩; exact ⟨x,h1,sEq_iff.1 h2⟩
  · rintro ⟨x,h1,h2⟩; exact ⟨x,h1,sEq_iff.2 h2⟩
theorem findPair {α:Type} {c:α→Bool} {z:α}:∀ (l:List α) (i:Int),rangeS (fun _ x (s:Unit) f=>bif c x then some (x,true) else f s) (fun _=>some (z,false)) i l ()=some (match l.find? c with | some x=>(x,true) | none=>(z,false))
  | [],_=>rfl
  | x::l,i=>by
    show (bif c x then _ else _)=_
    rw [List.find?_cons]
    cases h:c x
    · exact findPair l (i+1)
    · rfl
theorem find_spec {α:Type} {key:α→ByteArray} {z:α} (l:List α) (d:ByteArray):∃ y b,(match l.find? (fun x=>sEq (key x) d) with | some x=>(x,true) | none=>(z,false))=(y,b)∧b=hasK key l d∧(b=true→y∈l∧key y=d):=by
  cases h:l.find? (fun x=>sEq (key x) d) with
  | none =>
    refine ⟨z,false,rfl,?_,fun h=>by cases h⟩
    rw [List.find?_eq_none] at h
    unfold hasK
    symm
    rw [List.any_eq_false]
    exact h
  | some x =>
    have h1:=List.mem_of_find?_eq_some h
    have h2:=List.find?_some h
    exact ⟨x,true,rfl,(hasK_iff.2 ⟨x,h1,sEq_iff.1 h2⟩).symm,fun _=>⟨h1,sEq_iff.1 h2⟩⟩
theorem blob_law {c:Cache} (hb:c.Blobs.length≤4611686018427387904) (d:ByteArray):∃ y b,smithyardlaw7_blob.f c d=some (y,b)∧b=hasK (fun x:Blob=>x.Digest) c.Blobs d∧(b=true→y∈c.Blobs∧y.Digest=d):=by
  obtain ⟨y,b,e,h⟩:=find_spec (key:=fun x:Blob=>x.Digest) (z:=(⟨ByteArray.empty,0,0,0,0⟩:Blob)) c.Blobs d
  refine ⟨y,b,?_,h⟩
  unfold smithyardlaw7_blob.f
  rw [rangeS_all (S:=Unit) (L:=fun k _ v=>smithyardlaw7_blob.l2 smithyardlaw7_blob.e1 k c d v) (body:=fun _ x s f=>bif sEq x.Digest d then some (x,true) else f s) (e:=fun _=>some ((⟨ByteArray.empty,0,0,0,0⟩:Blob),false)) hb (fun k s v=>by
    simp only [smithyardlaw7_blob.l2]
    congr 1
    refine bind_at2 (fun x hat hx=>?_)
    simp only [hat,Option.bind_some]) (),findPair c.Blobs 0,e]
end Go.Proofs.YtkjilepjblffeaaDoor
