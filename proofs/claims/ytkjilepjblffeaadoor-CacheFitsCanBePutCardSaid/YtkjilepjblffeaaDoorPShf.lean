/- Plain aids: lists whose elements change places, told index by index. -/
import Derived.Test.YtkjilepjblffeaaDoorPMrg
set_option linter.unusedVariables false
set_option linter.unusedSimpArgs false
namespace Go.Proofs.YtkjilepjblffeaaDoor
open Go Go.Proofs.YtkjilepjblffeaaDoor.Kit
section
variable {α:Type}
def Mv (d0 d:List α) (f:Nat→Nat):Prop:=d.length=d0.length∧∀ k,d[k]? = d0[f k]?
theorem Mv.refl (d:List α):Mv d d (fun k=>k):=⟨rfl,fun _=>rfl⟩
theorem Mv.then {d0 d1 d2:List α} {f g:Nat→Nat} (h:Mv d0 d1 f) (k:Mv d1 d2 g):Mv d0 d2 (fun i=>f (g i)):=⟨k.1.trans h.1,fun i=>(k.2 i).trans (h.2 _)⟩
theorem Mv.of {d0 d:List α} {f g:Nat→Nat} (h:Mv d0 d f) (e:∀ k,f k=g k):Mv d0 d g:=⟨h.1,fun k=>by rw [h.2,e]⟩
def sw2 (i j k:Nat):Nat:=if k=i then j else if k=j then i else k
theorem Mv.swap {d:List α} {i j:Nat} {x y:α} (hx:d[i]? = some x) (hy:d[j]? = some y):Mv d ((d.set i y).set j x) (sw2 i j):=by
  have hi:=(List.getElem?_eq_some_iff.1 hx).1
  have hj:=(List.getElem?_eq_some_iff.1 hy).1
  refine ⟨by simp,fun k=>?_⟩
  unfold sw2
  rw [List.getElem?_set,List.getElem?_set]
  by_cases h1:j=k
  · subst h1
    rw [if_pos rfl,if_pos (by simpa using hj)]
    by_cases h2:j=i
    · subst h2
      rw [if_pos rfl]
      exact hx.symm
    · rw [if_neg h2,if_pos rfl]
      exact hx.symm
  · rw [if_neg h1]
    by_cases h2:i=k
    · subst h2
      rw [if_pos rfl,if_pos hi,if_pos rfl,hy]
    · rw [if_neg h2,if_neg (Ne.symm h2),if_neg (Ne.symm h1)]
def swp (a b n k:Nat):Nat:=if a≤k∧k<a+n then k - a+b else if b≤k∧k<b+n then k - b+a else k
theorem swp_step {a b n k:Nat} (h:a+n<b):swp a b n (sw2 (a+n) (b+n) k)=swp a b (n+1) k:=by
  unfold swp sw2
  (repeat' split) <;> omega
def rotx (a p q k:Nat):Nat:=if a≤k∧k<a+q then k+p else if a+q≤k∧k<a+q+p then k - q else k
theorem rotx_eq {a p k:Nat}:swp a (a+p) p k=rotx a p p k:=by
  unfold swp rotx
  (repeat' split) <;> omega
theorem rotx_big {a p q k:Nat} (h:q<p):swp a (a+p) q (rotx (a+q) (p - q) q k)=rotx a p q k:=by
  unfold swp rotx
  (repeat' split) <;> omega
theorem rotx_small {a p q k:Nat} (h:p<q):swp a (a+q) p (rotx a p (q - p) k)=rotx a p q k:=by
  unfold swp rotx
  (repeat' split) <;> omega
theorem Mv.rot {A X Y B e:List α} (h:Mv (A++(X++(Y++B))) e (rotx A.length X.length Y.length)):e=A++(Y++(X++B)):=by
  refine List.ext_getElem? (fun k=>?_)
  rw [h.2]
  unfold rotx
  split
  · rename_i h1
    rw [List.getElem?_append_right (by omega),List.getElem?_append_right (by omega),List.getElem?_append_left (by omega),List.getElem?_append_right (by omega),List.getElem?_append_left (by omega)]
    congr 1
    omega
  · split
    · rename_i h1 h2
      rw [List.getElem?_append_right (by omega),List.getElem?_append_left (by omega),List.getElem?_append_right (by omega),List.getElem?_append_right (by omega),List.getElem?_append_left (by omega)]
      congr 1
      omega
    · rename_i h1 h2
      rcases Nat.lt_or_ge k A.length with h3 | h3
      · rw [List.getElem?_append_left h3,List.getElem?_append_left h3]
      · rw [List.getElem?_append_right h3,List.getElem?_append_right h3,List.getElem?_append_right (by omega),List.getElem?_append_right (by omega),List.getElem?_append_right (by omega),List.getElem?_append_right (by omega)]
        congr 1
        omega
def shf (a t k:Nat):Nat:=if a≤k∧k<a+t then k+1 else if k=a+t then a else k
theorem shf_step {a t k:Nat}:shf a t (sw2 (a+t) (a+t+1) k)=shf a (t+1) k:=by
  unfold shf sw2
  (repeat' split) <;> omega
def shb (m t k:Nat):Nat:=if m<k+t∧k≤m then k - 1 else if k+t=m then m else k
theorem shb_step {m t k:Nat} (h:t<m):shb m t (sw2 (m - t) (m - t - 1) k)=shb m (t+1) k:=by
  unfold shb sw2
  (repeat' split) <;> omega
theorem shf_rot {a t k:Nat}:shf a t k=rotx a 1 t k:=by
  unfold shf rotx
  (repeat' split) <;> omega
theorem shb_rot {a t k:Nat}:shb (a+t) t k=rotx a t 1 k:=by
  unfold shb rotx
  (repeat' split) <;> omega
end
end Go.Proofs.YtkjilepjblffeaaDoor
