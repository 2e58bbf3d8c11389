/- Plain aids: the stable merge of two lists, and what it does with lists that part. -/
import Derived.Test.YtkjilepjblffeaaDoorPO
set_option linter.unusedVariables false
set_option linter.unusedSimpArgs false
namespace Go.Proofs.YtkjilepjblffeaaDoor
open Go Go.Proofs.YtkjilepjblffeaaDoor.Kit
section
variable {α:Type} (lt:α→α→Bool)
def mrg:List α→List α→List α
  | [],ys=>ys
  | x::xs,[]=>x::xs
  | x::xs,y::ys=>bif lt y x then y::mrg (x::xs) ys else x::mrg xs (y::ys)
termination_by xs ys=>xs.length+ys.length
theorem mrg_nil (xs:List α):mrg lt xs []=xs:=by cases xs <;> rw [mrg]
theorem nil_mrg (ys:List α):mrg lt [] ys=ys:=by rw [mrg]
theorem mrg_lt {x y:α} {xs ys:List α} (h:lt y x=true):mrg lt (x::xs) (y::ys)=y::mrg lt (x::xs) ys:=by rw [mrg,h]; rfl
theorem mrg_ge {x y:α} {xs ys:List α} (h:lt y x=false):mrg lt (x::xs) (y::ys)=x::mrg lt xs (y::ys):=by rw [mrg,h]; rfl
structure Swo:Prop where
  asym:∀ x y,lt x y=true→lt y x=false
  neg:∀ x y z,lt x y=false→lt y z=false→lt x z=false
variable {lt}
theorem Swo.trans (h:Swo lt) {x y z:α} (h1:lt x y=true) (h2:lt y z=true):lt x z=true:=by
  cases hc:lt x z
  · have:=h.neg x z y hc (h.asym y z h2)
    rw [h1] at this
    cases this
  · rfl
theorem mrg_length:∀ (n:Nat) (xs ys:List α),xs.length+ys.length≤n→(mrg lt xs ys).length=xs.length+ys.length
  | 0,[],[],_=>by simp [nil_mrg]
  | 0,x::xs,ys,h=>by simp only [List.length_cons] at h; omega
  | 0,[],y::ys,h=>by simp only [List.length_cons] at h; omega
  | n+1,[],ys,h=>by simp [nil_mrg]
  | n+1,x::xs,[],h=>by simp [mrg_nil]
  | n+1,x::xs,y::ys,h=>by
    simp only [List.length_cons] at h
    cases hc:lt y x
    · rw [mrg_ge lt hc,List.length_cons,mrg_length n xs (y::ys) (by simp only [List.length_cons]; omega)]
      simp only [List.length_cons]; omega
    · rw [mrg_lt lt hc,List.length_cons,mrg_length n (x::xs) ys (by simp only [List.length_cons]; omega)]
      simp only [List.length_cons]; omega
theorem mrg_len (xs ys:List α):(mrg lt xs ys).length=xs.length+ys.length:=mrg_length _ xs ys (Nat.le_refl _)
theorem mrg_assoc_n (h:Swo lt):∀ (n:Nat) (xs ys zs:List α),xs.length+ys.length+zs.length≤n→mrg lt (mrg lt xs ys) zs=mrg lt xs (mrg lt ys zs)
  | _,[],ys,zs,_=>by rw [nil_mrg,nil_mrg]
  | _,x::xs,[],zs,_=>by rw [mrg_nil,nil_mrg]
  | _,x::xs,y::ys,[],_=>by rw [mrg_nil,mrg_nil]
  | 0,x::xs,y::ys,z::zs,hl=>by simp only [List.length_cons] at hl; omega
  | n+1,x::xs,y::ys,z::zs,hl=>by
    simp only [List.length_cons] at hl
    cases hxy:lt y x <;> cases hyz:lt z y
    · rw [mrg_ge lt hxy,mrg_ge lt hyz,mrg_ge lt hxy,mrg_ge lt (h.neg _ _ _ hyz hxy),mrg_assoc_n h n xs (y::ys) (z::zs) (by simp only [List.length_cons]; omega),mrg_ge lt hyz]
    · rw [mrg_ge lt hxy,mrg_lt lt hyz]
      cases hxz:lt z x
      · rw [mrg_ge lt hxz,mrg_ge lt hxz,mrg_assoc_n h n xs (y::ys) (z::zs) (by simp only [List.length_cons]; omega),mrg_lt lt hyz]
      · rw [mrg_lt lt hxz,mrg_lt lt hxz,← mrg_assoc_n h n (x::xs) (y::ys) zs (by simp only [List.length_cons]; omega),mrg_ge lt hxy]
    · rw [mrg_lt lt hxy,mrg_ge lt hyz,mrg_ge lt hyz,mrg_lt lt hxy,mrg_assoc_n h n (x::xs) ys (z::zs) (by simp only [List.length_cons]; omega)]
    · have hxz:lt z x=true:=h.trans hyz hxy
      rw [mrg_lt lt hxy,mrg_lt lt hyz,mrg_lt lt hyz,mrg_lt lt hxz,← mrg_assoc_n h n (x::xs) (y::ys) zs (by simp only [List.length_cons]; omega),mrg_lt lt hxy]
theorem mrg_assoc (h:Swo lt) (xs ys zs:List α):mrg lt (mrg lt xs ys) zs=mrg lt xs (mrg lt ys zs):=mrg_assoc_n h _ xs ys zs (Nat.le_refl _)
def stab (lt:α→α→Bool) (l:List α):List α:=l.foldl (fun acc x=>mrg lt acc [x]) []
theorem stab_foldl (h:Swo lt):∀ (l:List α) (acc:List α),l.foldl (fun acc x=>mrg lt acc [x]) acc=mrg lt acc (stab lt l)
  | [],acc=>by simp [stab,mrg_nil]
  | x::l,acc=>by
    have ih:=stab_foldl h l
    unfold stab
    simp only [List.foldl_cons]
    rw [ih,nil_mrg,ih [x],mrg_assoc h]
theorem stab_append (h:Swo lt) (l1 l2:List α):stab lt (l1++l2)=mrg lt (stab lt l1) (stab lt l2):=by
  have:stab lt (l1++l2)=l2.foldl (fun acc x=>mrg lt acc [x]) (stab lt l1):=by unfold stab; rw [List.foldl_append]
  rw [this,stab_foldl h]
theorem stab_len (h:Swo lt):∀ (l:List α),(stab lt l).length=l.length
  | []=>rfl
  | x::l=>by
    have:=stab_append h [x] l
    rw [List.singleton_append] at this
    rw [this,mrg_len,stab_len h l]
    simp [stab,nil_mrg]
    omega
end
end Go.Proofs.YtkjilepjblffeaaDoor
