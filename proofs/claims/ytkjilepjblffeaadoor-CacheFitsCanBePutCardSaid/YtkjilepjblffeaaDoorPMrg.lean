/- Plain aids: the stable merge of two lists, and what it does with lists that part. -/
import Derived.Test.YtkjilepjblffeaaDoorPO
set_option linter.unusedVariables false
set_option linter.unusedSimpArgs false
namespace Go.Proofs.YtkjilepjblffeaaDoor
open Go Go.Proofs.YtkjilepjblffeaaDoor.Kit
section
variable {α:Type} (lt:α→α→Bool)
def mrg:List α→List α→List α
  | [],ys=>ys
  | x::xs,[]=>x::xs
  | x::xs,y::ys=>bif lt y x then y::mrg (x::xs) ys else x::mrg xs (y::ys)
termination_by xs ys=>xs.length+ys.length
theorem mrg_nil (xs:List α):mrg lt xs []=xs:=by cases xs <;> rw [mrg]
theorem nil_mrg (ys:List α):mrg lt [] ys=ys:=by rw [mrg]
theorem mrg_lt {x y:α} {xs ys:List α} (h:lt y x=true):mrg lt (x::xs) (y::ys)=y::mrg lt (x::xs) ys:=by rw [mrg,h]; rfl
theorem mrg_ge {x y:α} {xs ys:List α} (h:lt y x=false):mrg lt (x::xs) (y::ys)=x::mrg lt xs (y::ys):=by rw [mrg,h]; rfl
structure Swo:Prop where
  asym:∀ x y,lt x y=true→lt y x=false
  neg:∀ x y z,lt x y=false→lt y z=false→lt x z=false
variable {lt}
theorem Swo.trans (h:Swo lt) {x y z:α} (h1:lt x y=true) (h2:lt y z=true):lt x z=true:=by
  cases hc:lt x z
  · have:=h.neg x z y hc (h.asym y z h2)
    rw [h1] at this
    cases this
  · rfl
theorem Swo.lt_of_lt_le (h:Swo lt) {x y z:α} (h1:lt x y=true) (h2:lt z y=false):lt x z=true:=by
  cases hc:lt x z
  · have:=h.neg x z y hc h2
    rw [h1] at this
    cases this
  · rfl
theorem Swo.lt_of_le_lt (h:Swo lt) {x y z:α} (h1:lt y x=false) (h2:lt y z=true):lt x z=true:=by
  cases hc:lt x z
  · have:=h.neg y x z h1 hc
    rw [h2] at this
    cases this
  · rfl
theorem mrg_length:∀ (n:Nat) (xs ys:List α),xs.length+ys.length≤n→(mrg lt xs ys).length=xs.length+ys.length
  | 0,[],[],_=>by simp [nil_mrg]
  | 0,x::xs,ys,h=>by simp only [List.length_cons] at h; omega
  | 0,[],y::ys,h=>by simp only [List.length_cons] at h; omega
  | n+1,[],ys,h=>by simp [nil_mrg]
  | n+1,x::xs,[],h=>by simp [mrg_nil]
  | n+1,x::xs,y::ys,h=>by
    simp only [List.length_cons] at h
    cases hc:lt y x
    · rw [mrg_ge lt hc,List.length_cons,mrg_length n xs (y::ys) (by simp only [List.length_cons]; omega)]
      simp only [List.length_cons]; omega
    · rw [mrg_lt lt hc,List.length_cons,mrg_length n (x::xs) ys (by simp only [List.length_cons]; omega)]
      simp only [List.length_cons]; omega
theorem mrg_len (xs ys:List α):(mrg lt xs ys).length=xs.length+ys.length:=mrg_length _ xs ys (Nat.le_refl _)
theorem mem_mrg_n {z:α}:∀ (n:Nat) (xs ys:List α),xs.length+ys.length≤n→(z∈mrg lt xs ys↔z∈xs∨z∈ys)
  | 0,[],[],_=>by simp [nil_mrg]
  | 0,x::xs,ys,h=>by simp only [List.length_cons] at h; omega
  | 0,[],y::ys,h=>by simp only [List.length_cons] at h; omega
  | n+1,[],ys,h=>by simp [nil_mrg]
  | n+1,x::xs,[],h=>by simp [mrg_nil]
  | n+1,x::xs,y::ys,h=>by
    simp only [List.length_cons] at h
    cases hc:lt y x
    · rw [mrg_ge lt hc,List.mem_cons,mem_mrg_n n xs (y::ys) (by simp only [List.length_cons]; omega)]
      simp only [List.mem_cons]
      constructor
      · rintro (h | h | h | h) <;> simp [h]
      · rintro ((h | h) | h | h) <;> simp [h]
    · rw [mrg_lt lt hc,List.mem_cons,mem_mrg_n n (x::xs) ys (by simp only [List.length_cons]; omega)]
      simp only [List.mem_cons]
      constructor
      · rintro (h | (h | h) | h) <;> simp [h]
      · rintro ((h | h) | h | h) <;> simp [h]
theorem mem_mrg {z:α} {xs ys:List α}:z∈mrg lt xs ys↔z∈xs∨z∈ys:=mem_mrg_n _ xs ys (Nat.le_refl _)
abbrev Srt (lt:α→α→Bool) (l:List α):Prop:=l.Pairwise (fun a b=>lt b a=false)
theorem mrg_sorted_n (h:Swo lt):∀ (n:Nat) (xs ys:List α),xs.length+ys.length≤n→Srt lt xs→Srt lt ys→Srt lt (mrg lt xs ys)
  | 0,[],[],_,_,_=>by simp [nil_mrg,Srt]
  | 0,x::xs,ys,h,_,_=>by simp only [List.length_cons] at h; omega
  | 0,[],y::ys,h,_,_=>by simp only [List.length_cons] at h; omega
  | n+1,[],ys,_,_,hy=>by rw [nil_mrg]; exact hy
  | n+1,x::xs,[],_,hx,_=>by rw [mrg_nil]; exact hx
  | n+1,x::xs,y::ys,hl,hx,hy=>by
    simp only [List.length_cons] at hl
    have hx':=List.pairwise_cons.1 hx
    have hy':=List.pairwise_cons.1 hy
    cases hc:lt y x
    · rw [mrg_ge lt hc]
      refine List.pairwise_cons.2 ⟨fun z hz=>?_,mrg_sorted_n h n xs (y::ys) (by simp only [List.length_cons]; omega) hx'.2 hy⟩
      rcases mem_mrg.1 hz with hz | hz
      · exact hx'.1 z hz
      · rcases List.mem_cons.1 hz with rfl | hz
        · exact hc
        · exact h.neg z y x (hy'.1 z hz) hc
    · rw [mrg_lt lt hc]
      refine List.pairwise_cons.2 ⟨fun z hz=>?_,mrg_sorted_n h n (x::xs) ys (by simp only [List.length_cons]; omega) hx hy'.2⟩
      rcases mem_mrg.1 hz with hz | hz
      · rcases List.mem_cons.1 hz with rfl | hz
        · exact h.asym _ _ hc
        · exact h.neg z x y (hx'.1 z hz) (h.asym _ _ hc)
      · exact hy'.1 z hz
theorem mrg_sorted (h:Swo lt) {xs ys:List α} (hx:Srt lt xs) (hy:Srt lt ys):Srt lt (mrg lt xs ys):=mrg_sorted_n h _ xs ys (Nat.le_refl _) hx hy
theorem mrg_split_n:∀ (n:Nat) (L1 L2 R1 R2:List α),L1.length+R1.length≤n→(∀ x∈L2,∀ y∈R1,lt y x=true)→(∀ x∈L1,∀ y∈R2,lt y x=false)→mrg lt (L1++L2) (R1++R2)=mrg lt L1 R1++mrg lt L2 R2
  | n,[],L2,[],R2,_,_,_=>by simp [nil_mrg]
  | 0,x::L1,L2,R1,R2,h,_,_=>by simp only [List.length_cons] at h; omega
  | 0,[],L2,y::R1,R2,h,_,_=>by simp only [List.length_cons] at h; omega
  | n+1,[],L2,y::R1,R2,h,h1,h2=>by
    simp only [List.length_cons] at h
    have ih:=mrg_split_n n [] L2 R1 R2 (by simp only [List.length_nil]; simp only [List.length_nil] at h; omega) (fun x hx z hz=>h1 x hx z (by simp [hz])) (fun x hx=>by cases hx)
    rw [nil_mrg] at ih
    simp only [List.nil_append] at ih ⊢
    rw [nil_mrg]
    cases L2 with
    | nil=>rw [nil_mrg,nil_mrg]
    | cons x L2 =>
      rw [List.cons_append,mrg_lt lt (h1 x (by simp) y (by simp)),ih]
      rfl
  | n+1,x::L1,L2,[],R2,h,h1,h2=>by
    simp only [List.length_cons] at h
    have ih:=mrg_split_n n L1 L2 [] R2 (by simp only [List.length_nil] at h ⊢; omega) (fun z hz y hy=>by cases hy) (fun z hz y hy=>h2 z (by simp [hz]) y hy)
    rw [mrg_nil] at ih ⊢
    simp only [List.nil_append] at ih ⊢
    cases R2 with
    | nil=>rw [mrg_nil,mrg_nil]
    | cons y R2 =>
      rw [List.cons_append,mrg_ge lt (h2 x (by simp) y (by simp)),ih]
      rfl
  | n+1,x::L1,L2,y::R1,R2,h,h1,h2=>by
    simp only [List.length_cons] at h
    simp only [List.cons_append]
    cases hc:lt y x
    · rw [mrg_ge lt hc,mrg_ge lt hc]
      have ih:=mrg_split_n n L1 L2 (y::R1) R2 (by simp only [List.length_cons]; omega) h1 (fun z hz w hw=>h2 z (by simp [hz]) w hw)
      rw [List.cons_append] at ih
      rw [ih]
      rfl
    · rw [mrg_lt lt hc,mrg_lt lt hc]
      have ih:=mrg_split_n n (x::L1) L2 R1 R2 (by simp only [List.length_cons]; omega) (fun z hz w hw=>h1 z hz w (by simp [hw])) h2
      rw [List.cons_append] at ih
      rw [ih]
      rfl
theorem mrg_split {L1 L2 R1 R2:List α} (h1:∀ x∈L2,∀ y∈R1,lt y x=true) (h2:∀ x∈L1,∀ y∈R2,lt y x=false):mrg lt (L1++L2) (R1++R2)=mrg lt L1 R1++mrg lt L2 R2:=mrg_split_n _ L1 L2 R1 R2 (Nat.le_refl _) h1 h2
theorem mrg_one_l {x:α} {R1 R2:List α} (h1:∀ y∈R1,lt y x=true) (h2:∀ y∈R2,lt y x=false):mrg lt [x] (R1++R2)=R1++x::R2:=by
  have a:=mrg_split (lt:=lt) (L1:=[]) (L2:=[x]) (R1:=R1) (R2:=R2) (fun z hz y hy=>by simp at hz; subst hz; exact h1 y hy) (fun z hz=>by cases hz)
  have b:=mrg_split (lt:=lt) (L1:=[x]) (L2:=[]) (R1:=[]) (R2:=R2) (fun z hz=>by cases hz) (fun z hz y hy=>by simp at hz; subst hz; exact h2 y hy)
  simp only [List.nil_append,List.append_nil,nil_mrg,mrg_nil] at a b
  rw [a,b]
  rfl
theorem mrg_one_r {y:α} {L1 L2:List α} (h1:∀ x∈L1,lt y x=false) (h2:∀ x∈L2,lt y x=true):mrg lt (L1++L2) [y]=L1++y::L2:=by
  have a:=mrg_split (lt:=lt) (L1:=L1) (L2:=L2) (R1:=[]) (R2:=[y]) (fun z hz y hy=>by cases hy) (fun z hz w hw=>by simp at hw; subst hw; exact h1 z hz)
  have b:=mrg_split (lt:=lt) (L1:=[]) (L2:=L2) (R1:=[y]) (R2:=[]) (fun z hz w hw=>by simp at hw; subst hw; exact h2 z hz) (fun z hz=>by cases hz)
  simp only [List.nil_append,List.append_nil,nil_mrg,mrg_nil] at a b
  rw [a,b]
  rfl
theorem mrg_assoc_n (h:Swo lt):∀ (n:Nat) (xs ys zs:List α),xs.length+ys.length+zs.length≤n→mrg lt (mrg lt xs ys) zs=mrg lt xs (mrg lt ys zs)
  | _,[],ys,zs,_=>by rw [nil_mrg,nil_mrg]
  | _,x::xs,[],zs,_=>by rw [mrg_nil,nil_mrg]
  | _,x::xs,y::ys,[],_=>by rw [mrg_nil,mrg_nil]
  | 0,x::xs,y::ys,z::zs,hl=>by simp only [List.length_cons] at hl; omega
  | n+1,x::xs,y::ys,z::zs,hl=>by
    simp only [List.length_cons] at hl
    cases hxy:lt y x <;> cases hyz:lt z y
    · rw [mrg_ge lt hxy,mrg_ge lt hyz,mrg_ge lt hxy,mrg_ge lt (h.neg _ _ _ hyz hxy),mrg_assoc_n h n xs (y::ys) (z::zs) (by simp only [List.length_cons]; omega),mrg_ge lt hyz]
    · rw [mrg_ge lt hxy,mrg_lt lt hyz]
      cases hxz:lt z x
      · rw [mrg_ge lt hxz,mrg_ge lt hxz,mrg_assoc_n h n xs (y::ys) (z::zs) (by simp only [List.length_cons]; omega),mrg_lt lt hyz]
      · rw [mrg_lt lt hxz,mrg_lt lt hxz,← mrg_assoc_n h n (x::xs) (y::ys) zs (by simp only [List.length_cons]; omega),mrg_ge lt hxy]
    · rw [mrg_lt lt hxy,mrg_ge lt hyz,mrg_ge lt hyz,mrg_lt lt hxy,mrg_assoc_n h n (x::xs) ys (z::zs) (by simp only [List.length_cons]; omega)]
    · have hxz:lt z x=true:=h.trans hyz hxy
      rw [mrg_lt lt hxy,mrg_lt lt hyz,mrg_lt lt hyz,mrg_lt lt hxz,← mrg_assoc_n h n (x::xs) (y::ys) zs (by simp only [List.length_cons]; omega),mrg_lt lt hxy]
theorem mrg_assoc (h:Swo lt) (xs ys zs:List α):mrg lt (mrg lt xs ys) zs=mrg lt xs (mrg lt ys zs):=mrg_assoc_n h _ xs ys zs (Nat.le_refl _)
def stab (lt:α→α→Bool) (l:List α):List α:=l.foldl (fun acc x=>mrg lt acc [x]) []
theorem stab_foldl (h:Swo lt):∀ (l:List α) (acc:List α),l.foldl (fun acc x=>mrg lt acc [x]) acc=mrg lt acc (stab lt l)
  | [],acc=>by simp [stab,mrg_nil]
  | x::l,acc=>by
    have ih:=stab_foldl h l
    unfold stab
    simp only [List.foldl_cons]
    rw [ih,nil_mrg,ih [x],mrg_assoc h]
theorem stab_append (h:Swo lt) (l1 l2:List α):stab lt (l1++l2)=mrg lt (stab lt l1) (stab lt l2):=by
  have:stab lt (l1++l2)=l2.foldl (fun acc x=>mrg lt acc [x]) (stab lt l1):=by unfold stab; rw [List.foldl_append]
  rw [this,stab_foldl h]
theorem stab_snoc (l:List α) (x:α):stab lt (l++[x])=mrg lt (stab lt l) [x]:=by simp [stab]
theorem stab_len (h:Swo lt):∀ (l:List α),(stab lt l).length=l.length
  | []=>rfl
  | x::l=>by
    have:=stab_append h [x] l
    rw [List.singleton_append] at this
    rw [this,mrg_len,stab_len h l]
    simp [stab,nil_mrg]
    omega
theorem stab_sorted (h:Swo lt):∀ (l:List α),Srt lt (stab lt l)
  | []=>List.Pairwise.nil
  | x::l=>by
    have:=stab_append h [x] l
    rw [List.singleton_append] at this
    rw [this]
    refine mrg_sorted h ?_ (stab_sorted h l)
    simp [stab,nil_mrg,Srt]
theorem mem_stab (h:Swo lt) {z:α}:∀ (l:List α),z∈stab lt l↔z∈l
  | []=>Iff.rfl
  | x::l=>by
    have:=stab_append h [x] l
    rw [List.singleton_append] at this
    rw [this,mem_mrg,mem_stab h l]
    simp [stab,nil_mrg]
end
end Go.Proofs.YtkjilepjblffeaaDoor
