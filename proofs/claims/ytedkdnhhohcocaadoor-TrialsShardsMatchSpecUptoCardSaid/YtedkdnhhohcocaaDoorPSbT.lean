/- Merged of PMrg, PShf, PSort, PStab, PStb2, PStb3. -/
import Derived.Test.YtedkdnhhohcocaaDoorPO
set_option linter.unusedVariables false
set_option linter.unusedSimpArgs false
namespace Go.Proofs.YtedkdnhhohcocaaDoor
open Go Go.Proofs.YtedkdnhhohcocaaDoor.Kit
section
variable {α:Type} (lt:α→α→Bool)
def mrg:List α→List α→List α
  | [],ys=>ys
  | x::xs,[]=>x::xs
  | x::xs,y::ys=>bif lt y x then y::mrg (x::xs) ys else x::mrg xs (y::ys)
termination_by xs ys=>xs.length+ys.length
theorem mrg_nil (xs:List α):mrg lt xs []=xs:=by cases xs <;> rw [mrg]
theorem nil_mrg (ys:List α):mrg lt [] ys=ys:=by rw [mrg]
theorem mrg_lt {x y:α} {xs ys:List α} (h:lt y x=true):mrg lt (x::xs) (y::ys)=y::mrg lt (x::xs) ys:=by rw [mrg,h]; rfl
theorem mrg_ge {x y:α} {xs ys:List α} (h:lt y x=false):mrg lt (x::xs) (y::ys)=x::mrg lt xs (y::ys):=by rw [mrg,h]; rfl
structure Swo:Prop where
  asym:∀ x y,lt x y=true→lt y x=false
  neg:∀ x y z,lt x y=false→lt y z=false→lt x z=false
variable {lt}
theorem Swo.trans (h:Swo lt) {x y z:α} (h1:lt x y=true) (h2:lt y z=true):lt x z=true:=by
  cases hc:lt x z
  · have:=h.neg x z y hc (h.asym y z h2)
    rw [h1] at this
    cases this
  · rfl
theorem Swo.lt_of_lt_le (h:Swo lt) {x y z:α} (h1:lt x y=true) (h2:lt z y=false):lt x z=true:=by
  cases hc:lt x z
  · have:=h.neg x z y hc h2
    rw [h1] at this
    cases this
  · rfl
theorem Swo.lt_of_le_lt (h:Swo lt) {x y z:α} (h1:lt y x=false) (h2:lt y z=true):lt x z=true:=by
  cases hc:lt x z
  · have:=h.neg y x z h1 hc
    rw [h2] at this
    cases this
  · rfl
theorem mrg_length:∀ (n:Nat) (xs ys:List α),xs.length+ys.length≤n→(mrg lt xs ys).length=xs.length+ys.length
  | 0,[],[],_=>by simp [nil_mrg]
  | 0,x::xs,ys,h=>by simp only [List.length_cons] at h; omega
  | 0,[],y::ys,h=>by simp only [List.length_cons] at h; omega
  | n+1,[],ys,h=>by simp [nil_mrg]
  | n+1,x::xs,[],h=>by simp [mrg_nil]
  | n+1,x::xs,y::ys,h=>by
    simp only [List.length_cons] at h
    cases hc:lt y x
    · rw [mrg_ge lt hc,List.length_cons,mrg_length n xs (y::ys) (by simp only [List.length_cons]; omega)]
      simp only [List.length_cons]; omega
    · rw [mrg_lt lt hc,List.length_cons,mrg_length n (x::xs) ys (by simp only [List.length_cons]; omega)]
      simp only [List.length_cons]; omega
theorem mrg_len (xs ys:List α):(mrg lt xs ys).length=xs.length+ys.length:=mrg_length _ xs ys (Nat.le_refl _)
theorem mem_mrg_n {z:α}:∀ (n:Nat) (xs ys:List α),xs.length+ys.length≤n→(z∈mrg lt xs ys↔z∈xs∨z∈ys)
  | 0,[],[],_=>by simp [nil_mrg]
  | 0,x::xs,ys,h=>by simp only [List.length_cons] at h; omega
  | 0,[],y::ys,h=>by simp only [List.length_cons] at h; omega
  | n+1,[],ys,h=>by simp [nil_mrg]
  | n+1,x::xs,[],h=>by simp [mrg_nil]
  | n+1,x::xs,y::ys,h=>by
    simp only [List.length_cons] at h
    cases hc:lt y x
    · rw [mrg_ge lt hc,List.mem_cons,mem_mrg_n n xs (y::ys) (by simp only [List.length_cons]; omega)]
      simp only [List.mem_cons]
      constructor
      · rintro (h | h | h | h) <;> simp [h]
      · rintro ((h | h) | h | h) <;> simp [h]
    · rw [mrg_lt lt hc,List.mem_cons,mem_mrg_n n (x::xs) ys (by simp only [List.length_cons]; omega)]
      simp only [List.mem_cons]
      constructor
      · rintro (h | (h | h) | h) <;> simp [h]
      · rintro ((h | h) | h | h) <;> simp [h]
theorem mem_mrg {z:α} {xs ys:List α}:z∈mrg lt xs ys↔z∈xs∨z∈ys:=mem_mrg_n _ xs ys (Nat.le_refl _)
abbrev Srt (lt:α→α→Bool) (l:List α):Prop:=l.Pairwise (fun a b=>lt b a=false)
theorem mrg_sorted_n (h:Swo lt):∀ (n:Nat) (xs ys:List α),xs.length+ys.length≤n→Srt lt xs→Srt lt ys→Srt lt (mrg lt xs ys)
  | 0,[],[],_,_,_=>by simp [nil_mrg,Srt]
  | 0,x::xs,ys,h,_,_=>by simp only [List.length_cons] at h; omega
  | 0,[],y::ys,h,_,_=>by simp only [List.length_cons] at h; omega
  | n+1,[],ys,_,_,hy=>by rw [nil_mrg]; exact hy
  | n+1,x::xs,[],_,hx,_=>by rw [mrg_nil]; exact hx
  | n+1,x::xs,y::ys,hl,hx,hy=>by
    simp only [List.length_cons] at hl
    have hx':=List.pairwise_cons.1 hx
    have hy':=List.pairwise_cons.1 hy
    cases hc:lt y x
    · rw [mrg_ge lt hc]
      refine List.pairwise_cons.2 ⟨fun z hz=>?_,mrg_sorted_n h n xs (y::ys) (by simp only [List.length_cons]; omega) hx'.2 hy⟩
      rcases mem_mrg.1 hz with hz | hz
      · exact hx'.1 z hz
      · rcases List.mem_cons.1 hz with rfl | hz
        · exact hc
        · exact h.neg z y x (hy'.1 z hz) hc
    · rw [mrg_lt lt hc]
      refine List.pairwise_cons.2 ⟨fun z hz=>?_,mrg_sorted_n h n (x::xs) ys (by simp only [List.length_cons]; omega) hx hy'.2⟩
      rcases mem_mrg.1 hz with hz | hz
      · rcases List.mem_cons.1 hz with rfl | hz
        · exact h.asym _ _ hc
        · exact h.neg z x y (hx'.1 z hz) (h.asym _ _ hc)
      · exact hy'.1 z hz
theorem mrg_sorted (h:Swo lt) {xs ys:List α} (hx:Srt lt xs) (hy:Srt lt ys):Srt lt (mrg lt xs ys):=mrg_sorted_n h _ xs ys (Nat.le_refl _) hx hy
theorem mrg_split_n:∀ (n:Nat) (L1 L2 R1 R2:List α),L1.length+R1.length≤n→(∀ x∈L2,∀ y∈R1,lt y x=true)→(∀ x∈L1,∀ y∈R2,lt y x=false)→mrg lt (L1++L2) (R1++R2)=mrg lt L1 R1++mrg lt L2 R2
  | n,[],L2,[],R2,_,_,_=>by simp [nil_mrg]
  | 0,x::L1,L2,R1,R2,h,_,_=>by simp only [List.length_cons] at h; omega
  | 0,[],L2,y::R1,R2,h,_,_=>by simp only [List.length_cons] at h; omega
  | n+1,[],L2,y::R1,R2,h,h1,h2=>by
    simp only [List.length_cons] at h
    have ih:=mrg_split_n n [] L2 R1 R2 (by simp only [List.length_nil]; simp only [List.length_nil] at h; omega) (fun x hx z hz=>h1 x hx z (by simp [hz])) (fun x hx=>by cases hx)
    rw [nil_mrg] at ih
    simp only [List.nil_append] at ih ⊢
    rw [nil_mrg]
    cases L2 with
    | nil=>rw [nil_mrg,nil_mrg]
    | cons x L2 =>
      rw [List.cons_append,mrg_lt lt (h1 x (by simp) y (by simp)),ih]
      rfl
  | n+1,x::L1,L2,[],R2,h,h1,h2=>by
    simp only [List.length_cons] at h
    have ih:=mrg_split_n n L1 L2 [] R2 (by simp only [List.length_nil] at h ⊢; omega) (fun z hz y hy=>by cases hy) (fun z hz y hy=>h2 z (by simp [hz]) y hy)
    rw [mrg_nil] at ih ⊢
    simp only [List.nil_append] at ih ⊢
    cases R2 with
    | nil=>rw [mrg_nil,mrg_nil]
    | cons y R2 =>
      rw [List.cons_append,mrg_ge lt (h2 x (by simp) y (by simp)),ih]
      rfl
  | n+1,x::L1,L2,y::R1,R2,h,h1,h2=>by
    simp only [List.length_cons] at h
    simp only [List.cons_append]
    cases hc:lt y x
    · rw [mrg_ge lt hc,mrg_ge lt hc]
      have ih:=mrg_split_n n L1 L2 (y::R1) R2 (by simp only [List.length_cons]; omega) h1 (fun z hz w hw=>h2 z (by simp [hz]) w hw)
      rw [List.cons_append] at ih
      rw [ih]
      rfl
    · rw [mrg_lt lt hc,mrg_lt lt hc]
      have ih:=mrg_split_n n (x::L1) L2 R1 R2 (by simp only [List.length_cons]; omega) (fun z hz w hw=>h1 z hz w (by simp [hw])) h2
      rw [List.cons_append] at ih
      rw [ih]
      rfl
theorem mrg_split {L1 L2 R1 R2:List α} (h1:∀ x∈L2,∀ y∈R1,lt y x=true) (h2:∀ x∈L1,∀ y∈R2,lt y x=false):mrg lt (L1++L2) (R1++R2)=mrg lt L1 R1++mrg lt L2 R2:=mrg_split_n _ L1 L2 R1 R2 (Nat.le_refl _) h1 h2
theorem mrg_one_l {x:α} {R1 R2:List α} (h1:∀ y∈R1,lt y x=true) (h2:∀ y∈R2,lt y x=false):mrg lt [x] (R1++R2)=R1++x::R2:=by
  have a:=mrg_split (lt:=lt) (L1:=[]) (L2:=[x]) (R1:=R1) (R2:=R2) (fun z hz y hy=>by simp at hz; subst hz; exact h1 y hy) (fun z hz=>by cases hz)
  have b:=mrg_split (lt:=lt) (L1:=[x]) (L2:=[]) (R1:=[]) (R2:=R2) (fun z hz=>by cases hz) (fun z hz y hy=>by simp at hz; subst hz; exact h2 y hy)
  simp only [List.nil_append,List.append_nil,nil_mrg,mrg_nil] at a b
  rw [a,b]
  rfl
theorem mrg_one_r {y:α} {L1 L2:List α} (h1:∀ x∈L1,lt y x=false) (h2:∀ x∈L2,lt y x=true):mrg lt (L1++L2) [y]=L1++y::L2:=by
  have a:=mrg_split (lt:=lt) (L1:=L1) (L2:=L2) (R1:=[]) (R2:=[y]) (fun z hz y hy=>by cases hy) (fun z hz w hw=>by simp at hw; subst hw; exact h1 z hz)
  have b:=mrg_split (lt:=lt) (L1:=[]) (L2:=L2) (R1:=[y]) (R2:=[]) (fun z hz w hw=>by simp at hw; subst hw; exact h2 z hz) (fun z hz=>by cases hz)
  simp only [List.nil_append,List.append_nil,nil_mrg,mrg_nil] at a b
  rw [a,b]
  rfl
theorem mrg_assoc_n (h:Swo lt):∀ (n:Nat) (xs ys zs:List α),xs.length+ys.length+zs.length≤n→mrg lt (mrg lt xs ys) zs=mrg lt xs (mrg lt ys zs)
  | _,[],ys,zs,_=>by rw [nil_mrg,nil_mrg]
  | _,x::xs,[],zs,_=>by rw [mrg_nil,nil_mrg]
  | _,x::xs,y::ys,[],_=>by rw [mrg_nil,mrg_nil]
  | 0,x::xs,y::ys,z::zs,hl=>by simp only [List.length_cons] at hl; omega
  | n+1,x::xs,y::ys,z::zs,hl=>by
    simp only [List.length_cons] at hl
    cases hxy:lt y x <;> cases hyz:lt z y
    · rw [mrg_ge lt hxy,mrg_ge lt hyz,mrg_ge lt hxy,mrg_ge lt (h.neg _ _ _ hyz hxy),mrg_assoc_n h n xs (y::ys) (z::zs) (by simp only [List.length_cons]; omega),mrg_ge lt hyz]
    · rw [mrg_ge lt hxy,mrg_lt lt hyz]
      cases hxz:lt z x
      · rw [mrg_ge lt hxz,mrg_ge lt hxz,mrg_assoc_n h n xs (y::ys) (z::zs) (by simp only [List.length_cons]; omega),mrg_lt lt hyz]
      · rw [mrg_lt lt hxz,mrg_lt lt hxz,← mrg_assoc_n h n (x::xs) (y::ys) zs (by simp only [List.length_cons]; omega),mrg_ge lt hxy]
    · rw [mrg_lt lt hxy,mrg_ge lt hyz,mrg_ge lt hyz,mrg_lt lt hxy,mrg_assoc_n h n (x::xs) ys (z::zs) (by simp only [List.length_cons]; omega)]
    · have hxz:lt z x=true:=h.trans hyz hxy
      rw [mrg_lt lt hxy,mrg_lt lt hyz,mrg_lt lt hyz,mrg_lt lt hxz,← mrg_assoc_n h n (x::xs) (y::ys) zs (by simp only [List.length_cons]; omega),mrg_lt lt hxy]
theorem mrg_assoc (h:Swo lt) (xs ys zs:List α):mrg lt (mrg lt xs ys) zs=mrg lt xs (mrg lt ys zs):=mrg_assoc_n h _ xs ys zs (Nat.le_refl _)
def stab (lt:α→α→Bool) (l:List α):List α:=l.foldl (fun acc x=>mrg lt acc [x]) []
theorem stab_foldl (h:Swo lt):∀ (l:List α) (acc:List α),l.foldl (fun acc x=>mrg lt acc [x]) acc=mrg lt acc (stab lt l)
  | [],acc=>by simp [stab,mrg_nil]
  | x::l,acc=>by
    have ih:=stab_foldl h l
    unfold stab
    simp only [List.foldl_cons]
    rw [ih,nil_mrg,ih [x],mrg_assoc h]
theorem stab_append (h:Swo lt) (l1 l2:List α):stab lt (l1++l2)=mrg lt (stab lt l1) (stab lt l2):=by
  have:stab lt (l1++l2)=l2.foldl (fun acc x=>mrg lt acc [x]) (stab lt l1):=by unfold stab; rw [List.foldl_append]
  rw [this,stab_foldl h]
theorem stab_snoc (l:List α) (x:α):stab lt (l++[x])=mrg lt (stab lt l) [x]:=by simp [stab]
theorem stab_len (h:Swo lt):∀ (l:List α),(stab lt l).length=l.length
  | []=>rfl
  | x::l=>by
    have:=stab_append h [x] l
    rw [List.singleton_append] at this
    rw [this,mrg_len,stab_len h l]
    simp [stab,nil_mrg]
    omega
theorem stab_sorted (h:Swo lt):∀ (l:List α),Srt lt (stab lt l)
  | []=>List.Pairwise.nil
  | x::l=>by
    have:=stab_append h [x] l
    rw [List.singleton_append] at this
    rw [this]
    refine mrg_sorted h ?_ (stab_sorted h l)
    simp [stab,nil_mrg,Srt]
end
end Go.Proofs.YtedkdnhhohcocaaDoor

namespace Go.Proofs.YtedkdnhhohcocaaDoor
open Go Go.Proofs.YtedkdnhhohcocaaDoor.Kit
section
variable {α:Type}
def Mv (d0 d:List α) (f:Nat→Nat):Prop:=d.length=d0.length∧∀ k,d[k]? = d0[f k]?
theorem Mv.refl (d:List α):Mv d d (fun k=>k):=⟨rfl,fun _=>rfl⟩
theorem Mv.then {d0 d1 d2:List α} {f g:Nat→Nat} (h:Mv d0 d1 f) (k:Mv d1 d2 g):Mv d0 d2 (fun i=>f (g i)):=⟨k.1.trans h.1,fun i=>(k.2 i).trans (h.2 _)⟩
theorem Mv.of {d0 d:List α} {f g:Nat→Nat} (h:Mv d0 d f) (e:∀ k,f k=g k):Mv d0 d g:=⟨h.1,fun k=>by rw [h.2,e]⟩
def sw2 (i j k:Nat):Nat:=if k=i then j else if k=j then i else k
theorem Mv.swap {d:List α} {i j:Nat} {x y:α} (hx:d[i]? = some x) (hy:d[j]? = some y):Mv d ((d.set i y).set j x) (sw2 i j):=by
  have hi:=(List.getElem?_eq_some_iff.1 hx).1
  have hj:=(List.getElem?_eq_some_iff.1 hy).1
  refine ⟨by simp,fun k=>?_⟩
  unfold sw2
  rw [List.getElem?_set,List.getElem?_set]
  by_cases h1:j=k
  · subst h1
    rw [if_pos rfl,if_pos (by simpa using hj)]
    by_cases h2:j=i
    · subst h2
      rw [if_pos rfl]
      exact hx.symm
    · rw [if_neg h2,if_pos rfl]
      exact hx.symm
  · rw [if_neg h1]
    by_cases h2:i=k
    · subst h2
      rw [if_pos rfl,if_pos hi,if_pos rfl,hy]
    · rw [if_neg h2,if_neg (Ne.symm h2),if_neg (Ne.symm h1)]
def swp (a b n k:Nat):Nat:=if a≤k∧k<a+n then k - a+b else if b≤k∧k<b+n then k - b+a else k
theorem swp_step {a b n k:Nat} (h:a+n<b):swp a b n (sw2 (a+n) (b+n) k)=swp a b (n+1) k:=by
  unfold swp sw2
  (repeat' split) <;> omega
def rotx (a p q k:Nat):Nat:=if a≤k∧k<a+q then k+p else if a+q≤k∧k<a+q+p then k - q else k
theorem rotx_eq {a p k:Nat}:swp a (a+p) p k=rotx a p p k:=by
  unfold swp rotx
  (repeat' split) <;> omega
theorem rotx_big {a p q k:Nat} (h:q<p):swp a (a+p) q (rotx (a+q) (p - q) q k)=rotx a p q k:=by
  unfold swp rotx
  (repeat' split) <;> omega
theorem rotx_small {a p q k:Nat} (h:p<q):swp a (a+q) p (rotx a p (q - p) k)=rotx a p q k:=by
  unfold swp rotx
  (repeat' split) <;> omega
theorem Mv.rot {A X Y B e:List α} (h:Mv (A++(X++(Y++B))) e (rotx A.length X.length Y.length)):e=A++(Y++(X++B)):=by
  refine List.ext_getElem? (fun k=>?_)
  rw [h.2]
  unfold rotx
  split
  · rename_i h1
    rw [List.getElem?_append_right (by omega),List.getElem?_append_right (by omega),List.getElem?_append_left (by omega),List.getElem?_append_right (by omega),List.getElem?_append_left (by omega)]
    congr 1
    omega
  · split
    · rename_i h1 h2
      rw [List.getElem?_append_right (by omega),List.getElem?_append_left (by omega),List.getElem?_append_right (by omega),List.getElem?_append_right (by omega),List.getElem?_append_left (by omega)]
      congr 1
      omega
    · rename_i h1 h2
      rcases Nat.lt_or_ge k A.length with h3 | h3
      · rw [List.getElem?_append_left h3,List.getElem?_append_left h3]
      · rw [List.getElem?_append_right h3,List.getElem?_append_right h3,List.getElem?_append_right (by omega),List.getElem?_append_right (by omega),List.getElem?_append_right (by omega),List.getElem?_append_right (by omega)]
        congr 1
        omega
def shf (a t k:Nat):Nat:=if a≤k∧k<a+t then k+1 else if k=a+t then a else k
theorem shf_step {a t k:Nat}:shf a t (sw2 (a+t) (a+t+1) k)=shf a (t+1) k:=by
  unfold shf sw2
  (repeat' split) <;> omega
def shb (m t k:Nat):Nat:=if m<k+t∧k≤m then k - 1 else if k+t=m then m else k
theorem shb_step {m t k:Nat} (h:t<m):shb m t (sw2 (m - t) (m - t - 1) k)=shb m (t+1) k:=by
  unfold shb sw2
  (repeat' split) <;> omega
theorem shf_rot {a t k:Nat}:shf a t k=rotx a 1 t k:=by
  unfold shf rotx
  (repeat' split) <;> omega
theorem shb_rot {a t k:Nat}:shb (a+t) t k=rotx a t 1 k:=by
  unfold shb rotx
  (repeat' split) <;> omega
end
end Go.Proofs.YtedkdnhhohcocaaDoor

namespace Go.Proofs.YtedkdnhhohcocaaDoor
open Go Go.Proofs.YtedkdnhhohcocaaDoor.Kit
theorem snoc_cases {α:Type} (l:List α):l=[]∨∃ l' a,l=l'++[a]:=by
  cases h:l.reverse with
  | nil=>exact .inl (by simpa using h)
  | cons x xs=>exact .inr ⟨xs.reverse,x,by have:=congrArg List.reverse h; simpa using this⟩
theorem atSet {α:Type} {xs:List α} {i:Int} {x:α} (h:at? xs i=some x) (j:Nat) (y:α):∃ x',at? (xs.set j y) i=some x':=by
  obtain ⟨h0,h1,h2⟩:=at?_some h
  have hlt:i.toNat<(xs.set j y).length:=by rw [List.length_set]; omega
  exact ⟨_,by unfold at?; rw [if_pos h0,List.getElem?_eq_getElem hlt]⟩
theorem at_nat {α:Type} {xs:List α} {i:Nat} (h:i<xs.length):at? xs (i:Int)=some xs[i]:=by simp [at?,h]
theorem at_app {α:Type} {A B:List α} {x:α} {i:Int} (h:i=(A.length:Int)):at? (A++x::B) i=some x:=by subst h; simp [at?]
theorem mono_split (f:Nat→Bool) (lo:Nat):∀ (n:Nat),(∀ i j,lo≤i→i≤j→j<lo+n→f j=true→f i=true)→∃ p,lo≤p∧p≤lo+n∧(∀ i,lo≤i→i<p→f i=true)∧(∀ i,p≤i→i<lo+n→f i=false)
  | 0,_=>⟨lo,by omega,by omega,fun i _ _=>by omega,fun i _ _=>by omega⟩
  | n+1,h=>by
    obtain ⟨p,h1,h2,h3,h4⟩:=mono_split f lo n (fun i j a b c d=>h i j a b (by omega) d)
    cases hf:f (lo+n)
    · refine ⟨p,h1,by omega,h3,fun i a b=>?_⟩
      by_cases hi:i=lo+n
      · subst hi; exact hf
      · exact h4 i a (by omega)
    · refine ⟨lo+n+1,by omega,by omega,fun i a b=>h i (lo+n) a (by omega) (by omega) hf,fun i a b=>by omega⟩
theorem bsN {β:Type} {E:Int→Option β} {L:Nat→Int→Int→Option β} {lo hi p:Nat} (hp1:lo≤p) (hp2:p≤hi)
    (h1:∀ (k i j:Nat),lo≤i→i<j→j≤hi→(i+j) / 2<p→L (k+1) i j=L k (((i+j) / 2+1:Nat):Int) j) (h2:∀ (k i j:Nat),lo≤i→i<j→j≤hi→p≤(i+j) / 2→L (k+1) i j=L k i (((i+j) / 2:Nat):Int))
    (hE:∀ (k i:Nat),L (k+1) i i=E i) (hb:hi<big):L big lo hi=E p:=by
  have key:∀ (d k i j:Nat),lo≤i→i≤p→p≤j→j≤hi→j - i≤d→d<k→L k i j=E p:=by
    intro d
    induction d with
    | zero =>
      intro k i j a1 a2 a3 a4 a5 a6
      obtain ⟨k,rfl⟩:∃ m,k=m+1:=⟨k - 1,by omega⟩
      have e1:i=p:=by omega
      have e2:j=p:=by omega
      subst e1 e2
      exact hE k _
    | succ d ih =>
      intro k i j a1 a2 a3 a4 a5 a6
      obtain ⟨k,rfl⟩:∃ m,k=m+1:=⟨k - 1,by omega⟩
      by_cases hij:i<j
      · by_cases hc:(i+j) / 2<p
        · rw [h1 k i j a1 hij a4 hc]
          exact ih k _ j (by omega) (by omega) a3 a4 (by omega) (by omega)
        · rw [h2 k i j a1 hij a4 (by omega)]
          exact ih k i _ a1 a2 (by omega) (by omega) (by omega) (by omega)
      · have e1:i=p:=by omega
        have e2:j=p:=by omega
        subst e1 e2
        exact hE k _
  exact key hi big lo hi (Nat.le_refl _) hp1 hp2 (Nat.le_refl _) (by omega) hb
theorem halfN {i j:Nat} (h1:i≤j) (h2:j≤2305843009213693952):w64 (iShr .u64 (IntKind.wrap .u64 (w64 ((i:Int)+(j:Int)))) 1)=(((i+j) / 2:Nat):Int):=by
  rw [half_eq (by omega) (by omega) (by omega)]
  omega
def cap60:Nat:=1152921504606846976
def ltU (a b:TestCase):Bool:=decide (b.Seconds<a.Seconds)
theorem ltU_swo:Swo ltU:=⟨fun x y h=>by simp [ltU] at *; omega,fun x y z h k=>by simp [ltU] at *; omega⟩
theorem cmpU (x y:TestCase):∃ z,trials_Shards_1.f x y=some z∧decide (z<0)=ltU x y:=by
  unfold trials_Shards_1.f cmp_Compare_int.f cmp_isNaN_int.f ltU
  simp only [bne_self_eq_false,Option.bind_some,cond_false]
  by_cases h1:y.Seconds<x.Seconds
  · exact ⟨-1,by simp [h1],by simp [h1]⟩
  · by_cases h2:x.Seconds<y.Seconds
    · exact ⟨1,by simp [h1,h2],by simp [h1]⟩
    · exact ⟨0,by simp [h1,h2],by simp [h1]⟩
theorem swap_loop {d0:List TestCase} {a b n:Nat} (hN:d0.length≤cap60) (hab:a+n≤b) (hb:b+n≤d0.length):∀ (r k i:Nat) (d:List TestCase),i+r=n→r<k→Mv d0 d (swp a b i)→∃ e,slices_swapRangeCmpFunc_TestCase.l1 k a b n d i=some e∧Mv d0 e (swp a b n)
  | 0,k,i,d,h1,h2,h3=>by
    obtain ⟨k,rfl⟩:∃ m,k=m+1:=⟨k - 1,by omega⟩
    have:i=n:=by omega
    subst this
    exact ⟨d,by simp [slices_swapRangeCmpFunc_TestCase.l1],h3⟩
  | r+1,k,i,d,h1,h2,h3=>by
    obtain ⟨k,rfl⟩:∃ m,k=m+1:=⟨k - 1,by omega⟩
    have hl:=h3.1
    unfold cap60 at hN
    have w1:w64 ((b:Int)+(i:Int))=((b+i:Nat):Int):=by rw [w64_id (by omega) (by omega)]; omega
    have w2:w64 ((a:Int)+(i:Int))=((a+i:Nat):Int):=by rw [w64_id (by omega) (by omega)]; omega
    have w3:w64 ((i:Int)+1)=((i+1:Nat):Int):=by rw [w64_id (by omega) (by omega)]; omega
    have hx1:=at_nat (xs:=d) (i:=b+i) (by omega)
    have hx2:=at_nat (xs:=d) (i:=a+i) (by omega)
    obtain ⟨x3,hx3⟩:=atSet hx1 (a+i) d[b+i]
    have g1:d[a+i]? = some d[a+i]:=List.getElem?_eq_getElem (by omega)
    have g2:d[b+i]? = some d[b+i]:=List.getElem?_eq_getElem (by omega)
    have hm:=(h3.then (Mv.swap g1 g2)).of (fun q=>swp_step (by omega))
    obtain ⟨e,he,hme⟩:=swap_loop hN hab hb r k (i+1) _ (by omega) (by omega) hm
    refine ⟨e,?_,hme⟩
    rw [slices_swapRangeCmpFunc_TestCase.l1,decide_eq_true (by omega),w1,w2,w3,hx1,hx2]
    simp only [cond_true,Option.bind_some,Int.toNat_natCast,hx3]
    exact he
theorem swapR {d:List TestCase} {a b n:Nat} (hN:d.length≤cap60) (hab:a+n≤b) (hb:b+n≤d.length):∃ e,slices_swapRangeCmpFunc_TestCase.f d a b n=some e∧Mv d e (swp a b n):=by
  unfold slices_swapRangeCmpFunc_TestCase.f
  refine swap_loop hN hab hb n big 0 d (by omega) (by unfold big; unfold cap60 at hN; omega) ((Mv.refl d).of (fun k=>?_))
  unfold swp
  rw [if_neg (by omega),if_neg (by omega)]
theorem rot_loop:∀ (s k p q m:Nat) (d:List TestCase),p+q≤s→0<p→0<q→p≤m→m+q≤d.length→d.length≤cap60→s<k→∃ e,slices_rotateCmpFunc_TestCase.l2 slices_rotateCmpFunc_TestCase.e1 k m d p q=some e∧Mv d e (rotx (m - p) p q)
  | 0,k,p,q,m,d,h1,h2,h3,_,_,_,_=>by omega
  | s+1,k,p,q,m,d,h1,h2,h3,h4,h5,h6,h7=>by
    obtain ⟨k,rfl⟩:∃ m,k=m+1:=⟨k - 1,by omega⟩
    have h6':d.length≤1152921504606846976:=h6
    have w1:w64 ((m:Int) - (p:Int))=((m - p:Nat):Int):=by rw [w64_id (by omega) (by omega)]; omega
    have w2:w64 ((w64 ((m:Int)+(q:Int))) - (p:Int))=((m+q - p:Nat):Int):=by rw [w64_id (n:=(m:Int)+(q:Int)) (by omega) (by omega),w64_id (by omega) (by omega)]; omega
    rw [slices_rotateCmpFunc_TestCase.l2]
    by_cases he:p=q
    · subst he
      obtain ⟨e,e1,e2⟩:=swapR (d:=d) (a:=m - p) (b:=m) (n:=p) h6 (by omega) (by omega)
      refine ⟨e,?_,e2.of (fun i=>?_)⟩
      · simp only [bne_self_eq_false,cond_false,slices_rotateCmpFunc_TestCase.e1,w1,e1,Option.bind_some]
      · rw [← rotx_eq,show m - p+p=m by omega]
    · have hb:((p:Int) != (q:Int))=true:=by simp; omega
      rw [hb]
      by_cases hlt:q<p
      · have w3:w64 ((p:Int) - (q:Int))=((p - q:Nat):Int):=by rw [w64_id (by omega) (by omega)]; omega
        obtain ⟨e1,f1,f2⟩:=swapR (d:=d) (a:=m - p) (b:=m) (n:=q) h6 (by omega) (by omega)
        obtain ⟨e,g1,g2⟩:=rot_loop s k (p - q) q m e1 (by omega) (by omega) h3 (by omega) (by rw [f2.1]; exact h5) (by rw [f2.1]; exact h6) (by omega)
        refine ⟨e,?_,(f2.then g2).of ?_⟩
        · rw [decide_eq_true (show (q:Int)<(p:Int) by omega)]
          simp only [cond_true,w1,f1,Option.bind_some,w3]
          exact g1
        · intro i
          have:=rotx_big (a:=m - p) (p:=p) (q:=q) (k:=i) hlt
          rw [show m - p+p=m by omega,show m - p+q=m - (p - q) by omega] at this
          exact this
      · have w3:w64 ((q:Int) - (p:Int))=((q - p:Nat):Int):=by rw [w64_id (by omega) (by omega)]; omega
        obtain ⟨e1,f1,f2⟩:=swapR (d:=d) (a:=m - p) (b:=m+q - p) (n:=p) h6 (by omega) (by omega)
        obtain ⟨e,g1,g2⟩:=rot_loop s k p (q - p) m e1 (by omega) h2 (by omega) h4 (by rw [f2.1]; omega) (by rw [f2.1]; exact h6) (by omega)
        refine ⟨e,?_,(f2.then g2).of ?_⟩
        · rw [decide_eq_false (show ¬ (q:Int)<(p:Int) by omega)]
          simp only [cond_true,cond_false,w1,w2,f1,Option.bind_some,w3]
          exact g1
        · intro i
          have:=rotx_small (a:=m - p) (p:=p) (q:=q) (k:=i) (by omega)
          rw [show m - p+q=m+q - p by omega] at this
          exact this
theorem rot_list {A X Y B:List TestCase} (hX:X≠[]) (hY:Y≠[]) (hN:(A++(X++(Y++B))).length≤cap60):slices_rotateCmpFunc_TestCase.f (A++(X++(Y++B))) (A.length:Int) ((A.length+X.length:Nat):Int) ((A.length+X.length+Y.length:Nat):Int)=some (A++(Y++(X++B))):=by
  have hx:=List.length_pos_iff.2 hX
  have hy:=List.length_pos_iff.2 hY
  have hN':(A++(X++(Y++B))).length≤1152921504606846976:=hN
  simp only [List.length_append] at hN'
  unfold slices_rotateCmpFunc_TestCase.f
  have w1:w64 (((A.length+X.length:Nat):Int) - (A.length:Int))=(X.length:Int):=by rw [w64_id (by omega) (by omega)]; omega
  have w2:w64 (((A.length+X.length+Y.length:Nat):Int) - ((A.length+X.length:Nat):Int))=(Y.length:Int):=by rw [w64_id (by omega) (by omega)]; omega
  rw [w1,w2]
  obtain ⟨e,h1,h2⟩:=rot_loop (X.length+Y.length) big X.length Y.length (A.length+X.length) (A++(X++(Y++B))) (Nat.le_refl _) hx hy (by omega) (by simp only [List.length_append]; omega) hN (by unfold big; omega)
  rw [h1]
  rw [show A.length+X.length - X.length=A.length by omega] at h2
  rw [h2.rot]
theorem set_two {α:Type} (P T:List α) (z x:α):((P++z::x::T).set (P.length+1) z).set P.length x=P++x::z::T:=by
  simp [List.set_append]
theorem ins_inner {e2:Int→Int→Int→List TestCase→Option (List TestCase)} {A R:List TestCase} {x:TestCase} {a b i:Int} (ha:a=(A.length:Int)):∀ (s k:Nat) (S1 S2:List TestCase),S1.length=s→s<k→(A.length+S1.length:Nat)≤cap60→Srt ltU (S1++S2)→(∀ y∈S2,ltU x y=true) →
    slices_insertionSortCmpFunc_TestCase.l3 e2 k a b i (A++(S1++x::(S2++R))) ((A.length+S1.length:Nat):Int)=e2 a b i (A++(mrg ltU (S1++S2) [x]++R))
  | s,k,S1,S2,h1,h2,h3,h4,h5=>by
    obtain ⟨k,rfl⟩:∃ m,k=m+1:=⟨k - 1,by omega⟩
    rcases snoc_cases S1 with rfl | ⟨S1',z,rfl⟩
    · subst ha
      rw [slices_insertionSortCmpFunc_TestCase.l3,decide_eq_false (by simp)]
      simp only [cond_false,Option.bind_some,List.nil_append]
      have:=mrg_one_r (lt:=ltU) (y:=x) (L1:=[]) (L2:=S2) (fun _ h=>by cases h) h5
      rw [List.nil_append] at this
      rw [this]
      simp
    · simp only [List.length_append,List.length_cons,List.length_nil] at h1 h3 ⊢
      have h3':A.length+(S1'.length+(0+1))≤1152921504606846976:=h3
      have e0:A++(S1'++[z]++x::(S2++R))=(A++S1')++z::x::(S2++R):=by simp
      have w1:w64 (((A.length+(S1'.length+(0+1)):Nat):Int) - 1)=((A.length+S1'.length:Nat):Int):=by rw [w64_id (by omega) (by omega)]; omega
      have g1:at? (A++(S1'++[z]++x::(S2++R))) ((A.length+(S1'.length+(0+1)):Nat):Int)=some x:=by
        rw [show A++(S1'++[z]++x::(S2++R))=(A++(S1'++[z]))++x::(S2++R) by simp]
        exact at_app (by simp)
      have g2:at? (A++(S1'++[z]++x::(S2++R))) ((A.length+S1'.length:Nat):Int)=some z:=by
        rw [e0]
        exact at_app (by simp)
      obtain ⟨c,hc1,hc2⟩:=cmpU x z
      rw [slices_insertionSortCmpFunc_TestCase.l3,decide_eq_true (by omega),w1,g1,g2]
      simp only [cond_true,Option.bind_some,hc1,hc2]
      cases hlt:ltU x z
      · simp only [cond_false]
        have hs1:∀ y∈S1'++[z],ltU x y=false:=by
          intro y hy
          rw [List.append_assoc] at h4
          rcases List.mem_append.1 hy with hy | hy
          · have:=(List.pairwise_append.1 h4).2.2 y hy z (by simp)
            exact ltU_swo.neg _ _ _ hlt this
          · simp at hy; subst hy; exact hlt
        rw [mrg_one_r (lt:=ltU) hs1 h5]
        simp
      · simp only [cond_true,Int.toNat_natCast]
        obtain ⟨x5,hx5⟩:=atSet g2 (A.length+(S1'.length+(0+1))) z
        rw [hx5]
        simp only [Option.bind_some]
        have hset:=set_two (A++S1') (S2++R) z x
        rw [e0,show A.length+(S1'.length+(0+1))=(A++S1').length+1 by simp; omega,show A.length+S1'.length=(A++S1').length by simp,hset]
        have hsz:S1'.length<s:=by omega
        have ih:=ins_inner (e2:=e2) (R:=R) (b:=b) (i:=i) ha S1'.length k S1' (z::S2) rfl (by omega) (by unfold cap60; omega) (by rw [List.append_assoc] at h4; exact h4) (fun y hy=>by
          rcases List.mem_cons.1 hy with rfl | hy
          · exact hlt
          · exact h5 y hy)
        rw [show (A++S1').length=A.length+S1'.length by simp]
        rw [show A++S1'++x::z::(S2++R)=A++(S1'++x::(z::S2++R)) by simp]
        rw [ih]
        simp
termination_by s=>s
theorem ins_outer {A B:List TestCase} {a b:Int} (ha:a=(A.length:Int)):∀ (Rr:List TestCase) (k:Nat) (S:List TestCase),Rr.length<k→(A.length+S.length+Rr.length:Nat)≤cap60→b=((A.length+S.length+Rr.length:Nat):Int) →
    slices_insertionSortCmpFunc_TestCase.l1 k a b (A++(stab ltU S++(Rr++B))) ((A.length+S.length:Nat):Int)=some (A++(stab ltU (S++Rr)++B))
  | [],k,S,h1,h2,hb=>by
    obtain ⟨k,rfl⟩:∃ m,k=m+1:=⟨k - 1,by omega⟩
    rw [slices_insertionSortCmpFunc_TestCase.l1,decide_eq_false (by rw [hb]; simp)]
    simp
  | x::Rr,k,S,h1,h2,hb=>by
    simp only [List.length_cons] at h1 h2 hb
    have h2':A.length+S.length+(Rr.length+1)≤1152921504606846976:=h2
    obtain ⟨k,rfl⟩:∃ m,k=m+1:=⟨k - 1,by omega⟩
    rw [slices_insertionSortCmpFunc_TestCase.l1,decide_eq_true (by omega)]
    simp only [cond_true]
    have hi:=ins_inner (e2:=slices_insertionSortCmpFunc_TestCase.e2 (slices_insertionSortCmpFunc_TestCase.l1 k)) (A:=A) (R:=Rr++B) (x:=x) (a:=a) (b:=b) (i:=((A.length+S.length:Nat):Int)) ha S.length big (stab ltU S) [] (stab_len ltU_swo S) (by unfold big; omega) (by rw [stab_len ltU_swo]; unfold cap60; omega) (by rw [List.append_nil]; exact stab_sorted ltU_swo S) (fun y hy=>by cases hy)
    rw [stab_len ltU_swo,List.append_nil,List.nil_append] at hi
    rw [List.cons_append,hi]
    unfold slices_insertionSortCmpFunc_TestCase.e2
    have w1:w64 (((A.length+S.length:Nat):Int)+1)=((A.length+(S++[x]).length:Nat):Int):=by rw [w64_id (by omega) (by omega)]; simp; omega
    rw [w1,← stab_snoc]
    have:=ins_outer (b:=b) (B:=B) ha Rr k (S++[x]) (by omega) (by simp; unfold cap60; omega) (by rw [hb]; simp; omega)
    rw [this]
    simp
theorem ins_list {A X B:List TestCase} (h:(A.length+X.length:Nat)≤cap60):slices_insertionSortCmpFunc_TestCase.f (A++(X++B)) (A.length:Int) ((A.length+X.length:Nat):Int)=some (A++(stab ltU X++B)):=by
  unfold slices_insertionSortCmpFunc_TestCase.f
  have h':A.length+X.length≤1152921504606846976:=h
  have w1:w64 ((A.length:Int)+1)=((A.length+1:Nat):Int):=by rw [w64_id (by omega) (by omega)]; omega
  rw [w1]
  cases X with
  | nil =>
    have:big=(big - 1)+1:=by unfold big; omega
    rw [this,slices_insertionSortCmpFunc_TestCase.l1,decide_eq_false (by simp; omega)]
    simp [stab]
  | cons x X =>
    have:=ins_outer (A:=A) (B:=B) (a:=(A.length:Int)) (b:=((A.length+(x::X).length:Nat):Int)) rfl X big [x] (by unfold big; simp at h'; omega) (by simp at h' ⊢; unfold cap60; omega) (by simp; omega)
    rw [show stab ltU [x]=[x] by simp [stab,nil_mrg]] at this
    simp only [List.length_cons,List.length_nil] at this ⊢
    exact this
end Go.Proofs.YtedkdnhhohcocaaDoor

namespace Go.Proofs.YtedkdnhhohcocaaDoor
open Go Go.Proofs.YtedkdnhhohcocaaDoor.Kit
theorem fwd_loop {d0:List TestCase} {a i:Nat} (hN:d0.length≤cap60) (hi:i≤d0.length) (ha:a<i):∀ (r k t:Nat) (d:List TestCase),a+t+1+r=i→r<k→Mv d0 d (shf a t)→∃ e,slices_symMergeCmpFunc_TestCase.l2 k i d ((a+t:Nat):Int)=some e∧Mv d0 e (shf a (i - 1 - a))
  | 0,k,t,d,h1,h2,h3=>by
    obtain ⟨k,rfl⟩:∃ m,k=m+1:=⟨k - 1,by omega⟩
    have hN':d0.length≤1152921504606846976:=hN
    have w1:w64 ((i:Int) - 1)=((i - 1:Nat):Int):=by rw [w64_id (by omega) (by omega)]; omega
    refine ⟨d,?_,?_⟩
    · rw [slices_symMergeCmpFunc_TestCase.l2,w1,decide_eq_false (by omega)]
      rfl
    · rw [show i - 1 - a=t by omega]
      exact h3
  | r+1,k,t,d,h1,h2,h3=>by
    obtain ⟨k,rfl⟩:∃ m,k=m+1:=⟨k - 1,by omega⟩
    have hN':d0.length≤1152921504606846976:=hN
    have hl:=h3.1
    have w1:w64 ((i:Int) - 1)=((i - 1:Nat):Int):=by rw [w64_id (by omega) (by omega)]; omega
    have w2:w64 (((a+t:Nat):Int)+1)=((a+t+1:Nat):Int):=by rw [w64_id (by omega) (by omega)]; omega
    have hx1:=at_nat (xs:=d) (i:=a+t+1) (by omega)
    have hx2:=at_nat (xs:=d) (i:=a+t) (by omega)
    obtain ⟨x3,hx3⟩:=atSet hx1 (a+t) d[a+t+1]
    have g1:d[a+t]? = some d[a+t]:=List.getElem?_eq_getElem (by omega)
    have g2:d[a+t+1]? = some d[a+t+1]:=List.getElem?_eq_getElem (by omega)
    have hm:=(h3.then (Mv.swap g1 g2)).of (fun q=>shf_step)
    obtain ⟨e,he,hme⟩:=fwd_loop hN hi ha r k (t+1) _ (by omega) (by omega) hm
    refine ⟨e,?_,hme⟩
    rw [slices_symMergeCmpFunc_TestCase.l2,w1,decide_eq_true (by omega),w2,hx1,hx2]
    simp only [cond_true,Option.bind_some,Int.toNat_natCast,hx3]
    exact he
theorem bwd_loop {d0:List TestCase} {m i:Nat} (hN:d0.length≤cap60) (hm:m<d0.length) (hi:i≤m):∀ (r k t:Nat) (d:List TestCase),i+r+t=m→r<k→Mv d0 d (shb m t)→∃ e,slices_symMergeCmpFunc_TestCase.l5 k i d ((m - t:Nat):Int)=some e∧Mv d0 e (shb m (m - i))
  | 0,k,t,d,h1,h2,h3=>by
    obtain ⟨k,rfl⟩:∃ m,k=m+1:=⟨k - 1,by omega⟩
    refine ⟨d,?_,?_⟩
    · rw [slices_symMergeCmpFunc_TestCase.l5,decide_eq_false (by omega)]
      rfl
    · rw [show m - i=t by omega]
      exact h3
  | r+1,k,t,d,h1,h2,h3=>by
    obtain ⟨k,rfl⟩:∃ m,k=m+1:=⟨k - 1,by omega⟩
    have hN':d0.length≤1152921504606846976:=hN
    have hl:=h3.1
    have w1:w64 (((m - t:Nat):Int) - 1)=((m - t - 1:Nat):Int):=by rw [w64_id (by omega) (by omega)]; omega
    have hx1:=at_nat (xs:=d) (i:=m - t - 1) (by omega)
    have hx2:=at_nat (xs:=d) (i:=m - t) (by omega)
    obtain ⟨x3,hx3⟩:=atSet hx1 (m - t) d[m - t - 1]
    have g1:d[m - t]? = some d[m - t]:=List.getElem?_eq_getElem (by omega)
    have g2:d[m - t - 1]? = some d[m - t - 1]:=List.getElem?_eq_getElem (by omega)
    have hm':=(h3.then (Mv.swap g1 g2)).of (fun q=>shb_step (by omega))
    obtain ⟨e,he,hme⟩:=bwd_loop hN hm hi r k (t+1) _ (by omega) (by omega) hm'
    refine ⟨e,?_,hme⟩
    rw [slices_symMergeCmpFunc_TestCase.l5,decide_eq_true (by omega),w1,hx1,hx2]
    simp only [cond_true,Option.bind_some,Int.toNat_natCast,hx3]
    rw [show m - t - 1=m - (t+1) by omega] at *
    exact he
theorem srt_get {l:List TestCase} (h:Srt ltU l) {i j:Nat} (hj:j<l.length) (hij:i≤j):ltU l[j] (l[i]'(by omega))=false:=by
  rcases Nat.lt_or_ge i j with h1 | h1
  · exact List.pairwise_iff_getElem.1 h i j (by omega) hj h1
  · have:i=j:=by omega
    subst this
    cases hc:ltU l[i] l[i]
    · rfl
    · have:=ltU_swo.asym _ _ hc
      rw [hc] at this
      cases this
theorem mem_take_get {α:Type} {l:List α} {n:Nat} {x:α} (h:x∈l.take n):∃ i,∃ (hi:i<l.length),i<n∧x=l[i]:=by
  obtain ⟨i,hi,rfl⟩:=List.getElem_of_mem h
  simp only [List.length_take] at hi
  exact ⟨i,by omega,by omega,by simp⟩
theorem mem_drop_get {α:Type} {l:List α} {n:Nat} {x:α} (h:x∈l.drop n):∃ i,∃ (hi:i<l.length),n≤i∧x=l[i]:=by
  obtain ⟨i,hi,rfl⟩:=List.getElem_of_mem h
  simp only [List.length_drop] at hi
  exact ⟨n+i,by omega,by omega,by simp⟩
theorem sm_left {A R B:List TestCase} {x:TestCase} (hR:Srt ltU R) (hN:(A++(x::(R++B))).length≤cap60) :
    slices_symMergeCmpFunc_TestCase.l3 slices_symMergeCmpFunc_TestCase.e1 big (A++(x::(R++B))) (A.length:Int) ((A.length+1:Nat):Int) ((A.length+1+R.length:Nat):Int)=some (A++(mrg ltU [x] R++B)):=by
  have hN':(A++(x::(R++B))).length≤1152921504606846976:=hN
  simp only [List.length_append,List.length_cons] at hN'
  obtain ⟨p,p1,p2,p3,p4⟩:=mono_split (fun i=>match R[i]? with | some y=>ltU y x | none=>false) 0 R.length (fun i j _ hij hj h=>by
    rw [List.getElem?_eq_getElem (by omega)] at h ⊢
    simp only at h ⊢
    exact ltU_swo.lt_of_le_lt (srt_get hR (by omega) hij) h)
  rw [Nat.zero_add] at p2 p4
  have hat:∀ h:Nat,A.length+1≤h→∀ (hh:h - (A.length+1)<R.length),at? (A++(x::(R++B))) (h:Int)=some R[h - (A.length+1)]:=by
    intro h h1 h2
    have e:A++(x::(R++B))=(A++[x])++(R++B):=by simp
    have hlt:h<(A++(x::(R++B))).length:=by simp; omega
    rw [at_nat hlt]
    congr 1
    simp only [e]
    rw [List.getElem_append_right (by simp; omega),List.getElem_append_left (by simp; omega)]
    simp
  have hax:at? (A++(x::(R++B))) (A.length:Int)=some x:=at_app rfl
  rw [bsN (L:=fun k i j=>slices_symMergeCmpFunc_TestCase.l3 slices_symMergeCmpFunc_TestCase.e1 k (A++(x::(R++B))) (A.length:Int) i j) (E:=fun i=>slices_symMergeCmpFunc_TestCase.e1 (A++(x::(R++B))) (A.length:Int) i) (p:=A.length+1+p) (by omega) (by omega) ?_ ?_ ?_ (by unfold big; omega)]
  · -- the element goes on
    unfold slices_symMergeCmpFunc_TestCase.e1
    obtain ⟨e,h1,h2⟩:=fwd_loop (d0:=A++(x::(R++B))) (a:=A.length) (i:=A.length+1+p) hN (by simp; omega) (by omega) p big 0 _ (by omega) (by unfold big; omega) ((Mv.refl _).of (fun k=>by unfold shf; split <;> (try split) <;> omega))
    simp only [Nat.add_zero] at h1
    rw [h1]
    rw [show A.length+1+p - 1 - A.length=p by omega] at h2
    have h3:=h2.of (fun k=>shf_rot)
    have e0:A++(x::(R++B))=A++([x]++(R.take p++(R.drop p++B))):=by
      rw [← List.append_assoc (R.take p),List.take_append_drop]; rfl
    rw [e0] at h3
    have h4:=Mv.rot (A:=A) (X:=[x]) (Y:=R.take p) (B:=R.drop p++B) (e:=e) (by rw [List.length_take,Nat.min_eq_left p2]; exact h3)
    rw [h4]
    have:=mrg_one_l (lt:=ltU) (x:=x) (R1:=R.take p) (R2:=R.drop p) (fun y hy=>by
      obtain ⟨i,hi,hip,rfl⟩:=mem_take_get hy
      have:=p3 i (by omega) hip
      rw [List.getElem?_eq_getElem hi] at this
      exact this) (fun y hy=>by
      obtain ⟨i,hi,hip,rfl⟩:=mem_drop_get hy
      have:=p4 i hip hi
      rw [List.getElem?_eq_getElem hi] at this
      exact this)
    rw [List.take_append_drop] at this
    rw [this]
    simp
  · intro k i j a1 a2 a3 a4
    obtain ⟨c,hc1,hc2⟩:=cmpU (R[(i+j) / 2 - (A.length+1)]'(by omega)) x
    have hlt:ltU (R[(i+j) / 2 - (A.length+1)]'(by omega)) x=true:=by
      have:=p3 ((i+j) / 2 - (A.length+1)) (by omega) (by omega)
      rw [List.getElem?_eq_getElem (by omega)] at this
      exact this
    simp only [slices_symMergeCmpFunc_TestCase.l3]
    rw [decide_eq_true (by omega),halfN (by omega) (by omega),hat _ (by omega) (by omega),hax]
    simp only [cond_true,Option.bind_some,hc1,hc2,hlt]
    rw [show w64 ((((i+j) / 2:Nat):Int)+1)=(((i+j) / 2+1:Nat):Int) by rw [w64_id (by omega) (by omega)]; omega]
  · intro k i j a1 a2 a3 a4
    obtain ⟨c,hc1,hc2⟩:=cmpU (R[(i+j) / 2 - (A.length+1)]'(by omega)) x
    have hlt:ltU (R[(i+j) / 2 - (A.length+1)]'(by omega)) x=false:=by
      have:=p4 ((i+j) / 2 - (A.length+1)) (by omega) (by omega)
      rw [List.getElem?_eq_getElem (by omega)] at this
      exact this
    simp only [slices_symMergeCmpFunc_TestCase.l3]
    rw [decide_eq_true (by omega),halfN (by omega) (by omega),hat _ (by omega) (by omega),hax]
    simp only [cond_true,Option.bind_some,hc1,hc2,hlt,cond_false]
  · intro k i
    simp only [slices_symMergeCmpFunc_TestCase.l3]
    rw [decide_eq_false (by omega)]
    rfl
theorem sm_right {A L B:List TestCase} {y:TestCase} (hL:Srt ltU L) (hN:(A++(L++(y::B))).length≤cap60) :
    slices_symMergeCmpFunc_TestCase.l6 slices_symMergeCmpFunc_TestCase.e4 big (A++(L++(y::B))) ((A.length+L.length:Nat):Int) (A.length:Int) ((A.length+L.length:Nat):Int)=some (A++(mrg ltU L [y]++B)):=by
  have hN':(A++(L++(y::B))).length≤1152921504606846976:=hN
  simp only [List.length_append,List.length_cons] at hN'
  obtain ⟨p,p1,p2,p3,p4⟩:=mono_split (fun i=>match L[i]? with | some x=>!ltU y x | none=>false) 0 L.length (fun i j _ hij hj h=>by
    rw [List.getElem?_eq_getElem (by omega)] at h ⊢
    simp only [Bool.not_eq_true'] at h ⊢
    cases hc:ltU y L[i]
    · rfl
    · rw [ltU_swo.lt_of_lt_le hc (srt_get hL (show j<L.length by omega) hij)] at h
      cases h)
  rw [Nat.zero_add] at p2 p4
  have hat:∀ h:Nat,A.length≤h→∀ (hh:h - A.length<L.length),at? (A++(L++(y::B))) (h:Int)=some L[h - A.length]:=by
    intro h h1 h2
    have hlt:h<(A++(L++(y::B))).length:=by simp; omega
    rw [at_nat hlt]
    congr 1
    rw [List.getElem_append_right (by omega),List.getElem_append_left (by omega)]
  have hay:at? (A++(L++(y::B))) ((A.length+L.length:Nat):Int)=some y:=by
    rw [← List.append_assoc]
    exact at_app (by simp)
  rw [bsN (L:=fun k i j=>slices_symMergeCmpFunc_TestCase.l6 slices_symMergeCmpFunc_TestCase.e4 k (A++(L++(y::B))) ((A.length+L.length:Nat):Int) i j) (E:=fun i=>slices_symMergeCmpFunc_TestCase.e4 (A++(L++(y::B))) ((A.length+L.length:Nat):Int) i) (p:=A.length+p) (by omega) (by omega) ?_ ?_ ?_ (by unfold big; omega)]
  · unfold slices_symMergeCmpFunc_TestCase.e4
    obtain ⟨e,h1,h2⟩:=bwd_loop (d0:=A++(L++(y::B))) (m:=A.length+L.length) (i:=A.length+p) hN (by simp only [List.length_append,List.length_cons]; omega) (by omega) (L.length - p) big 0 _ (by omega) (by unfold big; omega) ((Mv.refl _).of (fun k=>by unfold shb; split <;> (try split) <;> omega))
    rw [Nat.sub_zero] at h1
    rw [h1]
    rw [show A.length+L.length - (A.length+p)=L.length - p by omega] at h2
    have h3:=h2.of (fun k=>(by rw [← shb_rot (a:=A.length+p) (t:=L.length - p),show A.length+p+(L.length - p)=A.length+L.length by omega]:shb (A.length+L.length) (L.length - p) k=rotx (A.length+p) (L.length - p) 1 k))
    have e0:A++(L++(y::B))=(A++L.take p)++(L.drop p++([y]++B)):=by
      rw [List.append_assoc,← List.append_assoc (L.take p),List.take_append_drop]; rfl
    rw [e0] at h3
    have h4:=Mv.rot (A:=A++L.take p) (X:=L.drop p) (Y:=[y]) (B:=B) (e:=e) (by rw [List.length_append,List.length_take,Nat.min_eq_left p2,List.length_drop]; exact h3)
    rw [h4]
    have:=mrg_one_r (lt:=ltU) (y:=y) (L1:=L.take p) (L2:=L.drop p) (fun x hx=>by
      obtain ⟨i,hi,hip,rfl⟩:=mem_take_get hx
      have:=p3 i (by omega) hip
      rw [List.getElem?_eq_getElem hi] at this
      simpa using this) (fun x hx=>by
      obtain ⟨i,hi,hip,rfl⟩:=mem_drop_get hx
      have:=p4 i hip hi
      rw [List.getElem?_eq_getElem hi] at this
      simpa using this)
    rw [List.take_append_drop] at this
    rw [this]
    simp
  · intro k i j a1 a2 a3 a4
    obtain ⟨c,hc1,hc2⟩:=cmpU y (L[(i+j) / 2 - A.length]'(by omega))
    have hlt:ltU y (L[(i+j) / 2 - A.length]'(by omega))=false:=by
      have:=p3 ((i+j) / 2 - A.length) (by omega) (by omega)
      rw [List.getElem?_eq_getElem (by omega)] at this
      simpa using this
    simp only [slices_symMergeCmpFunc_TestCase.l6]
    rw [decide_eq_true (by omega),halfN (by omega) (by omega),hat ((i+j) / 2) (by omega) (by omega),hay]
    simp only [cond_true,Option.bind_some,hc1,hc2,hlt,Bool.not_false]
    rw [show w64 ((((i+j) / 2:Nat):Int)+1)=(((i+j) / 2+1:Nat):Int) by rw [w64_id (by omega) (by omega)]; omega]
  · intro k i j a1 a2 a3 a4
    obtain ⟨c,hc1,hc2⟩:=cmpU y (L[(i+j) / 2 - A.length]'(by omega))
    have hlt:ltU y (L[(i+j) / 2 - A.length]'(by omega))=true:=by
      have:=p4 ((i+j) / 2 - A.length) (by omega) (by omega)
      rw [List.getElem?_eq_getElem (by omega)] at this
      simpa using this
    simp only [slices_symMergeCmpFunc_TestCase.l6]
    rw [decide_eq_true (by omega),halfN (by omega) (by omega),hat ((i+j) / 2) (by omega) (by omega),hay]
    simp only [cond_true,Option.bind_some,hc1,hc2,hlt,Bool.not_true,cond_false]
  · intro k i
    simp only [slices_symMergeCmpFunc_TestCase.l6]
    rw [decide_eq_false (by omega)]
    rfl
end Go.Proofs.YtedkdnhhohcocaaDoor

namespace Go.Proofs.YtedkdnhhohcocaaDoor
open Go Go.Proofs.YtedkdnhhohcocaaDoor.Kit
theorem bif_true' {α:Type} {c:Bool} {a b:α} (h:c=true):(bif c then a else b)=a:=by rw [h]; rfl
theorem bif_false' {α:Type} {c:Bool} {a b:α} (h:c=false):(bif c then a else b)=b:=by rw [h]; rfl
theorem two_dec {p q:Prop} [Decidable p] [Decidable q]:(bif decide p then (some (decide q)) else (some false))=some (decide (p∧q)):=by
  by_cases hp:p <;> by_cases hq:q <;> simp [hp,hq]
theorem sm_halves {rec_:List TestCase→Int→Int→Int→Option (List TestCase)} {A L1 R1 L2 R2 B:List TestCase} {a m b s mid:Nat} (ha:a=A.length) (hs:s=A.length+L1.length) (hmid:mid=A.length+L1.length+R1.length) (hm:m=A.length+L1.length+L2.length)
    (hb:b=A.length+L1.length+R1.length+L2.length+R2.length) (hmb:mid=(a+b) / 2) (hN:b≤cap60)
    (r1:L1≠[]→R1≠[]→rec_ (A++(L1++(R1++(L2++(R2++B))))) (a:Int) (s:Int) (mid:Int)=some (A++(mrg ltU L1 R1++(L2++(R2++B)))))
    (r2:L2≠[]→R2≠[]→rec_ (A++(mrg ltU L1 R1++(L2++(R2++B)))) (mid:Int) ((mid+L2.length:Nat):Int) (b:Int)=some (A++(mrg ltU L1 R1++(mrg ltU L2 R2++B)))) :
    slices_symMergeCmpFunc_TestCase.j9 rec_ (a:Int) (m:Int) (b:Int) (s:Int) (A++(L1++(R1++(L2++(R2++B)))))=some (A++(mrg ltU L1 R1++(mrg ltU L2 R2++B))):=by
  have hN':b≤1152921504606846976:=hN
  have wm:w64 (iShr .u64 (IntKind.wrap .u64 (w64 ((a:Int)+(b:Int)))) 1)=(mid:Int):=by rw [halfN (by omega) (by omega),hmb]
  have we:w64 ((w64 ((mid:Int)+(m:Int))) - (s:Int))=((mid+L2.length:Nat):Int):=by rw [w64_id (n:=(mid:Int)+(m:Int)) (by omega) (by omega),w64_id (by omega) (by omega)]; omega
  have j10:slices_symMergeCmpFunc_TestCase.j10 rec_ (a:Int) (m:Int) (b:Int) (s:Int) (A++(mrg ltU L1 R1++(L2++(R2++B))))=some (A++(mrg ltU L1 R1++(mrg ltU L2 R2++B))):=by
    unfold slices_symMergeCmpFunc_TestCase.j10
    rw [wm,we,two_dec]
    simp only [Option.bind_some]
    by_cases hL:L2=[]
    · subst hL
      rw [decide_eq_false (by simp),nil_mrg]
      rfl
    · by_cases hR:R2=[]
      · subst hR
        simp only [List.length_nil] at hb
        rw [decide_eq_false (by omega),mrg_nil]
        rfl
      · have:=List.length_pos_iff.2 hL
        have:=List.length_pos_iff.2 hR
        rw [decide_eq_true (by omega)]
        simp only [cond_true,r2 hL hR,Option.bind_some]
        rfl
  unfold slices_symMergeCmpFunc_TestCase.j9
  rw [wm,two_dec]
  simp only [Option.bind_some]
  by_cases hL:L1=[]
  · subst hL
    simp only [List.length_nil] at hs
    rw [decide_eq_false (by omega)]
    simp only [cond_false,List.nil_append]
    rw [nil_mrg] at j10 ⊢
    exact j10
  · by_cases hR:R1=[]
    · subst hR
      simp only [List.length_nil] at hmid
      rw [decide_eq_false (by omega)]
      simp only [cond_false,List.nil_append]
      rw [mrg_nil] at j10 ⊢
      exact j10
    · have:=List.length_pos_iff.2 hL
      have:=List.length_pos_iff.2 hR
      rw [decide_eq_true (by omega)]
      simp only [cond_true,r1 hL hR,Option.bind_some]
      exact j10
theorem sm:∀ (s k:Nat) (A L R B:List TestCase),L.length+R.length≤s→s<k→L≠[]→R≠[]→Srt ltU L→Srt ltU R→(A++(L++(R++B))).length≤cap60 →
    slices_symMergeCmpFunc_TestCase.fk k (A++(L++(R++B))) (A.length:Int) ((A.length+L.length:Nat):Int) ((A.length+L.length+R.length:Nat):Int)=some (A++(mrg ltU L R++B))
  | 0,k,A,L,R,B,h1,h2,h3,_,_,_,_=>by have:=List.length_pos_iff.2 h3; omega
  | s+1,k,A,L,R,B,h1,h2,h3,h4,h5,h6,hN=>by
    obtain ⟨k,rfl⟩:∃ m,k=m+1:=⟨k - 1,by omega⟩
    have hN':(A++(L++(R++B))).length≤1152921504606846976:=hN
    simp only [List.length_append] at hN'
    have hl:=List.length_pos_iff.2 h3
    have hr:=List.length_pos_iff.2 h4
    have w1:w64 (((A.length+L.length:Nat):Int) - (A.length:Int))=(L.length:Int):=by rw [w64_id (by omega) (by omega)]; omega
    have w2:w64 (((A.length+L.length+R.length:Nat):Int) - ((A.length+L.length:Nat):Int))=(R.length:Int):=by rw [w64_id (by omega) (by omega)]; omega
    rw [slices_symMergeCmpFunc_TestCase.fk]
    unfold slices_symMergeCmpFunc_TestCase.g
    rw [w1,w2]
    by_cases hL1:L.length=1
    · obtain ⟨x,rfl⟩:∃ x,L=[x]:=List.length_eq_one_iff.1 hL1
      rw [bif_true' (by simp)]
      exact sm_left h6 hN
    · rw [bif_false' (beq_eq_false_iff_ne.2 (by omega))]
      by_cases hR1:R.length=1
      · obtain ⟨y,rfl⟩:∃ y,R=[y]:=List.length_eq_one_iff.1 hR1
        rw [bif_true' (by simp)]
        exact sm_right h5 hN
      · rw [bif_false' (beq_eq_false_iff_ne.2 (by omega))]
        obtain ⟨a,ha⟩:∃ a,a=A.length:=⟨_,rfl⟩
        obtain ⟨m,hm⟩:∃ m,m=A.length+L.length:=⟨_,rfl⟩
        obtain ⟨b,hb⟩:∃ b,b=A.length+L.length+R.length:=⟨_,rfl⟩
        obtain ⟨mid,hmid⟩:∃ mid,mid=(a+b) / 2:=⟨_,rfl⟩
        rw [← hb,← hm,← ha]
        have wm:w64 (iShr .u64 (IntKind.wrap .u64 (w64 ((a:Int)+(b:Int)))) 1)=(mid:Int):=by rw [halfN (by omega) (by omega),hmid]
        -- the search, from lo up to lo + n
        have search:∀ (lo n:Nat),a≤lo→lo+n≤m→lo+n≤mid→mid+m≤lo+b→((lo=a∧lo+n=m)∨(lo+b=mid+m∧lo+n=mid)) →
            slices_symMergeCmpFunc_TestCase.j7 (slices_symMergeCmpFunc_TestCase.fk k) (A++(L++(R++B))) (a:Int) (m:Int) (b:Int) (lo:Int) ((lo+n:Nat):Int)=some (A++(mrg ltU L R++B)):=by
          intro lo n q1 q2 q3 q4 q5
          have hLat:∀ c,lo≤c→c<lo+n→c - a<L.length:=fun c c1 c2=>by omega
          have hRat:∀ c,lo≤c→c<lo+n→mid - 1 - c<R.length:=fun c c1 c2=>by omega
          obtain ⟨p,p1,p2,p3,p4⟩:=mono_split (fun c=>match L[c - a]?,R[mid - 1 - c]? with | some x,some y=>!ltU y x | _,_=>false) lo n (fun i j i0 hij hj h=>by
            have a1:=hLat i i0 (by omega)
            have a2:=hRat i i0 (by omega)
            have a3:=hLat j (by omega) hj
            have a4:=hRat j (by omega) hj
            rw [List.getElem?_eq_getElem a3,List.getElem?_eq_getElem a4] at h
            rw [List.getElem?_eq_getElem a1,List.getElem?_eq_getElem a2]
            simp only [Bool.not_eq_true'] at h ⊢
            have g1:=srt_get h5 a3 (show i - a≤j - a by omega)
            have g2:=srt_get h6 a2 (show mid - 1 - j≤mid - 1 - i by omega)
            exact ltU_swo.neg _ _ _ (ltU_swo.neg _ _ _ g2 h) g1)
          have hdata:∀ c,∀ (c1:lo≤c) (c2:c<lo+n),at? (A++(L++(R++B))) (c:Int)=some (L[c - a]'(hLat c c1 c2)):=by
            intro c c1 c2
            have a1:=hLat c c1 c2
            rw [at_nat (by simp only [List.length_append]; omega)]
            congr 1
            rw [List.getElem_append_right (by omega),List.getElem_append_left (by omega)]
            congr 1
            omega
          have hdatb:∀ c,∀ (c1:lo≤c) (c2:c<lo+n),at? (A++(L++(R++B))) ((mid+m - 1 - c:Nat):Int)=some (R[mid - 1 - c]'(hRat c c1 c2)):=by
            intro c c1 c2
            have a1:=hRat c c1 c2
            rw [at_nat (by simp only [List.length_append]; omega)]
            congr 1
            rw [List.getElem_append_right (by omega),List.getElem_append_right (by omega),List.getElem_append_left (by omega)]
            congr 1
            omega
          unfold slices_symMergeCmpFunc_TestCase.j7
          rw [bsN (L:=fun k' i j=>slices_symMergeCmpFunc_TestCase.l12 (slices_symMergeCmpFunc_TestCase.e8 (slices_symMergeCmpFunc_TestCase.fk k)) k' (A++(L++(R++B))) (a:Int) (m:Int) (b:Int) i j) (E:=fun i=>slices_symMergeCmpFunc_TestCase.e8 (slices_symMergeCmpFunc_TestCase.fk k) (A++(L++(R++B))) (a:Int) (m:Int) (b:Int) i) (p:=p) p1 p2 ?_ ?_ ?_ (by unfold big; omega)]
          · -- behind the search
            obtain ⟨L1,hL1⟩:∃ L1,L1=L.take (p - a):=⟨_,rfl⟩
            obtain ⟨L2,hL2⟩:∃ L2,L2=L.drop (p - a):=⟨_,rfl⟩
            obtain ⟨R1,hR1⟩:∃ R1,R1=R.take (mid - p):=⟨_,rfl⟩
            obtain ⟨R2,hR2⟩:∃ R2,R2=R.drop (mid - p):=⟨_,rfl⟩
            have eL:L=L1++L2:=by rw [hL1,hL2,List.take_append_drop]
            have eR:R=R1++R2:=by rw [hR1,hR2,List.take_append_drop]
            have lL1:L1.length=p - a:=by rw [hL1,List.length_take]; omega
            have lR1:R1.length=mid - p:=by rw [hR1,List.length_take]; omega
            have lL2:L2.length=m - p:=by rw [hL2,List.length_drop]; omega
            have lR2:R2.length=b - (mid+m - p):=by rw [hR2,List.length_drop]; omega
            have c1:∀ x∈L2,∀ y∈R1,ltU y x=true:=by
              intro x hx y hy
              rw [hL2] at hx
              rw [hR1] at hy
              obtain ⟨i,hi,hi2,rfl⟩:=mem_drop_get hx
              obtain ⟨j,hj,hj2,rfl⟩:=mem_take_get hy
              have hp:p<lo+n:=by omega
              have:=p4 p (Nat.le_refl _) hp
              rw [List.getElem?_eq_getElem (hLat p p1 hp),List.getElem?_eq_getElem (hRat p p1 hp)] at this
              simp only [Bool.not_eq_false'] at this
              have g1:=srt_get h5 hi (show p - a≤i by omega)
              have g2:=srt_get h6 (hRat p p1 hp) (show j≤mid - 1 - p by omega)
              exact ltU_swo.lt_of_lt_le (ltU_swo.lt_of_le_lt g2 this) g1
            have c2:∀ x∈L1,∀ y∈R2,ltU y x=false:=by
              intro x hx y hy
              rw [hL1] at hx
              rw [hR2] at hy
              obtain ⟨i,hi,hi2,rfl⟩:=mem_take_get hx
              obtain ⟨j,hj,hj2,rfl⟩:=mem_drop_get hy
              have hp:lo≤p - 1∧p - 1<p:=by omega
              have:=p3 (p - 1) hp.1 hp.2
              rw [List.getElem?_eq_getElem (hLat (p - 1) hp.1 (by omega)),List.getElem?_eq_getElem (hRat (p - 1) hp.1 (by omega))] at this
              simp only [Bool.not_eq_true'] at this
              have g1:=srt_get h5 (hLat (p - 1) hp.1 (by omega)) (show i≤p - 1 - a by omega)
              have g2:=srt_get h6 hj (show mid - 1 - (p - 1)≤j by omega)
              exact ltU_swo.neg _ _ _ g2 (ltU_swo.neg _ _ _ this g1)
            have s1:=List.pairwise_append.1 (eL ▸ h5)
            have s2:=List.pairwise_append.1 (eR ▸ h6)
            have hmg:=mrg_split c1 c2
            rw [← eL,← eR] at hmg
            rw [hmg,List.append_assoc]
            have eN:(A++(L1++(R1++(L2++(R2++B))))).length≤cap60:=by
              simp only [List.length_append]
              unfold cap60
              omega
            have hlen1:=mrg_len (lt:=ltU) L1 R1
            have fin:=sm_halves (rec_:=slices_symMergeCmpFunc_TestCase.fk k) (A:=A) (L1:=L1) (R1:=R1) (L2:=L2) (R2:=R2) (B:=B) (a:=a) (m:=m) (b:=b) (s:=p) (mid:=mid) ha (by omega) (by omega) (by omega) (by omega) hmid (by unfold cap60; omega)
              (fun g1 g2=>by
                have:=sm s k A L1 R1 (L2++(R2++B)) (by omega) (by omega) g1 g2 s1.1 s2.1 eN
                rw [← ha,show a+L1.length=p by omega,show p+R1.length=mid by omega] at this
                exact this)
              (fun g1 g2=>by
                have:=sm s k (A++mrg ltU L1 R1) L2 R2 B (by omega) (by omega) g1 g2 s1.2.1 s2.2.1 (by simp only [List.length_append,hlen1]; unfold cap60; omega)
                rw [List.length_append,hlen1,show A.length+(L1.length+R1.length)=mid by omega,show mid+L2.length+R2.length=b by omega] at this
                simp only [List.append_assoc] at this
                exact this)
            unfold slices_symMergeCmpFunc_TestCase.e8
            have we:w64 ((w64 ((mid:Int)+(m:Int))) - (p:Int))=((mid+m - p:Nat):Int):=by rw [w64_id (n:=(mid:Int)+(m:Int)) (by omega) (by omega),w64_id (by omega) (by omega)]; omega
            rw [wm,we,two_dec]
            simp only [Option.bind_some]
            have e0:A++(L++(R++B))=(A++L1)++(L2++(R1++(R2++B))):=by rw [eL,eR]; simp
            have e1:A++(L1++(R1++(L2++(R2++B))))=(A++L1)++(R1++(L2++(R2++B))):=by simp
            by_cases hc:p<m∧m<mid+m - p
            · rw [decide_eq_true (by omega)]
              have hrot:=rot_list (A:=A++L1) (X:=L2) (Y:=R1) (B:=R2++B) (by intro h; rw [h] at lL2; simp at lL2; omega) (by intro h; rw [h] at lR1; simp at lR1; omega) (by rw [← e0]; exact hN)
              rw [List.length_append,show A.length+L1.length=p by omega,show p+L2.length=m by omega,show m+R1.length=mid+m - p by omega] at hrot
              simp only [cond_true]
              rw [e0,hrot]
              simp only [Option.bind_some]
              rw [← e1]
              exact fin
            · rw [decide_eq_false (by omega)]
              simp only [cond_false]
              have:A++(L++(R++B))=A++(L1++(R1++(L2++(R2++B)))):=by
                rw [e0,e1]
                congr 1
                rcases (by omega:m - p=0∨mid - p=0) with h | h
                · rw [List.length_eq_zero_iff.1 (by omega:L2.length=0)]
                  simp
                · rw [List.length_eq_zero_iff.1 (by omega:R1.length=0)]
                  simp
              rw [this]
              exact fin
          · intro k' i j i0 hij hj hp
            have b1:lo≤(i+j) / 2:=by omega
            have b2:(i+j) / 2<lo+n:=by omega
            obtain ⟨c,hc1,hc2⟩:=cmpU (R[mid - 1 - (i+j) / 2]'(hRat _ b1 b2)) (L[(i+j) / 2 - a]'(hLat _ b1 b2))
            have hlt:ltU (R[mid - 1 - (i+j) / 2]'(hRat _ b1 b2)) (L[(i+j) / 2 - a]'(hLat _ b1 b2))=false:=by
              have:=p3 _ b1 hp
              rw [List.getElem?_eq_getElem (hLat _ b1 b2),List.getElem?_eq_getElem (hRat _ b1 b2)] at this
              simpa using this
            have wi:w64 ((w64 ((w64 ((mid:Int)+(m:Int))) - 1)) - (((i+j) / 2:Nat):Int))=((mid+m - 1 - (i+j) / 2:Nat):Int):=by
              rw [w64_id (n:=(mid:Int)+(m:Int)) (by omega) (by omega),w64_id (n:=(mid:Int)+(m:Int) - 1) (by omega) (by omega),w64_id (by omega) (by omega)]
              omega
            simp only [slices_symMergeCmpFunc_TestCase.l12]
            rw [decide_eq_true (by omega),wm,halfN (by omega) (by omega),wi,hdatb _ b1 b2,hdata _ b1 b2]
            simp only [cond_true,Option.bind_some,hc1,hc2,hlt,Bool.not_false]
            rw [show w64 ((((i+j) / 2:Nat):Int)+1)=(((i+j) / 2+1:Nat):Int) by rw [w64_id (by omega) (by omega)]; omega]
          · intro k' i j i0 hij hj hp
            have b1:lo≤(i+j) / 2:=by omega
            have b2:(i+j) / 2<lo+n:=by omega
            obtain ⟨c,hc1,hc2⟩:=cmpU (R[mid - 1 - (i+j) / 2]'(hRat _ b1 b2)) (L[(i+j) / 2 - a]'(hLat _ b1 b2))
            have hlt:ltU (R[mid - 1 - (i+j) / 2]'(hRat _ b1 b2)) (L[(i+j) / 2 - a]'(hLat _ b1 b2))=true:=by
              have:=p4 _ hp b2
              rw [List.getElem?_eq_getElem (hLat _ b1 b2),List.getElem?_eq_getElem (hRat _ b1 b2)] at this
              simpa using this
            have wi:w64 ((w64 ((w64 ((mid:Int)+(m:Int))) - 1)) - (((i+j) / 2:Nat):Int))=((mid+m - 1 - (i+j) / 2:Nat):Int):=by
              rw [w64_id (n:=(mid:Int)+(m:Int)) (by omega) (by omega),w64_id (n:=(mid:Int)+(m:Int) - 1) (by omega) (by omega),w64_id (by omega) (by omega)]
              omega
            simp only [slices_symMergeCmpFunc_TestCase.l12]
            rw [decide_eq_true (by omega),wm,halfN (by omega) (by omega),wi,hdatb _ b1 b2,hdata _ b1 b2]
            simp only [cond_true,Option.bind_some,hc1,hc2,hlt,Bool.not_true,cond_false]
          · intro k' i
            simp only [slices_symMergeCmpFunc_TestCase.l12]
            rw [decide_eq_false (by omega)]
            rfl
        rw [wm]
        by_cases hc:mid<m
        · rw [decide_eq_true (by omega)]
          simp only [cond_true]
          have wl:w64 ((w64 ((mid:Int)+(m:Int))) - (b:Int))=((mid+m - b:Nat):Int):=by rw [w64_id (n:=(mid:Int)+(m:Int)) (by omega) (by omega),w64_id (by omega) (by omega)]; omega
          rw [wl]
          have:=search (mid+m - b) (b - m) (by omega) (by omega) (by omega) (by omega) (by omega)
          rw [show mid+m - b+(b - m)=mid by omega] at this
          exact this
        · rw [decide_eq_false (by omega)]
          simp only [cond_false]
          have:=search a L.length (by omega) (by omega) (by omega) (by omega) (by omega)
          rw [show a+L.length=m by omega] at this
          exact this
end Go.Proofs.YtedkdnhhohcocaaDoor

namespace Go.Proofs.YtedkdnhhohcocaaDoor
open Go Go.Proofs.YtedkdnhhohcocaaDoor.Kit
inductive Chk (bs:Nat):List TestCase→List TestCase→Prop
  | last (l:List TestCase) (h:l.length≤bs):Chk bs l (stab ltU l)
  | step (l1 l2 d2:List TestCase) (h:l1.length=bs) (k:Chk bs l2 d2):Chk bs (l1++l2) (stab ltU l1++d2)
theorem Chk.len {bs:Nat} {l d:List TestCase} (h:Chk bs l d):d.length=l.length:=by
  induction h with
  | last l h=>exact stab_len ltU_swo l
  | step l1 l2 d2 h k ih=>rw [List.length_append,List.length_append,stab_len ltU_swo,ih]
theorem Chk.small {bs:Nat} {l d:List TestCase} (h:Chk bs l d) (hl:l.length≤bs):d=stab ltU l:=by
  cases h with
  | last l h=>rfl
  | step l1 l2 d2 h k =>
    rw [List.length_append] at hl
    have h0:l2=[]:=List.length_eq_zero_iff.1 (by omega)
    subst h0
    have:=k.len
    have h1:d2=[]:=List.length_eq_zero_iff.1 (by rw [this]; rfl)
    subst h1
    simp
theorem Chk.parts {bs:Nat} {l d:List TestCase} (h:Chk bs l d) (hl:bs<l.length):∃ l1 l2 d2,l=l1++l2∧d=stab ltU l1++d2∧l1.length=bs∧Chk bs l2 d2:=by
  cases h with
  | last l h=>omega
  | step l1 l2 d2 h k=>exact ⟨l1,l2,d2,rfl,rfl,h,k⟩
theorem mrg_stab (l1 l2:List TestCase):mrg ltU (stab ltU l1) (stab ltU l2)=stab ltU (l1++l2):=(stab_append ltU_swo l1 l2).symm
theorem sm_call {A l1 l2 B:List TestCase} {a m b:Int} (ha:a=(A.length:Int)) (hm:m=((A.length+l1.length:Nat):Int)) (hb:b=((A.length+l1.length+l2.length:Nat):Int)) (h1:l1≠[]) (h2:l2≠[]) (hN:A.length+l1.length+l2.length+B.length≤cap60) :
    slices_symMergeCmpFunc_TestCase.f (A++(stab ltU l1++(stab ltU l2++B))) a m b=some (A++(stab ltU (l1++l2)++B)):=by
  have hl1:=stab_len ltU_swo l1
  have hl2:=stab_len ltU_swo l2
  unfold cap60 at hN
  have p1:=List.length_pos_iff.2 h1
  have p2:=List.length_pos_iff.2 h2
  have:=sm (l1.length+l2.length) big A (stab ltU l1) (stab ltU l2) B (by omega) (by unfold big; omega) (by intro h; rw [h] at hl1; simp at hl1; omega) (by intro h; rw [h] at hl2; simp at hl2; omega) (stab_sorted ltU_swo l1) (stab_sorted ltU_swo l2) (by simp only [List.length_append,hl1,hl2]; unfold cap60; omega)
  rw [hl1,hl2,mrg_stab,← ha,← hm,← hb] at this
  exact this
theorem blocks_loop {n:Int}:∀ (f k:Nat) (A l:List TestCase),l.length≤f→f<k→A.length+l.length≤cap60→n=((A.length+l.length:Nat):Int) →
    ∃ d,Chk 20 l d∧slices_stableCmpFunc_TestCase.l6 slices_stableCmpFunc_TestCase.e1 k n (A++l) (A.length:Int) ((A.length+20:Nat):Int)=slices_stableCmpFunc_TestCase.l2 big n (A++d) 20
  | f,k,A,l,h1,h2,hN,hn=>by
    obtain ⟨k,rfl⟩:∃ m,k=m+1:=⟨k - 1,by omega⟩
    have hN':A.length+l.length≤1152921504606846976:=hN
    rw [slices_stableCmpFunc_TestCase.l6]
    by_cases hb:20≤l.length
    · rw [decide_eq_true (by omega)]
      simp only [cond_true]
      have e0:l=l.take 20++l.drop 20:=(List.take_append_drop 20 l).symm
      have ht:(l.take 20).length=20:=by rw [List.length_take]; omega
      have hd:(l.drop 20).length=l.length - 20:=by rw [List.length_drop]
      have hi:=ins_list (A:=A) (X:=l.take 20) (B:=l.drop 20) (by rw [ht]; unfold cap60; omega)
      rw [← e0,ht] at hi
      rw [hi]
      simp only [Option.bind_some]
      have w1:w64 (((A.length+20:Nat):Int)+20)=((A.length+20+20:Nat):Int):=by rw [w64_id (by omega) (by omega)]; omega
      rw [w1]
      have hs:=stab_len ltU_swo (l.take 20)
      obtain ⟨f',rfl⟩:∃ f',f=f'+1:=⟨f - 1,by omega⟩
      obtain ⟨d,d1,d2⟩:=blocks_loop (n:=n) f' k (A++stab ltU (l.take 20)) (l.drop 20) (by omega) (by omega) (by rw [List.length_append,hs,ht,hd]; unfold cap60; omega) (by rw [List.length_append,hs,ht,hd,hn]; omega)
      rw [List.length_append,hs,ht,List.append_assoc] at d2
      refine ⟨stab ltU (l.take 20)++d,?_,by rw [d2,List.append_assoc]⟩
      have:=Chk.step (l.take 20) (l.drop 20) d ht d1
      rwa [← e0] at this
    · rw [decide_eq_false (by omega)]
      simp only [cond_false]
      unfold slices_stableCmpFunc_TestCase.e1
      have hi:=ins_list (A:=A) (X:=l) (B:=[]) hN
      rw [List.append_nil,List.append_nil] at hi
      rw [hn,hi]
      exact ⟨stab ltU l,.last l (by omega),rfl⟩
theorem pass_loop {j4:Int→List TestCase→Int→Option (List TestCase)} {n:Int} {bs:Nat} (hbs:0<bs) (hbs2:bs≤cap60):∀ (f k:Nat) (A l d:List TestCase),l.length≤f→f<k→A.length+l.length≤cap60→n=((A.length+l.length:Nat):Int)→Chk bs l d →
    ∃ d',Chk (bs*2) l d'∧slices_stableCmpFunc_TestCase.l5 (slices_stableCmpFunc_TestCase.e3 j4) k n bs (A++d) (A.length:Int) ((A.length+2*bs:Nat):Int)=slices_stableCmpFunc_TestCase.j4 j4 n bs (A++d')
  | f,k,A,l,d,h1,h2,hN,hn,hc=>by
    obtain ⟨k,rfl⟩:∃ m,k=m+1:=⟨k - 1,by omega⟩
    have hN':A.length+l.length≤1152921504606846976:=hN
    have hbs':bs≤1152921504606846976:=hbs2
    rw [slices_stableCmpFunc_TestCase.l5]
    have w1:w64 ((A.length:Int)+(bs:Int))=((A.length+bs:Nat):Int):=by rw [w64_id (by omega) (by omega)]; omega
    by_cases hb:2*bs≤l.length
    · rw [decide_eq_true (by omega)]
      simp only [cond_true,w1]
      obtain ⟨l1,l2,d2,rfl,rfl,e1,c2⟩:=hc.parts (by omega)
      rw [List.length_append] at hb hN' h1 hN hn
      have hp:∃ l3 l4 d4,l2=l3++l4∧d2=stab ltU l3++d4∧l3.length=bs∧Chk bs l4 d4:=by
        by_cases hlt:bs<l2.length
        · exact c2.parts hlt
        · exact ⟨l2,[],[],by simp,by rw [c2.small (by omega)]; simp,by omega,by have:=Chk.last (bs:=bs) [] (by simp); simpa [stab] using this⟩
      obtain ⟨l3,l4,d4,rfl,rfl,e3,c4⟩:=hp
      rw [List.length_append] at hb hN' h1 hN hn
      have hl4:=c4.len
      have hsm:=sm_call (A:=A) (l1:=l1) (l2:=l3) (B:=d4) (a:=(A.length:Int)) (m:=((A.length+bs:Nat):Int)) (b:=((A.length+2*bs:Nat):Int)) rfl (by rw [e1]) (by rw [e1,e3]; omega) (by intro h; rw [h] at e1; simp at e1; omega) (by intro h; rw [h] at e3; simp at e3; omega) (by rw [hl4]; unfold cap60; omega)
      rw [hsm]
      simp only [Option.bind_some]
      have w2:w64 (2*(bs:Int))=((2*bs:Nat):Int):=by rw [w64_id (by omega) (by omega)]; omega
      have w3:w64 (((A.length+2*bs:Nat):Int)+((2*bs:Nat):Int))=((A.length+2*bs+2*bs:Nat):Int):=by rw [w64_id (by omega) (by omega)]; omega
      rw [w2,w3]
      have hs:=stab_len ltU_swo (l1++l3)
      rw [List.length_append,e1,e3] at hs
      obtain ⟨f',rfl⟩:∃ f',f=f'+1:=⟨f - 1,by omega⟩
      obtain ⟨d',g1,g2⟩:=pass_loop (j4:=j4) (n:=n) hbs hbs2 f' k (A++stab ltU (l1++l3)) l4 d4 (by omega) (by omega) (by rw [List.length_append,hs]; unfold cap60; omega) (by rw [List.length_append,hs,hn]; omega) c4
      rw [List.length_append,hs,List.append_assoc,show A.length+(bs+bs)=A.length+2*bs by omega] at g2
      refine ⟨stab ltU (l1++l3)++d',?_,by rw [g2,List.append_assoc]⟩
      have:=Chk.step (bs:=bs*2) (l1++l3) l4 d' (by rw [List.length_append]; omega) g1
      rwa [List.append_assoc] at this
    · rw [decide_eq_false (by omega)]
      simp only [cond_false]
      unfold slices_stableCmpFunc_TestCase.e3
      rw [w1]
      by_cases hm:bs<l.length
      · rw [decide_eq_true (by omega)]
        simp only [cond_true]
        obtain ⟨l1,l2,d2,rfl,rfl,e1,c2⟩:=hc.parts hm
        rw [List.length_append] at hb hN' h1 hN hn hm
        have hd2:=c2.small (by omega)
        subst hd2
        have hsm:=sm_call (A:=A) (l1:=l1) (l2:=l2) (B:=[]) (a:=(A.length:Int)) (m:=((A.length+bs:Nat):Int)) (b:=n) rfl (by rw [e1]) (by rw [hn]; omega) (by intro h; rw [h] at e1; simp at e1; omega) (by intro h; rw [h] at hm; simp at hm; omega) (by simp; unfold cap60; omega)
        rw [List.append_nil,List.append_nil] at hsm
        rw [hsm]
        exact ⟨stab ltU (l1++l2),.last _ (by rw [List.length_append]; omega),rfl⟩
      · rw [decide_eq_false (by omega)]
        simp only [cond_false]
        have hd:=hc.small (by omega)
        subst hd
        exact ⟨stab ltU l,.last _ (by omega),rfl⟩
theorem passes {n:Int}:∀ (f k:Nat) (l d:List TestCase) (bs:Nat),l.length - bs≤f→f<k→0<bs→bs≤2*l.length+40→l.length≤288230376151711744→n=(l.length:Int)→Chk bs l d→slices_stableCmpFunc_TestCase.l2 k n d bs=some (stab ltU l)
  | f,k,l,d,bs,h1,h2,hbs,hb2,hN,hn,hc=>by
    obtain ⟨k,rfl⟩:∃ m,k=m+1:=⟨k - 1,by omega⟩
    rw [slices_stableCmpFunc_TestCase.l2]
    by_cases hb:bs<l.length
    · rw [decide_eq_true (by omega)]
      simp only [cond_true]
      have w1:w64 (2*(bs:Int))=((2*bs:Nat):Int):=by rw [w64_id (by omega) (by omega)]; omega
      rw [w1]
      obtain ⟨d',g1,g2⟩:=pass_loop (j4:=slices_stableCmpFunc_TestCase.l2 k) (n:=n) hbs (by unfold cap60; omega) l.length big [] l d (Nat.le_refl _) (by unfold big; omega) (by simp; unfold cap60; omega) (by rw [hn]; simp) hc
      simp only [List.nil_append,List.length_nil,Nat.zero_add] at g2
      rw [show ((0:Nat):Int)=0 from rfl] at g2
      rw [g2]
      unfold slices_stableCmpFunc_TestCase.j4
      have w2:w64 ((bs:Int)*2)=((bs*2:Nat):Int):=by rw [w64_id (by omega) (by omega)]; omega
      rw [w2]
      obtain ⟨f',rfl⟩:∃ f',f=f'+1:=⟨f - 1,by omega⟩
      exact passes f' k l d' (bs*2) (by omega) (by omega) (by omega) (by omega) hN hn g1
    · rw [decide_eq_false (by omega)]
      simp only [cond_false]
      rw [hc.small (by omega)]
theorem sortStable_prog {l:List TestCase} (h:l.length≤288230376151711744):slices_SortStableFunc_TestCase.f l=some (stab ltU l):=by
  unfold slices_SortStableFunc_TestCase.f slices_stableCmpFunc_TestCase.f
  obtain ⟨d,d1,d2⟩:=blocks_loop (n:=(l.length:Int)) l.length big [] l (Nat.le_refl _) (by unfold big; omega) (by simp; unfold cap60; omega) (by simp)
  simp only [List.nil_append,List.length_nil,Nat.zero_add] at d2
  have e0:slices_stableCmpFunc_TestCase.l6 slices_stableCmpFunc_TestCase.e1 big (l.length:Int) l 0 20=slices_stableCmpFunc_TestCase.l2 big (l.length:Int) d 20:=d2
  rw [e0]
  have:=passes (n:=(l.length:Int)) l.length big l d 20 (by omega) (by unfold big; omega) (by omega) (by omega) h rfl d1
  rw [show ((20:Nat):Int)=20 from rfl] at this
  rw [this]
  rfl
end Go.Proofs.YtedkdnhhohcocaaDoor
