/- Merged of PMrg, PShf, PSort, PStab, PStb2, PStb3. -/
import Derived.Test.YtiecpfnjmlidbaaGreatDoorPO
set_option linter.unusedVariables false
set_option linter.unusedSimpArgs false
namespace Go.Proofs.YtiecpfnjmlidbaaGreatDoor
open Go Go.Proofs.YtiecpfnjmlidbaaGreatDoor.Kit
section
variable {α:Type} (lt:α→α→Bool)
def K1:List α→List α→List α
  | [],ys=>ys
  | x::xs,[]=>x::xs
  | x::xs,y::ys=>bif lt y x then y::K1 (x::xs) ys else x::K1 xs (y::ys)
termination_by xs ys=>xs.length+ys.length
theorem az3 (xs:List α):K1 lt xs []=xs:=by cases xs <;> rw [K1]
theorem ag8 (ys:List α):K1 lt [] ys=ys:=by rw [K1]
theorem as7 {x y:α} {xs ys:List α} (h:lt y x=true):K1 lt (x::xs) (y::ys)=y::K1 lt (x::xs) ys:=by rw [K1,h]; rfl
theorem as6 {x y:α} {xs ys:List α} (h:lt y x=false):K1 lt (x::xs) (y::ys)=x::K1 lt xs (y::ys):=by rw [K1,h]; rfl
structure Swo:Prop where
  bG6:∀ x y,lt x y=true→lt y x=false
  neg:∀ x y z,lt x y=false→lt y z=false→lt x z=false
variable {lt}
theorem Swo.trans (h:Swo lt) {x y z:α} (h1:lt x y=true) (h2:lt y z=true):lt x z=true:=by
  cases hc:lt x z
  · have:=h.neg x z y hc (h.bG6 y z h2)
    rw [h1] at this
    cases this
  · rfl
theorem Swo.cs1 (h:Swo lt) {x y z:α} (h1:lt x y=true) (h2:lt z y=false):lt x z=true:=by
  cases hc:lt x z
  · have:=h.neg x z y hc h2
    rw [h1] at this
    cases this
  · rfl
theorem Swo.cs2 (h:Swo lt) {x y z:α} (h1:lt y x=false) (h2:lt y z=true):lt x z=true:=by
  cases hc:lt x z
  · have:=h.neg y x z h1 hc
    rw [h2] at this
    cases this
  · rfl
theorem bU8:∀ (n:Nat) (xs ys:List α),xs.length+ys.length≤n→(K1 lt xs ys).length=xs.length+ys.length
  | 0,[],[],_=>by simp [ag8]
  | 0,x::xs,ys,h=>by simp only [List.length_cons] at h; omega
  | 0,[],y::ys,h=>by simp only [List.length_cons] at h; omega
  | n+1,[],ys,h=>by simp [ag8]
  | n+1,x::xs,[],h=>by simp [az3]
  | n+1,x::xs,y::ys,h=>by
    simp only [List.length_cons] at h
    cases hc:lt y x
    · rw [as6 lt hc,List.length_cons,bU8 n xs (y::ys) (by simp only [List.length_cons]; omega)]
      simp only [List.length_cons]; omega
    · rw [as7 lt hc,List.length_cons,bU8 n (x::xs) ys (by simp only [List.length_cons]; omega)]
      simp only [List.length_cons]; omega
theorem al1 (xs ys:List α):(K1 lt xs ys).length=xs.length+ys.length:=bU8 _ xs ys (Nat.le_refl _)
theorem bU9 {z:α}:∀ (n:Nat) (xs ys:List α),xs.length+ys.length≤n→(z∈K1 lt xs ys↔z∈xs∨z∈ys)
  | 0,[],[],_=>by simp [ag8]
  | 0,x::xs,ys,h=>by simp only [List.length_cons] at h; omega
  | 0,[],y::ys,h=>by simp only [List.length_cons] at h; omega
  | n+1,[],ys,h=>by simp [ag8]
  | n+1,x::xs,[],h=>by simp [az3]
  | n+1,x::xs,y::ys,h=>by
    simp only [List.length_cons] at h
    cases hc:lt y x
    · rw [as6 lt hc,List.mem_cons,bU9 n xs (y::ys) (by simp only [List.length_cons]; omega)]
      simp only [List.mem_cons]
      constructor
      · rintro (h | h | h | h) <;> simp [h]
      · rintro ((h | h) | h | h) <;> simp [h]
    · rw [as7 lt hc,List.mem_cons,bU9 n (x::xs) ys (by simp only [List.length_cons]; omega)]
      simp only [List.mem_cons]
      constructor
      · rintro (h | (h | h) | h) <;> simp [h]
      · rintro ((h | h) | h | h) <;> simp [h]
theorem bV0 {z:α} {xs ys:List α}:z∈K1 lt xs ys↔z∈xs∨z∈ys:=bU9 _ xs ys (Nat.le_refl _)
abbrev Srt (lt:α→α→Bool) (l:List α):Prop:=l.Pairwise (fun a b=>lt b a=false)
theorem bV1 (h:Swo lt):∀ (n:Nat) (xs ys:List α),xs.length+ys.length≤n→Srt lt xs→Srt lt ys→Srt lt (K1 lt xs ys)
  | 0,[],[],_,_,_=>by simp [ag8,Srt]
  | 0,x::xs,ys,h,_,_=>by simp only [List.length_cons] at h; omega
  | 0,[],y::ys,h,_,_=>by simp only [List.length_cons] at h; omega
  | n+1,[],ys,_,_,hy=>by rw [ag8]; exact hy
  | n+1,x::xs,[],_,hx,_=>by rw [az3]; exact hx
  | n+1,x::xs,y::ys,hl,hx,hy=>by
    simp only [List.length_cons] at hl
    have hx':=List.pairwise_cons.1 hx
    have hy':=List.pairwise_cons.1 hy
    cases hc:lt y x
    · rw [as6 lt hc]
      refine List.pairwise_cons.2 ⟨fun z hz=>?_,bV1 h n xs (y::ys) (by simp only [List.length_cons]; omega) hx'.2 hy⟩
      rcases bV0.1 hz with hz | hz
      · exact hx'.1 z hz
      · rcases List.mem_cons.1 hz with rfl | hz
        · exact hc
        · exact h.neg z y x (hy'.1 z hz) hc
    · rw [as7 lt hc]
      refine List.pairwise_cons.2 ⟨fun z hz=>?_,bV1 h n (x::xs) ys (by simp only [List.length_cons]; omega) hx hy'.2⟩
      rcases bV0.1 hz with hz | hz
      · rcases List.mem_cons.1 hz with rfl | hz
        · exact h.bG6 _ _ hc
        · exact h.neg z x y (hx'.1 z hz) (h.bG6 _ _ hc)
      · exact hy'.1 z hz
theorem cZ3 (h:Swo lt) {xs ys:List α} (hx:Srt lt xs) (hy:Srt lt ys):Srt lt (K1 lt xs ys):=bV1 h _ xs ys (Nat.le_refl _) hx hy
theorem br7:∀ (n:Nat) (ac5 ac4 ad1 ad2:List α),ac5.length+ad1.length≤n→(∀ x∈ac4,∀ y∈ad1,lt y x=true)→(∀ x∈ac5,∀ y∈ad2,lt y x=false)→K1 lt (ac5++ac4) (ad1++ad2)=K1 lt ac5 ad1++K1 lt ac4 ad2
  | n,[],ac4,[],ad2,_,_,_=>by simp [ag8]
  | 0,x::ac5,ac4,ad1,ad2,h,_,_=>by simp only [List.length_cons] at h; omega
  | 0,[],ac4,y::ad1,ad2,h,_,_=>by simp only [List.length_cons] at h; omega
  | n+1,[],ac4,y::ad1,ad2,h,h1,h2=>by
    simp only [List.length_cons] at h
    have ih:=br7 n [] ac4 ad1 ad2 (by simp only [List.length_nil]; simp only [List.length_nil] at h; omega) (fun x hx z hz=>h1 x hx z (by simp [hz])) (fun x hx=>by cases hx)
    rw [ag8] at ih
    simp only [List.nil_append] at ih ⊢
    rw [ag8]
    cases ac4 with
    | nil=>rw [ag8,ag8]
    | cons x ac4 =>
      rw [List.cons_append,as7 lt (h1 x (by simp) y (by simp)),ih]
      rfl
  | n+1,x::ac5,ac4,[],ad2,h,h1,h2=>by
    simp only [List.length_cons] at h
    have ih:=br7 n ac5 ac4 [] ad2 (by simp only [List.length_nil] at h ⊢; omega) (fun z hz y hy=>by cases hy) (fun z hz y hy=>h2 z (by simp [hz]) y hy)
    rw [az3] at ih ⊢
    simp only [List.nil_append] at ih ⊢
    cases ad2 with
    | nil=>rw [az3,az3]
    | cons y ad2 =>
      rw [List.cons_append,as6 lt (h2 x (by simp) y (by simp)),ih]
      rfl
  | n+1,x::ac5,ac4,y::ad1,ad2,h,h1,h2=>by
    simp only [List.length_cons] at h
    simp only [List.cons_append]
    cases hc:lt y x
    · rw [as6 lt hc,as6 lt hc]
      have ih:=br7 n ac5 ac4 (y::ad1) ad2 (by simp only [List.length_cons]; omega) h1 (fun z hz w hw=>h2 z (by simp [hz]) w hw)
      rw [List.cons_append] at ih
      rw [ih]
      rfl
    · rw [as7 lt hc,as7 lt hc]
      have ih:=br7 n (x::ac5) ac4 ad1 ad2 (by simp only [List.length_cons]; omega) (fun z hz w hw=>h1 z hz w (by simp [hw])) h2
      rw [List.cons_append] at ih
      rw [ih]
      rfl
theorem br8 {ac5 ac4 ad1 ad2:List α} (h1:∀ x∈ac4,∀ y∈ad1,lt y x=true) (h2:∀ x∈ac5,∀ y∈ad2,lt y x=false):K1 lt (ac5++ac4) (ad1++ad2)=K1 lt ac5 ad1++K1 lt ac4 ad2:=br7 _ ac5 ac4 ad1 ad2 (Nat.le_refl _) h1 h2
theorem cZ4 {x:α} {ad1 ad2:List α} (h1:∀ y∈ad1,lt y x=true) (h2:∀ y∈ad2,lt y x=false):K1 lt [x] (ad1++ad2)=ad1++x::ad2:=by
  have a:=br8 (lt:=lt) (ac5:=[]) (ac4:=[x]) (ad1:=ad1) (ad2:=ad2) (fun z hz y hy=>by simp at hz; subst hz; exact h1 y hy) (fun z hz=>by cases hz)
  have b:=br8 (lt:=lt) (ac5:=[x]) (ac4:=[]) (ad1:=[]) (ad2:=ad2) (fun z hz=>by cases hz) (fun z hz y hy=>by simp at hz; subst hz; exact h2 y hy)
  simp only [List.nil_append,List.append_nil,ag8,az3] at a b
  rw [a,b]
  rfl
theorem bG4 {y:α} {ac5 ac4:List α} (h1:∀ x∈ac5,lt y x=false) (h2:∀ x∈ac4,lt y x=true):K1 lt (ac5++ac4) [y]=ac5++y::ac4:=by
  have a:=br8 (lt:=lt) (ac5:=ac5) (ac4:=ac4) (ad1:=[]) (ad2:=[y]) (fun z hz y hy=>by cases hy) (fun z hz w hw=>by simp at hw; subst hw; exact h1 z hz)
  have b:=br8 (lt:=lt) (ac5:=[]) (ac4:=ac4) (ad1:=[y]) (ad2:=[]) (fun z hz w hw=>by simp at hw; subst hw; exact h2 z hz) (fun z hz=>by cases hz)
  simp only [List.nil_append,List.append_nil,ag8,az3] at a b
  rw [a,b]
  rfl
theorem bj5 (h:Swo lt):∀ (n:Nat) (xs ys zs:List α),xs.length+ys.length+zs.length≤n→K1 lt (K1 lt xs ys) zs=K1 lt xs (K1 lt ys zs)
  | _,[],ys,zs,_=>by rw [ag8,ag8]
  | _,x::xs,[],zs,_=>by rw [az3,ag8]
  | _,x::xs,y::ys,[],_=>by rw [az3,az3]
  | 0,x::xs,y::ys,z::zs,hl=>by simp only [List.length_cons] at hl; omega
  | n+1,x::xs,y::ys,z::zs,hl=>by
    simp only [List.length_cons] at hl
    cases hxy:lt y x <;> cases hyz:lt z y
    · rw [as6 lt hxy,as6 lt hyz,as6 lt hxy,as6 lt (h.neg _ _ _ hyz hxy),bj5 h n xs (y::ys) (z::zs) (by simp only [List.length_cons]; omega),as6 lt hyz]
    · rw [as6 lt hxy,as7 lt hyz]
      cases hxz:lt z x
      · rw [as6 lt hxz,as6 lt hxz,bj5 h n xs (y::ys) (z::zs) (by simp only [List.length_cons]; omega),as7 lt hyz]
      · rw [as7 lt hxz,as7 lt hxz,← bj5 h n (x::xs) (y::ys) zs (by simp only [List.length_cons]; omega),as6 lt hxy]
    · rw [as7 lt hxy,as6 lt hyz,as6 lt hyz,as7 lt hxy,bj5 h n (x::xs) ys (z::zs) (by simp only [List.length_cons]; omega)]
    · have hxz:lt z x=true:=h.trans hyz hxy
      rw [as7 lt hxy,as7 lt hyz,as7 lt hyz,as7 lt hxz,← bj5 h n (x::xs) (y::ys) zs (by simp only [List.length_cons]; omega),as7 lt hxy]
theorem cZ5 (h:Swo lt) (xs ys zs:List α):K1 lt (K1 lt xs ys) zs=K1 lt xs (K1 lt ys zs):=bj5 h _ xs ys zs (Nat.le_refl _)
def ad5 (lt:α→α→Bool) (l:List α):List α:=l.foldl (fun acc x=>K1 lt acc [x]) []
theorem am5 (h:Swo lt):∀ (l:List α) (acc:List α),l.foldl (fun acc x=>K1 lt acc [x]) acc=K1 lt acc (ad5 lt l)
  | [],acc=>by simp [ad5,az3]
  | x::l,acc=>by
    have ih:=am5 h l
    unfold ad5
    simp only [List.foldl_cons]
    rw [ih,ag8,ih [x],cZ5 h]
theorem bq7 (h:Swo lt) (l1 l2:List α):ad5 lt (l1++l2)=K1 lt (ad5 lt l1) (ad5 lt l2):=by
  have:ad5 lt (l1++l2)=l2.foldl (fun acc x=>K1 lt acc [x]) (ad5 lt l1):=by unfold ad5; rw [List.foldl_append]
  rw [this,am5 h]
theorem cq7 (l:List α) (x:α):ad5 lt (l++[x])=K1 lt (ad5 lt l) [x]:=by simp [ad5]
theorem aH5 (h:Swo lt):∀ (l:List α),(ad5 lt l).length=l.length
  | []=>rfl
  | x::l=>by
    have:=bq7 h [x] l
    rw [List.singleton_append] at this
    rw [this,al1,aH5 h l]
    simp [ad5,ag8]
    omega
theorem br1 (h:Swo lt):∀ (l:List α),Srt lt (ad5 lt l)
  | []=>List.Pairwise.nil
  | x::l=>by
    have:=bq7 h [x] l
    rw [List.singleton_append] at this
    rw [this]
    refine cZ3 h ?_ (br1 h l)
    simp [ad5,ag8,Srt]
theorem cp4 (h:Swo lt) {z:α}:∀ (l:List α),z∈ad5 lt l↔z∈l
  | []=>Iff.rfl
  | x::l=>by
    have:=bq7 h [x] l
    rw [List.singleton_append] at this
    rw [this,bV0,cp4 h l]
    simp [ad5,ag8]
end
end Go.Proofs.YtiecpfnjmlidbaaGreatDoor

namespace Go.Proofs.YtiecpfnjmlidbaaGreatDoor
open Go Go.Proofs.YtiecpfnjmlidbaaGreatDoor.Kit
section
variable {α:Type}
def Mv (d0 d:List α) (f:Nat→Nat):Prop:=d.length=d0.length∧∀ k,d[k]? = d0[f k]?
theorem Mv.refl (d:List α):Mv d d (fun k=>k):=⟨rfl,fun _=>rfl⟩
theorem Mv.then {d0 d1 d2:List α} {f g:Nat→Nat} (h:Mv d0 d1 f) (k:Mv d1 d2 g):Mv d0 d2 (fun i=>f (g i)):=⟨k.1.trans h.1,fun i=>(k.2 i).trans (h.2 _)⟩
theorem Mv.of {d0 d:List α} {f g:Nat→Nat} (h:Mv d0 d f) (e:∀ k,f k=g k):Mv d0 d g:=⟨h.1,fun k=>by rw [h.2,e]⟩
def sw2 (i j k:Nat):Nat:=if k=i then j else if k=j then i else k
theorem Mv.swap {d:List α} {i j:Nat} {x y:α} (hx:d[i]? = some x) (hy:d[j]? = some y):Mv d ((d.set i y).set j x) (sw2 i j):=by
  have hi:=(List.getElem?_eq_some_iff.1 hx).1
  have hj:=(List.getElem?_eq_some_iff.1 hy).1
  refine ⟨by simp,fun k=>?_⟩
  unfold sw2
  rw [List.getElem?_set,List.getElem?_set]
  by_cases h1:j=k
  · subst h1
    rw [if_pos rfl,if_pos (by simpa using hj)]
    by_cases h2:j=i
    · subst h2
      rw [if_pos rfl]
      exact hx.symm
    · rw [if_neg h2,if_pos rfl]
      exact hx.symm
  · rw [if_neg h1]
    by_cases h2:i=k
    · subst h2
      rw [if_pos rfl,if_pos hi,if_pos rfl,hy]
    · rw [if_neg h2,if_neg (Ne.symm h2),if_neg (Ne.symm h1)]
def swp (a b n k:Nat):Nat:=if a≤k∧k<a+n then k - a+b else if b≤k∧k<b+n then k - b+a else k
theorem cZ6 {a b n k:Nat} (h:a+n<b):swp a b n (sw2 (a+n) (b+n) k)=swp a b (n+1) k:=by
  unfold swp sw2
  (repeat' split) <;> omega
def ax4 (a p q k:Nat):Nat:=if a≤k∧k<a+q then k+p else if a+q≤k∧k<a+q+p then k - q else k
theorem cZ7 {a p k:Nat}:swp a (a+p) p k=ax4 a p p k:=by
  unfold swp ax4
  (repeat' split) <;> omega
theorem cZ8 {a p q k:Nat} (h:q<p):swp a (a+p) q (ax4 (a+q) (p - q) q k)=ax4 a p q k:=by
  unfold swp ax4
  (repeat' split) <;> omega
theorem cZ9 {a p q k:Nat} (h:p<q):swp a (a+q) p (ax4 a p (q - p) k)=ax4 a p q k:=by
  unfold swp ax4
  (repeat' split) <;> omega
theorem Mv.rot {A X Y B e:List α} (h:Mv (A++(X++(Y++B))) e (ax4 A.length X.length Y.length)):e=A++(Y++(X++B)):=by
  refine List.ext_getElem? (fun k=>?_)
  rw [h.2]
  unfold ax4
  split
  · rename_i h1
    rw [List.getElem?_append_right (by omega),List.getElem?_append_right (by omega),List.getElem?_append_left (by omega),List.getElem?_append_right (by omega),List.getElem?_append_left (by omega)]
    congr 1
    omega
  · split
    · rename_i h1 h2
      rw [List.getElem?_append_right (by omega),List.getElem?_append_left (by omega),List.getElem?_append_right (by omega),List.getElem?_append_right (by omega),List.getElem?_append_left (by omega)]
      congr 1
      omega
    · rename_i h1 h2
      rcases Nat.lt_or_ge k A.length with h3 | h3
      · rw [List.getElem?_append_left h3,List.getElem?_append_left h3]
      · rw [List.getElem?_append_right h3,List.getElem?_append_right h3,List.getElem?_append_right (by omega),List.getElem?_append_right (by omega),List.getElem?_append_right (by omega),List.getElem?_append_right (by omega)]
        congr 1
        omega
def shf (a t k:Nat):Nat:=if a≤k∧k<a+t then k+1 else if k=a+t then a else k
theorem da0 {a t k:Nat}:shf a t (sw2 (a+t) (a+t+1) k)=shf a (t+1) k:=by
  unfold shf sw2
  (repeat' split) <;> omega
def shb (m t k:Nat):Nat:=if m<k+t∧k≤m then k - 1 else if k+t=m then m else k
theorem da1 {m t k:Nat} (h:t<m):shb m t (sw2 (m - t) (m - t - 1) k)=shb m (t+1) k:=by
  unfold shb sw2
  (repeat' split) <;> omega
theorem da2 {a t k:Nat}:shf a t k=ax4 a 1 t k:=by
  unfold shf ax4
  (repeat' split) <;> omega
theorem da3 {a t k:Nat}:shb (a+t) t k=ax4 a t 1 k:=by
  unfold shb ax4
  (repeat' split) <;> omega
end
end Go.Proofs.YtiecpfnjmlidbaaGreatDoor

namespace Go.Proofs.YtiecpfnjmlidbaaGreatDoor
open Go Go.Proofs.YtiecpfnjmlidbaaGreatDoor.Kit
theorem da4 {α:Type} (l:List α):l=[]∨∃ l' a,l=l'++[a]:=by
  cases h:l.reverse with
  | nil=>exact .inl (by simpa using h)
  | cons x xs=>exact .inr ⟨xs.reverse,x,by have:=congrArg List.reverse h; simpa using this⟩
theorem bG7 {α:Type} {xs:List α} {i:Int} {x:α} (h:o7 xs i=some x) (j:Nat) (y:α):∃ x',o7 (xs.set j y) i=some x':=by
  obtain ⟨h0,h1,h2⟩:=aa2 h
  have hlt:i.toNat<(xs.set j y).length:=by rw [List.length_set]; omega
  exact ⟨_,by unfold o7; rw [if_pos h0,List.getElem?_eq_getElem hlt]⟩
theorem Z6 {α:Type} {xs:List α} {i:Nat} (h:i<xs.length):o7 xs (i:Int)=some xs[i]:=by simp [o7,h]
theorem bG8 {α:Type} {A B:List α} {x:α} {i:Int} (h:i=(A.length:Int)):o7 (A++x::B) i=some x:=by subst h; simp [o7]
theorem bG9 (f:Nat→Bool) (lo:Nat):∀ (n:Nat),(∀ i j,lo≤i→i≤j→j<lo+n→f j=true→f i=true)→∃ p,lo≤p∧p≤lo+n∧(∀ i,lo≤i→i<p→f i=true)∧(∀ i,p≤i→i<lo+n→f i=false)
  | 0,_=>⟨lo,by omega,by omega,fun i _ _=>by omega,fun i _ _=>by omega⟩
  | n+1,h=>by
    obtain ⟨p,h1,h2,h3,h4⟩:=bG9 f lo n (fun i j a b c d=>h i j a b (by omega) d)
    cases hf:f (lo+n)
    · refine ⟨p,h1,by omega,h3,fun i a b=>?_⟩
      by_cases hi:i=lo+n
      · subst hi; exact hf
      · exact h4 i a (by omega)
    · refine ⟨lo+n+1,by omega,by omega,fun i a b=>h i (lo+n) a (by omega) (by omega) hf,fun i a b=>by omega⟩
theorem bsN {β:Type} {E:Int→Option β} {L:Nat→Int→Int→Option β} {lo hi p:Nat} (hp1:lo≤p) (hp2:p≤hi)
    (h1:∀ (k i j:Nat),lo≤i→i<j→j≤hi→(i+j) / 2<p→L (k+1) i j=L k (((i+j) / 2+1:Nat):Int) j) (h2:∀ (k i j:Nat),lo≤i→i<j→j≤hi→p≤(i+j) / 2→L (k+1) i j=L k i (((i+j) / 2:Nat):Int))
    (hE:∀ (k i:Nat),L (k+1) i i=E i) (hb:hi<n8):L n8 lo hi=E p:=by
  have key:∀ (d k i j:Nat),lo≤i→i≤p→p≤j→j≤hi→j - i≤d→d<k→L k i j=E p:=by
    intro d
    induction d with
    | zero =>
      intro k i j a1 a2 a3 a4 a5 a6
      obtain ⟨k,rfl⟩:∃ m,k=m+1:=⟨k - 1,by omega⟩
      have e1:i=p:=by omega
      have e2:j=p:=by omega
      subst e1 e2
      exact hE k _
    | succ d ih =>
      intro k i j a1 a2 a3 a4 a5 a6
      obtain ⟨k,rfl⟩:∃ m,k=m+1:=⟨k - 1,by omega⟩
      by_cases hij:i<j
      · by_cases hc:(i+j) / 2<p
        · rw [h1 k i j a1 hij a4 hc]
          exact ih k _ j (by omega) (by omega) a3 a4 (by omega) (by omega)
        · rw [h2 k i j a1 hij a4 (by omega)]
          exact ih k i _ a1 a2 (by omega) (by omega) (by omega) (by omega)
      · have e1:i=p:=by omega
        have e2:j=p:=by omega
        subst e1 e2
        exact hE k _
  exact key hi n8 lo hi (Nat.le_refl _) hp1 hp2 (Nat.le_refl _) (by omega) hb
theorem aX3 {i j:Nat} (h1:i≤j) (h2:j≤2305843009213693952):c5 (F8 .u64 (IntKind.wrap .u64 (c5 ((i:Int)+(j:Int)))) 1)=(((i+j) / 2:Nat):Int):=by
  rw [cq5 (by omega) (by omega) (by omega)]
  omega
def W0:Nat:=1152921504606846976
def C3 (a b:Blob):Bool:=decide (a.Used<b.Used)
theorem ac2:Swo C3:=⟨fun x y h=>by simp [C3] at *; omega,fun x y z h k=>by simp [C3] at *; omega⟩
theorem bc8 (x y:Blob):∃ z,aX4.f x y=some z∧decide (z<0)=C3 x y:=by
  unfold aX4.f bH0.f cmp_isNaN_int.f C3
  simp only [bne_self_eq_false,Option.bind_some,cond_false]
  by_cases h1:x.Used<y.Used
  · exact ⟨-1,by simp [h1],by simp [h1]⟩
  · by_cases h2:y.Used<x.Used
    · exact ⟨1,by simp [h1,h2],by simp [h1]⟩
    · exact ⟨0,by simp [h1,h2],by simp [h1]⟩
theorem am9 {d0:List Blob} {a b n:Nat} (hN:d0.length≤W0) (hab:a+n≤b) (hb:b+n≤d0.length):∀ (r k i:Nat) (d:List Blob),i+r=n→r<k→Mv d0 d (swp a b i)→∃ e,av0.l1 k a b n d i=some e∧Mv d0 e (swp a b n)
  | 0,k,i,d,h1,h2,h3=>by
    obtain ⟨k,rfl⟩:∃ m,k=m+1:=⟨k - 1,by omega⟩
    have:i=n:=by omega
    subst this
    exact ⟨d,by simp [av0.l1],h3⟩
  | r+1,k,i,d,h1,h2,h3=>by
    obtain ⟨k,rfl⟩:∃ m,k=m+1:=⟨k - 1,by omega⟩
    have hl:=h3.1
    unfold W0 at hN
    have w1:c5 ((b:Int)+(i:Int))=((b+i:Nat):Int):=by rw [B7 (by omega) (by omega)]; omega
    have w2:c5 ((a:Int)+(i:Int))=((a+i:Nat):Int):=by rw [B7 (by omega) (by omega)]; omega
    have w3:c5 ((i:Int)+1)=((i+1:Nat):Int):=by rw [B7 (by omega) (by omega)]; omega
    have hx1:=Z6 (xs:=d) (i:=b+i) (by omega)
    have w6:=Z6 (xs:=d) (i:=a+i) (by omega)
    obtain ⟨x3,K8⟩:=bG7 hx1 (a+i) d[b+i]
    have g1:d[a+i]? = some d[a+i]:=List.getElem?_eq_getElem (by omega)
    have g2:d[b+i]? = some d[b+i]:=List.getElem?_eq_getElem (by omega)
    have hm:=(h3.then (Mv.swap g1 g2)).of (fun q=>cZ6 (by omega))
    obtain ⟨e,he,hme⟩:=am9 hN hab hb r k (i+1) _ (by omega) (by omega) hm
    refine ⟨e,?_,hme⟩
    rw [av0.l1,decide_eq_true (by omega),w1,w2,w3,hx1,w6]
    simp only [cond_true,Option.bind_some,Int.toNat_natCast,K8]
    exact he
theorem bV4 {d:List Blob} {a b n:Nat} (hN:d.length≤W0) (hab:a+n≤b) (hb:b+n≤d.length):∃ e,av0.f d a b n=some e∧Mv d e (swp a b n):=by
  unfold av0.f
  refine am9 hN hab hb n n8 0 d (by omega) (by unfold n8; unfold W0 at hN; omega) ((Mv.refl d).of (fun k=>?_))
  unfold swp
  rw [if_neg (by omega),if_neg (by omega)]
theorem bV5:∀ (s k p q m:Nat) (d:List Blob),p+q≤s→0<p→0<q→p≤m→m+q≤d.length→d.length≤W0→s<k→∃ e,ai6.l2 ai6.e1 k m d p q=some e∧Mv d e (ax4 (m - p) p q)
  | 0,k,p,q,m,d,h1,h2,h3,_,_,_,_=>by omega
  | s+1,k,p,q,m,d,h1,h2,h3,h4,h5,h6,h7=>by
    obtain ⟨k,rfl⟩:∃ m,k=m+1:=⟨k - 1,by omega⟩
    have h6':d.length≤1152921504606846976:=h6
    have w1:c5 ((m:Int) - (p:Int))=((m - p:Nat):Int):=by rw [B7 (by omega) (by omega)]; omega
    have w2:c5 ((c5 ((m:Int)+(q:Int))) - (p:Int))=((m+q - p:Nat):Int):=by rw [B7 (n:=(m:Int)+(q:Int)) (by omega) (by omega),B7 (by omega) (by omega)]; omega
    rw [ai6.l2]
    by_cases he:p=q
    · subst he
      obtain ⟨e,e1,e2⟩:=bV4 (d:=d) (a:=m - p) (b:=m) (n:=p) h6 (by omega) (by omega)
      refine ⟨e,?_,e2.of (fun i=>?_)⟩
      · simp only [bne_self_eq_false,cond_false,ai6.e1,w1,e1,Option.bind_some]
      · rw [← cZ7,show m - p+p=m by omega]
    · have hb:((p:Int) != (q:Int))=true:=by simp; omega
      rw [hb]
      by_cases hlt:q<p
      · have w3:c5 ((p:Int) - (q:Int))=((p - q:Nat):Int):=by rw [B7 (by omega) (by omega)]; omega
        obtain ⟨e1,f1,f2⟩:=bV4 (d:=d) (a:=m - p) (b:=m) (n:=q) h6 (by omega) (by omega)
        obtain ⟨e,g1,g2⟩:=bV5 s k (p - q) q m e1 (by omega) (by omega) h3 (by omega) (by rw [f2.1]; exact h5) (by rw [f2.1]; exact h6) (by omega)
        refine ⟨e,?_,(f2.then g2).of ?_⟩
        · rw [decide_eq_true (show (q:Int)<(p:Int) by omega)]
          simp only [cond_true,w1,f1,Option.bind_some,w3]
          exact g1
        · intro i
          have:=cZ8 (a:=m - p) (p:=p) (q:=q) (k:=i) hlt
          rw [show m - p+p=m by omega,show m - p+q=m - (p - q) by omega] at this
          exact this
      · have w3:c5 ((q:Int) - (p:Int))=((q - p:Nat):Int):=by rw [B7 (by omega) (by omega)]; omega
        obtain ⟨e1,f1,f2⟩:=bV4 (d:=d) (a:=m - p) (b:=m+q - p) (n:=p) h6 (by omega) (by omega)
        obtain ⟨e,g1,g2⟩:=bV5 s k p (q - p) m e1 (by omega) h2 (by omega) h4 (by rw [f2.1]; omega) (by rw [f2.1]; exact h6) (by omega)
        refine ⟨e,?_,(f2.then g2).of ?_⟩
        · rw [decide_eq_false (show ¬ (q:Int)<(p:Int) by omega)]
          simp only [cond_true,cond_false,w1,w2,f1,Option.bind_some,w3]
          exact g1
        · intro i
          have:=cZ9 (a:=m - p) (p:=p) (q:=q) (k:=i) (by omega)
          rw [show m - p+q=m+q - p by omega] at this
          exact this
theorem da7 {A X Y B:List Blob} (hX:X≠[]) (hY:Y≠[]) (hN:(A++(X++(Y++B))).length≤W0):ai6.f (A++(X++(Y++B))) (A.length:Int) ((A.length+X.length:Nat):Int) ((A.length+X.length+Y.length:Nat):Int)=some (A++(Y++(X++B))):=by
  have hx:=List.length_pos_iff.2 hX
  have hy:=List.length_pos_iff.2 hY
  have hN':(A++(X++(Y++B))).length≤1152921504606846976:=hN
  simp only [List.length_append] at hN'
  unfold ai6.f
  have w1:c5 (((A.length+X.length:Nat):Int) - (A.length:Int))=(X.length:Int):=by rw [B7 (by omega) (by omega)]; omega
  have w2:c5 (((A.length+X.length+Y.length:Nat):Int) - ((A.length+X.length:Nat):Int))=(Y.length:Int):=by rw [B7 (by omega) (by omega)]; omega
  rw [w1,w2]
  obtain ⟨e,h1,h2⟩:=bV5 (X.length+Y.length) n8 X.length Y.length (A.length+X.length) (A++(X++(Y++B))) (Nat.le_refl _) hx hy (by omega) (by simp only [List.length_append]; omega) hN (by unfold n8; omega)
  rw [h1]
  rw [show A.length+X.length - X.length=A.length by omega] at h2
  rw [h2.rot]
theorem da8 {α:Type} (P T:List α) (z x:α):((P++z::x::T).set (P.length+1) z).set P.length x=P++x::z::T:=by
  simp [List.set_append]
theorem an0 {e2:Int→Int→Int→List Blob→Option (List Blob)} {A R:List Blob} {x:Blob} {a b i:Int} (ha:a=(A.length:Int)):∀ (s k:Nat) (aX5 ax6:List Blob),aX5.length=s→s<k→(A.length+aX5.length:Nat)≤W0→Srt C3 (aX5++ax6)→(∀ y∈ax6,C3 x y=true) →
    U4.l3 e2 k a b i (A++(aX5++x::(ax6++R))) ((A.length+aX5.length:Nat):Int)=e2 a b i (A++(K1 C3 (aX5++ax6) [x]++R))
  | s,k,aX5,ax6,h1,h2,h3,h4,h5=>by
    obtain ⟨k,rfl⟩:∃ m,k=m+1:=⟨k - 1,by omega⟩
    rcases da4 aX5 with rfl | ⟨S1',z,rfl⟩
    · subst ha
      rw [U4.l3,decide_eq_false (by simp)]
      simp only [cond_false,Option.bind_some,List.nil_append]
      have:=bG4 (lt:=C3) (y:=x) (ac5:=[]) (ac4:=ax6) (fun _ h=>by cases h) h5
      rw [List.nil_append] at this
      rw [this]
      simp
    · simp only [List.length_append,List.length_cons,List.length_nil] at h1 h3 ⊢
      have h3':A.length+(S1'.length+(0+1))≤1152921504606846976:=h3
      have e0:A++(S1'++[z]++x::(ax6++R))=(A++S1')++z::x::(ax6++R):=by simp
      have w1:c5 (((A.length+(S1'.length+(0+1)):Nat):Int) - 1)=((A.length+S1'.length:Nat):Int):=by rw [B7 (by omega) (by omega)]; omega
      have g1:o7 (A++(S1'++[z]++x::(ax6++R))) ((A.length+(S1'.length+(0+1)):Nat):Int)=some x:=by
        rw [show A++(S1'++[z]++x::(ax6++R))=(A++(S1'++[z]))++x::(ax6++R) by simp]
        exact bG8 (by simp)
      have g2:o7 (A++(S1'++[z]++x::(ax6++R))) ((A.length+S1'.length:Nat):Int)=some z:=by
        rw [e0]
        exact bG8 (by simp)
      obtain ⟨c,hc1,N9⟩:=bc8 x z
      rw [U4.l3,decide_eq_true (by omega),w1,g1,g2]
      simp only [cond_true,Option.bind_some,hc1,N9]
      cases hlt:C3 x z
      · simp only [cond_false]
        have hs1:∀ y∈S1'++[z],C3 x y=false:=by
          intro y hy
          rw [List.append_assoc] at h4
          rcases List.mem_append.1 hy with hy | hy
          · have:=(List.pairwise_append.1 h4).2.2 y hy z (by simp)
            exact ac2.neg _ _ _ hlt this
          · simp at hy; subst hy; exact hlt
        rw [bG4 (lt:=C3) hs1 h5]
        simp
      · simp only [cond_true,Int.toNat_natCast]
        obtain ⟨J5,hx5⟩:=bG7 g2 (A.length+(S1'.length+(0+1))) z
        rw [hx5]
        simp only [Option.bind_some]
        have hset:=da8 (A++S1') (ax6++R) z x
        rw [e0,show A.length+(S1'.length+(0+1))=(A++S1').length+1 by simp; omega,show A.length+S1'.length=(A++S1').length by simp,hset]
        have hsz:S1'.length<s:=by omega
        have ih:=an0 (e2:=e2) (R:=R) (b:=b) (i:=i) ha S1'.length k S1' (z::ax6) rfl (by omega) (by unfold W0; omega) (by rw [List.append_assoc] at h4; exact h4) (fun y hy=>by
          rcases List.mem_cons.1 hy with rfl | hy
          · exact hlt
          · exact h5 y hy)
        rw [show (A++S1').length=A.length+S1'.length by simp]
        rw [show A++S1'++x::z::(ax6++R)=A++(S1'++x::(z::ax6++R)) by simp]
        rw [ih]
        simp
termination_by s=>s
theorem an1 {A B:List Blob} {a b:Int} (ha:a=(A.length:Int)):∀ (Rr:List Blob) (k:Nat) (S:List Blob),Rr.length<k→(A.length+S.length+Rr.length:Nat)≤W0→b=((A.length+S.length+Rr.length:Nat):Int) →
    U4.l1 k a b (A++(ad5 C3 S++(Rr++B))) ((A.length+S.length:Nat):Int)=some (A++(ad5 C3 (S++Rr)++B))
  | [],k,S,h1,h2,hb=>by
    obtain ⟨k,rfl⟩:∃ m,k=m+1:=⟨k - 1,by omega⟩
    rw [U4.l1,decide_eq_false (by rw [hb]; simp)]
    simp
  | x::Rr,k,S,h1,h2,hb=>by
    simp only [List.length_cons] at h1 h2 hb
    have h2':A.length+S.length+(Rr.length+1)≤1152921504606846976:=h2
    obtain ⟨k,rfl⟩:∃ m,k=m+1:=⟨k - 1,by omega⟩
    rw [U4.l1,decide_eq_true (by omega)]
    simp only [cond_true]
    have hi:=an0 (e2:=U4.e2 (U4.l1 k)) (A:=A) (R:=Rr++B) (x:=x) (a:=a) (b:=b) (i:=((A.length+S.length:Nat):Int)) ha S.length n8 (ad5 C3 S) [] (aH5 ac2 S) (by unfold n8; omega) (by rw [aH5 ac2]; unfold W0; omega) (by rw [List.append_nil]; exact br1 ac2 S) (fun y hy=>by cases hy)
    rw [aH5 ac2,List.append_nil,List.nil_append] at hi
    rw [List.cons_append,hi]
    unfold U4.e2
    have w1:c5 (((A.length+S.length:Nat):Int)+1)=((A.length+(S++[x]).length:Nat):Int):=by rw [B7 (by omega) (by omega)]; simp; omega
    rw [w1,← cq7]
    have:=an1 (b:=b) (B:=B) ha Rr k (S++[x]) (by omega) (by simp; unfold W0; omega) (by rw [hb]; simp; omega)
    rw [this]
    simp
theorem ao6 {A X B:List Blob} (h:(A.length+X.length:Nat)≤W0):U4.f (A++(X++B)) (A.length:Int) ((A.length+X.length:Nat):Int)=some (A++(ad5 C3 X++B)):=by
  unfold U4.f
  have h':A.length+X.length≤1152921504606846976:=h
  have w1:c5 ((A.length:Int)+1)=((A.length+1:Nat):Int):=by rw [B7 (by omega) (by omega)]; omega
  rw [w1]
  cases X with
  | nil =>
    have:n8=(n8 - 1)+1:=by unfold n8; omega
    rw [this,U4.l1,decide_eq_false (by simp; omega)]
    simp [ad5]
  | cons x X =>
    have:=an1 (A:=A) (B:=B) (a:=(A.length:Int)) (b:=((A.length+(x::X).length:Nat):Int)) rfl X n8 [x] (by unfold n8; simp at h'; omega) (by simp at h' ⊢; unfold W0; omega) (by simp; omega)
    rw [show ad5 C3 [x]=[x] by simp [ad5,ag8]] at this
    simp only [List.length_cons,List.length_nil] at this ⊢
    exact this
end Go.Proofs.YtiecpfnjmlidbaaGreatDoor

namespace Go.Proofs.YtiecpfnjmlidbaaGreatDoor
open Go Go.Proofs.YtiecpfnjmlidbaaGreatDoor.Kit
theorem cs9 {d0:List Blob} {a i:Nat} (hN:d0.length≤W0) (hi:i≤d0.length) (ha:a<i):∀ (r k t:Nat) (d:List Blob),a+t+1+r=i→r<k→Mv d0 d (shf a t)→∃ e,s6.l2 k i d ((a+t:Nat):Int)=some e∧Mv d0 e (shf a (i - 1 - a))
  | 0,k,t,d,h1,h2,h3=>by
    obtain ⟨k,rfl⟩:∃ m,k=m+1:=⟨k - 1,by omega⟩
    have hN':d0.length≤1152921504606846976:=hN
    have w1:c5 ((i:Int) - 1)=((i - 1:Nat):Int):=by rw [B7 (by omega) (by omega)]; omega
    refine ⟨d,?_,?_⟩
    · rw [s6.l2,w1,decide_eq_false (by omega)]
      rfl
    · rw [show i - 1 - a=t by omega]
      exact h3
  | r+1,k,t,d,h1,h2,h3=>by
    obtain ⟨k,rfl⟩:∃ m,k=m+1:=⟨k - 1,by omega⟩
    have hN':d0.length≤1152921504606846976:=hN
    have hl:=h3.1
    have w1:c5 ((i:Int) - 1)=((i - 1:Nat):Int):=by rw [B7 (by omega) (by omega)]; omega
    have w2:c5 (((a+t:Nat):Int)+1)=((a+t+1:Nat):Int):=by rw [B7 (by omega) (by omega)]; omega
    have hx1:=Z6 (xs:=d) (i:=a+t+1) (by omega)
    have w6:=Z6 (xs:=d) (i:=a+t) (by omega)
    obtain ⟨x3,K8⟩:=bG7 hx1 (a+t) d[a+t+1]
    have g1:d[a+t]? = some d[a+t]:=List.getElem?_eq_getElem (by omega)
    have g2:d[a+t+1]? = some d[a+t+1]:=List.getElem?_eq_getElem (by omega)
    have hm:=(h3.then (Mv.swap g1 g2)).of (fun q=>da0)
    obtain ⟨e,he,hme⟩:=cs9 hN hi ha r k (t+1) _ (by omega) (by omega) hm
    refine ⟨e,?_,hme⟩
    rw [s6.l2,w1,decide_eq_true (by omega),w2,hx1,w6]
    simp only [cond_true,Option.bind_some,Int.toNat_natCast,K8]
    exact he
theorem ct0 {d0:List Blob} {m i:Nat} (hN:d0.length≤W0) (hm:m<d0.length) (hi:i≤m):∀ (r k t:Nat) (d:List Blob),i+r+t=m→r<k→Mv d0 d (shb m t)→∃ e,s6.l5 k i d ((m - t:Nat):Int)=some e∧Mv d0 e (shb m (m - i))
  | 0,k,t,d,h1,h2,h3=>by
    obtain ⟨k,rfl⟩:∃ m,k=m+1:=⟨k - 1,by omega⟩
    refine ⟨d,?_,?_⟩
    · rw [s6.l5,decide_eq_false (by omega)]
      rfl
    · rw [show m - i=t by omega]
      exact h3
  | r+1,k,t,d,h1,h2,h3=>by
    obtain ⟨k,rfl⟩:∃ m,k=m+1:=⟨k - 1,by omega⟩
    have hN':d0.length≤1152921504606846976:=hN
    have hl:=h3.1
    have w1:c5 (((m - t:Nat):Int) - 1)=((m - t - 1:Nat):Int):=by rw [B7 (by omega) (by omega)]; omega
    have hx1:=Z6 (xs:=d) (i:=m - t - 1) (by omega)
    have w6:=Z6 (xs:=d) (i:=m - t) (by omega)
    obtain ⟨x3,K8⟩:=bG7 hx1 (m - t) d[m - t - 1]
    have g1:d[m - t]? = some d[m - t]:=List.getElem?_eq_getElem (by omega)
    have g2:d[m - t - 1]? = some d[m - t - 1]:=List.getElem?_eq_getElem (by omega)
    have hm':=(h3.then (Mv.swap g1 g2)).of (fun q=>da1 (by omega))
    obtain ⟨e,he,hme⟩:=ct0 hN hm hi r k (t+1) _ (by omega) (by omega) hm'
    refine ⟨e,?_,hme⟩
    rw [s6.l5,decide_eq_true (by omega),w1,hx1,w6]
    simp only [cond_true,Option.bind_some,Int.toNat_natCast,K8]
    rw [show m - t - 1=m - (t+1) by omega] at *
    exact he
theorem aS6 {l:List Blob} (h:Srt C3 l) {i j:Nat} (hj:j<l.length) (hij:i≤j):C3 l[j] (l[i]'(by omega))=false:=by
  rcases Nat.lt_or_ge i j with h1 | h1
  · exact List.pairwise_iff_getElem.1 h i j (by omega) hj h1
  · have:i=j:=by omega
    subst this
    cases hc:C3 l[i] l[i]
    · rfl
    · have:=ac2.bG6 _ _ hc
      rw [hc] at this
      cases this
theorem bq9 {α:Type} {l:List α} {n:Nat} {x:α} (h:x∈l.take n):∃ i,∃ (hi:i<l.length),i<n∧x=l[i]:=by
  obtain ⟨i,hi,rfl⟩:=List.getElem_of_mem h
  simp only [List.length_take] at hi
  exact ⟨i,by omega,by omega,by simp⟩
theorem br0 {α:Type} {l:List α} {n:Nat} {x:α} (h:x∈l.drop n):∃ i,∃ (hi:i<l.length),n≤i∧x=l[i]:=by
  obtain ⟨i,hi,rfl⟩:=List.getElem_of_mem h
  simp only [List.length_drop] at hi
  exact ⟨n+i,by omega,by omega,by simp⟩
theorem da9 {A R B:List Blob} {x:Blob} (hR:Srt C3 R) (hN:(A++(x::(R++B))).length≤W0) :
    s6.l3 s6.e1 n8 (A++(x::(R++B))) (A.length:Int) ((A.length+1:Nat):Int) ((A.length+1+R.length:Nat):Int)=some (A++(K1 C3 [x] R++B)):=by
  have hN':(A++(x::(R++B))).length≤1152921504606846976:=hN
  simp only [List.length_append,List.length_cons] at hN'
  obtain ⟨p,p1,p2,p3,aB7⟩:=bG9 (fun i=>match R[i]? with | some y=>C3 y x | none=>false) 0 R.length (fun i j _ hij hj h=>by
    rw [List.getElem?_eq_getElem (by omega)] at h ⊢
    simp only at h ⊢
    exact ac2.cs2 (aS6 hR (by omega) hij) h)
  rw [Nat.zero_add] at p2 aB7
  have hat:∀ h:Nat,A.length+1≤h→∀ (hh:h - (A.length+1)<R.length),o7 (A++(x::(R++B))) (h:Int)=some R[h - (A.length+1)]:=by
    intro h h1 h2
    have e:A++(x::(R++B))=(A++[x])++(R++B):=by simp
    have hlt:h<(A++(x::(R++B))).length:=by simp; omega
    rw [Z6 hlt]
    congr 1
    simp only [e]
    rw [List.getElem_append_right (by simp; omega),List.getElem_append_left (by simp; omega)]
    simp
  have hax:o7 (A++(x::(R++B))) (A.length:Int)=some x:=bG8 rfl
  rw [bsN (L:=fun k i j=>s6.l3 s6.e1 k (A++(x::(R++B))) (A.length:Int) i j) (E:=fun i=>s6.e1 (A++(x::(R++B))) (A.length:Int) i) (p:=A.length+1+p) (by omega) (by omega) ?_ ?_ ?_ (by unfold n8; omega)]
  · -- the element goes on
    unfold s6.e1
    obtain ⟨e,h1,h2⟩:=cs9 (d0:=A++(x::(R++B))) (a:=A.length) (i:=A.length+1+p) hN (by simp; omega) (by omega) p n8 0 _ (by omega) (by unfold n8; omega) ((Mv.refl _).of (fun k=>by unfold shf; split <;> (try split) <;> omega))
    simp only [Nat.add_zero] at h1
    rw [h1]
    rw [show A.length+1+p - 1 - A.length=p by omega] at h2
    have h3:=h2.of (fun k=>da2)
    have e0:A++(x::(R++B))=A++([x]++(R.take p++(R.drop p++B))):=by
      rw [← List.append_assoc (R.take p),List.take_append_drop]; rfl
    rw [e0] at h3
    have h4:=Mv.rot (A:=A) (X:=[x]) (Y:=R.take p) (B:=R.drop p++B) (e:=e) (by rw [List.length_take,Nat.min_eq_left p2]; exact h3)
    rw [h4]
    have:=cZ4 (lt:=C3) (x:=x) (ad1:=R.take p) (ad2:=R.drop p) (fun y hy=>by
      obtain ⟨i,hi,hip,rfl⟩:=bq9 hy
      have:=p3 i (by omega) hip
      rw [List.getElem?_eq_getElem hi] at this
      exact this) (fun y hy=>by
      obtain ⟨i,hi,hip,rfl⟩:=br0 hy
      have:=aB7 i hip hi
      rw [List.getElem?_eq_getElem hi] at this
      exact this)
    rw [List.take_append_drop] at this
    rw [this]
    simp
  · intro k i j a1 a2 a3 a4
    obtain ⟨c,hc1,N9⟩:=bc8 (R[(i+j) / 2 - (A.length+1)]'(by omega)) x
    have hlt:C3 (R[(i+j) / 2 - (A.length+1)]'(by omega)) x=true:=by
      have:=p3 ((i+j) / 2 - (A.length+1)) (by omega) (by omega)
      rw [List.getElem?_eq_getElem (by omega)] at this
      exact this
    simp only [s6.l3]
    rw [decide_eq_true (by omega),aX3 (by omega) (by omega),hat _ (by omega) (by omega),hax]
    simp only [cond_true,Option.bind_some,hc1,N9,hlt]
    rw [show c5 ((((i+j) / 2:Nat):Int)+1)=(((i+j) / 2+1:Nat):Int) by rw [B7 (by omega) (by omega)]; omega]
  · intro k i j a1 a2 a3 a4
    obtain ⟨c,hc1,N9⟩:=bc8 (R[(i+j) / 2 - (A.length+1)]'(by omega)) x
    have hlt:C3 (R[(i+j) / 2 - (A.length+1)]'(by omega)) x=false:=by
      have:=aB7 ((i+j) / 2 - (A.length+1)) (by omega) (by omega)
      rw [List.getElem?_eq_getElem (by omega)] at this
      exact this
    simp only [s6.l3]
    rw [decide_eq_true (by omega),aX3 (by omega) (by omega),hat _ (by omega) (by omega),hax]
    simp only [cond_true,Option.bind_some,hc1,N9,hlt,cond_false]
  · intro k i
    simp only [s6.l3]
    rw [decide_eq_false (by omega)]
    rfl
theorem db0 {A L B:List Blob} {y:Blob} (hL:Srt C3 L) (hN:(A++(L++(y::B))).length≤W0) :
    s6.l6 s6.S2 n8 (A++(L++(y::B))) ((A.length+L.length:Nat):Int) (A.length:Int) ((A.length+L.length:Nat):Int)=some (A++(K1 C3 L [y]++B)):=by
  have hN':(A++(L++(y::B))).length≤1152921504606846976:=hN
  simp only [List.length_append,List.length_cons] at hN'
  obtain ⟨p,p1,p2,p3,aB7⟩:=bG9 (fun i=>match L[i]? with | some x=>!C3 y x | none=>false) 0 L.length (fun i j _ hij hj h=>by
    rw [List.getElem?_eq_getElem (by omega)] at h ⊢
    simp only [Bool.not_eq_true'] at h ⊢
    cases hc:C3 y L[i]
    · rfl
    · rw [ac2.cs1 hc (aS6 hL (show j<L.length by omega) hij)] at h
      cases h)
  rw [Nat.zero_add] at p2 aB7
  have hat:∀ h:Nat,A.length≤h→∀ (hh:h - A.length<L.length),o7 (A++(L++(y::B))) (h:Int)=some L[h - A.length]:=by
    intro h h1 h2
    have hlt:h<(A++(L++(y::B))).length:=by simp; omega
    rw [Z6 hlt]
    congr 1
    rw [List.getElem_append_right (by omega),List.getElem_append_left (by omega)]
  have hay:o7 (A++(L++(y::B))) ((A.length+L.length:Nat):Int)=some y:=by
    rw [← List.append_assoc]
    exact bG8 (by simp)
  rw [bsN (L:=fun k i j=>s6.l6 s6.S2 k (A++(L++(y::B))) ((A.length+L.length:Nat):Int) i j) (E:=fun i=>s6.S2 (A++(L++(y::B))) ((A.length+L.length:Nat):Int) i) (p:=A.length+p) (by omega) (by omega) ?_ ?_ ?_ (by unfold n8; omega)]
  · unfold s6.S2
    obtain ⟨e,h1,h2⟩:=ct0 (d0:=A++(L++(y::B))) (m:=A.length+L.length) (i:=A.length+p) hN (by simp only [List.length_append,List.length_cons]; omega) (by omega) (L.length - p) n8 0 _ (by omega) (by unfold n8; omega) ((Mv.refl _).of (fun k=>by unfold shb; split <;> (try split) <;> omega))
    rw [Nat.sub_zero] at h1
    rw [h1]
    rw [show A.length+L.length - (A.length+p)=L.length - p by omega] at h2
    have h3:=h2.of (fun k=>(by rw [← da3 (a:=A.length+p) (t:=L.length - p),show A.length+p+(L.length - p)=A.length+L.length by omega]:shb (A.length+L.length) (L.length - p) k=ax4 (A.length+p) (L.length - p) 1 k))
    have e0:A++(L++(y::B))=(A++L.take p)++(L.drop p++([y]++B)):=by
      rw [List.append_assoc,← List.append_assoc (L.take p),List.take_append_drop]; rfl
    rw [e0] at h3
    have h4:=Mv.rot (A:=A++L.take p) (X:=L.drop p) (Y:=[y]) (B:=B) (e:=e) (by rw [List.length_append,List.length_take,Nat.min_eq_left p2,List.length_drop]; exact h3)
    rw [h4]
    have:=bG4 (lt:=C3) (y:=y) (ac5:=L.take p) (ac4:=L.drop p) (fun x hx=>by
      obtain ⟨i,hi,hip,rfl⟩:=bq9 hx
      have:=p3 i (by omega) hip
      rw [List.getElem?_eq_getElem hi] at this
      simpa using this) (fun x hx=>by
      obtain ⟨i,hi,hip,rfl⟩:=br0 hx
      have:=aB7 i hip hi
      rw [List.getElem?_eq_getElem hi] at this
      simpa using this)
    rw [List.take_append_drop] at this
    rw [this]
    simp
  · intro k i j a1 a2 a3 a4
    obtain ⟨c,hc1,N9⟩:=bc8 y (L[(i+j) / 2 - A.length]'(by omega))
    have hlt:C3 y (L[(i+j) / 2 - A.length]'(by omega))=false:=by
      have:=p3 ((i+j) / 2 - A.length) (by omega) (by omega)
      rw [List.getElem?_eq_getElem (by omega)] at this
      simpa using this
    simp only [s6.l6]
    rw [decide_eq_true (by omega),aX3 (by omega) (by omega),hat ((i+j) / 2) (by omega) (by omega),hay]
    simp only [cond_true,Option.bind_some,hc1,N9,hlt,Bool.not_false]
    rw [show c5 ((((i+j) / 2:Nat):Int)+1)=(((i+j) / 2+1:Nat):Int) by rw [B7 (by omega) (by omega)]; omega]
  · intro k i j a1 a2 a3 a4
    obtain ⟨c,hc1,N9⟩:=bc8 y (L[(i+j) / 2 - A.length]'(by omega))
    have hlt:C3 y (L[(i+j) / 2 - A.length]'(by omega))=true:=by
      have:=aB7 ((i+j) / 2 - A.length) (by omega) (by omega)
      rw [List.getElem?_eq_getElem (by omega)] at this
      simpa using this
    simp only [s6.l6]
    rw [decide_eq_true (by omega),aX3 (by omega) (by omega),hat ((i+j) / 2) (by omega) (by omega),hay]
    simp only [cond_true,Option.bind_some,hc1,N9,hlt,Bool.not_true,cond_false]
  · intro k i
    simp only [s6.l6]
    rw [decide_eq_false (by omega)]
    rfl
end Go.Proofs.YtiecpfnjmlidbaaGreatDoor

namespace Go.Proofs.YtiecpfnjmlidbaaGreatDoor
open Go Go.Proofs.YtiecpfnjmlidbaaGreatDoor.Kit
theorem ct3 {α:Type} {c:Bool} {a b:α} (h:c=true):(bif c then a else b)=a:=by rw [h]; rfl
theorem ct4 {α:Type} {c:Bool} {a b:α} (h:c=false):(bif c then a else b)=b:=by rw [h]; rfl
theorem bV6 {p q:Prop} [Decidable p] [Decidable q]:(bif decide p then (some (decide q)) else (some false))=some (decide (p∧q)):=by
  by_cases hp:p <;> by_cases hq:q <;> simp [hp,hq]
theorem db1 {N6:List Blob→Int→Int→Int→Option (List Blob)} {A ac5 ad1 ac4 ad2 B:List Blob} {a m b s mid:Nat} (ha:a=A.length) (hs:s=A.length+ac5.length) (hmid:mid=A.length+ac5.length+ad1.length) (hm:m=A.length+ac5.length+ac4.length)
    (hb:b=A.length+ac5.length+ad1.length+ac4.length+ad2.length) (hmb:mid=(a+b) / 2) (hN:b≤W0)
    (r1:ac5≠[]→ad1≠[]→N6 (A++(ac5++(ad1++(ac4++(ad2++B))))) (a:Int) (s:Int) (mid:Int)=some (A++(K1 C3 ac5 ad1++(ac4++(ad2++B)))))
    (r2:ac4≠[]→ad2≠[]→N6 (A++(K1 C3 ac5 ad1++(ac4++(ad2++B)))) (mid:Int) ((mid+ac4.length:Nat):Int) (b:Int)=some (A++(K1 C3 ac5 ad1++(K1 C3 ac4 ad2++B)))) :
    s6.bj6 N6 (a:Int) (m:Int) (b:Int) (s:Int) (A++(ac5++(ad1++(ac4++(ad2++B)))))=some (A++(K1 C3 ac5 ad1++(K1 C3 ac4 ad2++B))):=by
  have hN':b≤1152921504606846976:=hN
  have wm:c5 (F8 .u64 (IntKind.wrap .u64 (c5 ((a:Int)+(b:Int)))) 1)=(mid:Int):=by rw [aX3 (by omega) (by omega),hmb]
  have we:c5 ((c5 ((mid:Int)+(m:Int))) - (s:Int))=((mid+ac4.length:Nat):Int):=by rw [B7 (n:=(mid:Int)+(m:Int)) (by omega) (by omega),B7 (by omega) (by omega)]; omega
  have j10:s6.j10 N6 (a:Int) (m:Int) (b:Int) (s:Int) (A++(K1 C3 ac5 ad1++(ac4++(ad2++B))))=some (A++(K1 C3 ac5 ad1++(K1 C3 ac4 ad2++B))):=by
    unfold s6.j10
    rw [wm,we,bV6]
    simp only [Option.bind_some]
    by_cases hL:ac4=[]
    · subst hL
      rw [decide_eq_false (by simp),ag8]
      rfl
    · by_cases hR:ad2=[]
      · subst hR
        simp only [List.length_nil] at hb
        rw [decide_eq_false (by omega),az3]
        rfl
      · have:=List.length_pos_iff.2 hL
        have:=List.length_pos_iff.2 hR
        rw [decide_eq_true (by omega)]
        simp only [cond_true,r2 hL hR,Option.bind_some]
        rfl
  unfold s6.bj6
  rw [wm,bV6]
  simp only [Option.bind_some]
  by_cases hL:ac5=[]
  · subst hL
    simp only [List.length_nil] at hs
    rw [decide_eq_false (by omega)]
    simp only [cond_false,List.nil_append]
    rw [ag8] at j10 ⊢
    exact j10
  · by_cases hR:ad1=[]
    · subst hR
      simp only [List.length_nil] at hmid
      rw [decide_eq_false (by omega)]
      simp only [cond_false,List.nil_append]
      rw [az3] at j10 ⊢
      exact j10
    · have:=List.length_pos_iff.2 hL
      have:=List.length_pos_iff.2 hR
      rw [decide_eq_true (by omega)]
      simp only [cond_true,r1 hL hR,Option.bind_some]
      exact j10
theorem sm:∀ (s k:Nat) (A L R B:List Blob),L.length+R.length≤s→s<k→L≠[]→R≠[]→Srt C3 L→Srt C3 R→(A++(L++(R++B))).length≤W0 →
    s6.fk k (A++(L++(R++B))) (A.length:Int) ((A.length+L.length:Nat):Int) ((A.length+L.length+R.length:Nat):Int)=some (A++(K1 C3 L R++B))
  | 0,k,A,L,R,B,h1,h2,h3,_,_,_,_=>by have:=List.length_pos_iff.2 h3; omega
  | s+1,k,A,L,R,B,h1,h2,h3,h4,h5,h6,hN=>by
    obtain ⟨k,rfl⟩:∃ m,k=m+1:=⟨k - 1,by omega⟩
    have hN':(A++(L++(R++B))).length≤1152921504606846976:=hN
    simp only [List.length_append] at hN'
    have hl:=List.length_pos_iff.2 h3
    have hr:=List.length_pos_iff.2 h4
    have w1:c5 (((A.length+L.length:Nat):Int) - (A.length:Int))=(L.length:Int):=by rw [B7 (by omega) (by omega)]; omega
    have w2:c5 (((A.length+L.length+R.length:Nat):Int) - ((A.length+L.length:Nat):Int))=(R.length:Int):=by rw [B7 (by omega) (by omega)]; omega
    rw [s6.fk]
    unfold s6.g
    rw [w1,w2]
    by_cases hL1:L.length=1
    · obtain ⟨x,rfl⟩:∃ x,L=[x]:=List.length_eq_one_iff.1 hL1
      rw [ct3 (by simp)]
      exact da9 h6 hN
    · rw [ct4 (beq_eq_false_iff_ne.2 (by omega))]
      by_cases hR1:R.length=1
      · obtain ⟨y,rfl⟩:∃ y,R=[y]:=List.length_eq_one_iff.1 hR1
        rw [ct3 (by simp)]
        exact db0 h5 hN
      · rw [ct4 (beq_eq_false_iff_ne.2 (by omega))]
        obtain ⟨a,ha⟩:∃ a,a=A.length:=⟨_,rfl⟩
        obtain ⟨m,hm⟩:∃ m,m=A.length+L.length:=⟨_,rfl⟩
        obtain ⟨b,hb⟩:∃ b,b=A.length+L.length+R.length:=⟨_,rfl⟩
        obtain ⟨mid,hmid⟩:∃ mid,mid=(a+b) / 2:=⟨_,rfl⟩
        rw [← hb,← hm,← ha]
        have wm:c5 (F8 .u64 (IntKind.wrap .u64 (c5 ((a:Int)+(b:Int)))) 1)=(mid:Int):=by rw [aX3 (by omega) (by omega),hmid]
        -- the search, from lo up to lo + n
        have search:∀ (lo n:Nat),a≤lo→lo+n≤m→lo+n≤mid→mid+m≤lo+b→((lo=a∧lo+n=m)∨(lo+b=mid+m∧lo+n=mid)) →
            s6.bj7 (s6.fk k) (A++(L++(R++B))) (a:Int) (m:Int) (b:Int) (lo:Int) ((lo+n:Nat):Int)=some (A++(K1 C3 L R++B)):=by
          intro lo n q1 ae2 aT0 aX6 q5
          have aE4:∀ c,lo≤c→c<lo+n→c - a<L.length:=fun c c1 c2=>by omega
          have aE5:∀ c,lo≤c→c<lo+n→mid - 1 - c<R.length:=fun c c1 c2=>by omega
          obtain ⟨p,p1,p2,p3,aB7⟩:=bG9 (fun c=>match L[c - a]?,R[mid - 1 - c]? with | some x,some y=>!C3 y x | _,_=>false) lo n (fun i j i0 hij hj h=>by
            have a1:=aE4 i i0 (by omega)
            have a2:=aE5 i i0 (by omega)
            have a3:=aE4 j (by omega) hj
            have a4:=aE5 j (by omega) hj
            rw [List.getElem?_eq_getElem a3,List.getElem?_eq_getElem a4] at h
            rw [List.getElem?_eq_getElem a1,List.getElem?_eq_getElem a2]
            simp only [Bool.not_eq_true'] at h ⊢
            have g1:=aS6 h5 a3 (show i - a≤j - a by omega)
            have g2:=aS6 h6 a2 (show mid - 1 - j≤mid - 1 - i by omega)
            exact ac2.neg _ _ _ (ac2.neg _ _ _ g2 h) g1)
          have ct5:∀ c,∀ (c1:lo≤c) (c2:c<lo+n),o7 (A++(L++(R++B))) (c:Int)=some (L[c - a]'(aE4 c c1 c2)):=by
            intro c c1 c2
            have a1:=aE4 c c1 c2
            rw [Z6 (by simp only [List.length_append]; omega)]
            congr 1
            rw [List.getElem_append_right (by omega),List.getElem_append_left (by omega)]
            congr 1
            omega
          have ct6:∀ c,∀ (c1:lo≤c) (c2:c<lo+n),o7 (A++(L++(R++B))) ((mid+m - 1 - c:Nat):Int)=some (R[mid - 1 - c]'(aE5 c c1 c2)):=by
            intro c c1 c2
            have a1:=aE5 c c1 c2
            rw [Z6 (by simp only [List.length_append]; omega)]
            congr 1
            rw [List.getElem_append_right (by omega),List.getElem_append_right (by omega),List.getElem_append_left (by omega)]
            congr 1
            omega
          unfold s6.bj7
          rw [bsN (L:=fun k' i j=>s6.l12 (s6.am7 (s6.fk k)) k' (A++(L++(R++B))) (a:Int) (m:Int) (b:Int) i j) (E:=fun i=>s6.am7 (s6.fk k) (A++(L++(R++B))) (a:Int) (m:Int) (b:Int) i) (p:=p) p1 p2 ?_ ?_ ?_ (by unfold n8; omega)]
          · -- behind the search
            obtain ⟨ac5,hL1⟩:∃ ac5,ac5=L.take (p - a):=⟨_,rfl⟩
            obtain ⟨ac4,hL2⟩:∃ ac4,ac4=L.drop (p - a):=⟨_,rfl⟩
            obtain ⟨ad1,hR1⟩:∃ ad1,ad1=R.take (mid - p):=⟨_,rfl⟩
            obtain ⟨ad2,hR2⟩:∃ ad2,ad2=R.drop (mid - p):=⟨_,rfl⟩
            have eL:L=ac5++ac4:=by rw [hL1,hL2,List.take_append_drop]
            have eR:R=ad1++ad2:=by rw [hR1,hR2,List.take_append_drop]
            have lL1:ac5.length=p - a:=by rw [hL1,List.length_take]; omega
            have lR1:ad1.length=mid - p:=by rw [hR1,List.length_take]; omega
            have lL2:ac4.length=m - p:=by rw [hL2,List.length_drop]; omega
            have lR2:ad2.length=b - (mid+m - p):=by rw [hR2,List.length_drop]; omega
            have c1:∀ x∈ac4,∀ y∈ad1,C3 y x=true:=by
              intro x hx y hy
              rw [hL2] at hx
              rw [hR1] at hy
              obtain ⟨i,hi,hi2,rfl⟩:=br0 hx
              obtain ⟨j,hj,hj2,rfl⟩:=bq9 hy
              have hp:p<lo+n:=by omega
              have:=aB7 p (Nat.le_refl _) hp
              rw [List.getElem?_eq_getElem (aE4 p p1 hp),List.getElem?_eq_getElem (aE5 p p1 hp)] at this
              simp only [Bool.not_eq_false'] at this
              have g1:=aS6 h5 hi (show p - a≤i by omega)
              have g2:=aS6 h6 (aE5 p p1 hp) (show j≤mid - 1 - p by omega)
              exact ac2.cs1 (ac2.cs2 g2 this) g1
            have c2:∀ x∈ac5,∀ y∈ad2,C3 y x=false:=by
              intro x hx y hy
              rw [hL1] at hx
              rw [hR2] at hy
              obtain ⟨i,hi,hi2,rfl⟩:=bq9 hx
              obtain ⟨j,hj,hj2,rfl⟩:=br0 hy
              have hp:lo≤p - 1∧p - 1<p:=by omega
              have:=p3 (p - 1) hp.1 hp.2
              rw [List.getElem?_eq_getElem (aE4 (p - 1) hp.1 (by omega)),List.getElem?_eq_getElem (aE5 (p - 1) hp.1 (by omega))] at this
              simp only [Bool.not_eq_true'] at this
              have g1:=aS6 h5 (aE4 (p - 1) hp.1 (by omega)) (show i≤p - 1 - a by omega)
              have g2:=aS6 h6 hj (show mid - 1 - (p - 1)≤j by omega)
              exact ac2.neg _ _ _ g2 (ac2.neg _ _ _ this g1)
            have s1:=List.pairwise_append.1 (eL ▸ h5)
            have s2:=List.pairwise_append.1 (eR ▸ h6)
            have hmg:=br8 c1 c2
            rw [← eL,← eR] at hmg
            rw [hmg,List.append_assoc]
            have eN:(A++(ac5++(ad1++(ac4++(ad2++B))))).length≤W0:=by
              simp only [List.length_append]
              unfold W0
              omega
            have cu0:=al1 (lt:=C3) ac5 ad1
            have fin:=db1 (N6:=s6.fk k) (A:=A) (ac5:=ac5) (ad1:=ad1) (ac4:=ac4) (ad2:=ad2) (B:=B) (a:=a) (m:=m) (b:=b) (s:=p) (mid:=mid) ha (by omega) (by omega) (by omega) (by omega) hmid (by unfold W0; omega)
              (fun g1 g2=>by
                have:=sm s k A ac5 ad1 (ac4++(ad2++B)) (by omega) (by omega) g1 g2 s1.1 s2.1 eN
                rw [← ha,show a+ac5.length=p by omega,show p+ad1.length=mid by omega] at this
                exact this)
              (fun g1 g2=>by
                have:=sm s k (A++K1 C3 ac5 ad1) ac4 ad2 B (by omega) (by omega) g1 g2 s1.2.1 s2.2.1 (by simp only [List.length_append,cu0]; unfold W0; omega)
                rw [List.length_append,cu0,show A.length+(ac5.length+ad1.length)=mid by omega,show mid+ac4.length+ad2.length=b by omega] at this
                simp only [List.append_assoc] at this
                exact this)
            unfold s6.am7
            have we:c5 ((c5 ((mid:Int)+(m:Int))) - (p:Int))=((mid+m - p:Nat):Int):=by rw [B7 (n:=(mid:Int)+(m:Int)) (by omega) (by omega),B7 (by omega) (by omega)]; omega
            rw [wm,we,bV6]
            simp only [Option.bind_some]
            have e0:A++(L++(R++B))=(A++ac5)++(ac4++(ad1++(ad2++B))):=by rw [eL,eR]; simp
            have e1:A++(ac5++(ad1++(ac4++(ad2++B))))=(A++ac5)++(ad1++(ac4++(ad2++B))):=by simp
            by_cases hc:p<m∧m<mid+m - p
            · rw [decide_eq_true (by omega)]
              have cu1:=da7 (A:=A++ac5) (X:=ac4) (Y:=ad1) (B:=ad2++B) (by intro h; rw [h] at lL2; simp at lL2; omega) (by intro h; rw [h] at lR1; simp at lR1; omega) (by rw [← e0]; exact hN)
              rw [List.length_append,show A.length+ac5.length=p by omega,show p+ac4.length=m by omega,show m+ad1.length=mid+m - p by omega] at cu1
              simp only [cond_true]
              rw [e0,cu1]
              simp only [Option.bind_some]
              rw [← e1]
              exact fin
            · rw [decide_eq_false (by omega)]
              simp only [cond_false]
              have:A++(L++(R++B))=A++(ac5++(ad1++(ac4++(ad2++B)))):=by
                rw [e0,e1]
                congr 1
                rcases (by omega:m - p=0∨mid - p=0) with h | h
                · rw [List.length_eq_zero_iff.1 (by omega:ac4.length=0)]
                  simp
                · rw [List.length_eq_zero_iff.1 (by omega:ad1.length=0)]
                  simp
              rw [this]
              exact fin
          · intro k' i j i0 hij hj hp
            have b1:lo≤(i+j) / 2:=by omega
            have b2:(i+j) / 2<lo+n:=by omega
            obtain ⟨c,hc1,N9⟩:=bc8 (R[mid - 1 - (i+j) / 2]'(aE5 _ b1 b2)) (L[(i+j) / 2 - a]'(aE4 _ b1 b2))
            have hlt:C3 (R[mid - 1 - (i+j) / 2]'(aE5 _ b1 b2)) (L[(i+j) / 2 - a]'(aE4 _ b1 b2))=false:=by
              have:=p3 _ b1 hp
              rw [List.getElem?_eq_getElem (aE4 _ b1 b2),List.getElem?_eq_getElem (aE5 _ b1 b2)] at this
              simpa using this
            have wi:c5 ((c5 ((c5 ((mid:Int)+(m:Int))) - 1)) - (((i+j) / 2:Nat):Int))=((mid+m - 1 - (i+j) / 2:Nat):Int):=by
              rw [B7 (n:=(mid:Int)+(m:Int)) (by omega) (by omega),B7 (n:=(mid:Int)+(m:Int) - 1) (by omega) (by omega),B7 (by omega) (by omega)]
              omega
            simp only [s6.l12]
            rw [decide_eq_true (by omega),wm,aX3 (by omega) (by omega),wi,ct6 _ b1 b2,ct5 _ b1 b2]
            simp only [cond_true,Option.bind_some,hc1,N9,hlt,Bool.not_false]
            rw [show c5 ((((i+j) / 2:Nat):Int)+1)=(((i+j) / 2+1:Nat):Int) by rw [B7 (by omega) (by omega)]; omega]
          · intro k' i j i0 hij hj hp
            have b1:lo≤(i+j) / 2:=by omega
            have b2:(i+j) / 2<lo+n:=by omega
            obtain ⟨c,hc1,N9⟩:=bc8 (R[mid - 1 - (i+j) / 2]'(aE5 _ b1 b2)) (L[(i+j) / 2 - a]'(aE4 _ b1 b2))
            have hlt:C3 (R[mid - 1 - (i+j) / 2]'(aE5 _ b1 b2)) (L[(i+j) / 2 - a]'(aE4 _ b1 b2))=true:=by
              have:=aB7 _ hp b2
              rw [List.getElem?_eq_getElem (aE4 _ b1 b2),List.getElem?_eq_getElem (aE5 _ b1 b2)] at this
              simpa using this
            have wi:c5 ((c5 ((c5 ((mid:Int)+(m:Int))) - 1)) - (((i+j) / 2:Nat):Int))=((mid+m - 1 - (i+j) / 2:Nat):Int):=by
              rw [B7 (n:=(mid:Int)+(m:Int)) (by omega) (by omega),B7 (n:=(mid:Int)+(m:Int) - 1) (by omega) (by omega),B7 (by omega) (by omega)]
              omega
            simp only [s6.l12]
            rw [decide_eq_true (by omega),wm,aX3 (by omega) (by omega),wi,ct6 _ b1 b2,ct5 _ b1 b2]
            simp only [cond_true,Option.bind_some,hc1,N9,hlt,Bool.not_true,cond_false]
          · intro k' i
            simp only [s6.l12]
            rw [decide_eq_false (by omega)]
            rfl
        rw [wm]
        by_cases hc:mid<m
        · rw [decide_eq_true (by omega)]
          simp only [cond_true]
          have wl:c5 ((c5 ((mid:Int)+(m:Int))) - (b:Int))=((mid+m - b:Nat):Int):=by rw [B7 (n:=(mid:Int)+(m:Int)) (by omega) (by omega),B7 (by omega) (by omega)]; omega
          rw [wl]
          have:=search (mid+m - b) (b - m) (by omega) (by omega) (by omega) (by omega) (by omega)
          rw [show mid+m - b+(b - m)=mid by omega] at this
          exact this
        · rw [decide_eq_false (by omega)]
          simp only [cond_false]
          have:=search a L.length (by omega) (by omega) (by omega) (by omega) (by omega)
          rw [show a+L.length=m by omega] at this
          exact this
end Go.Proofs.YtiecpfnjmlidbaaGreatDoor

namespace Go.Proofs.YtiecpfnjmlidbaaGreatDoor
open Go Go.Proofs.YtiecpfnjmlidbaaGreatDoor.Kit
inductive Chk (bs:Nat):List Blob→List Blob→Prop
  | last (l:List Blob) (h:l.length≤bs):Chk bs l (ad5 C3 l)
  | step (l1 l2 d2:List Blob) (h:l1.length=bs) (k:Chk bs l2 d2):Chk bs (l1++l2) (ad5 C3 l1++d2)
theorem Chk.len {bs:Nat} {l d:List Blob} (h:Chk bs l d):d.length=l.length:=by
  induction h with
  | last l h=>exact aH5 ac2 l
  | step l1 l2 d2 h k ih=>rw [List.length_append,List.length_append,aH5 ac2,ih]
theorem Chk.small {bs:Nat} {l d:List Blob} (h:Chk bs l d) (hl:l.length≤bs):d=ad5 C3 l:=by
  cases h with
  | last l h=>rfl
  | step l1 l2 d2 h k =>
    rw [List.length_append] at hl
    have h0:l2=[]:=List.length_eq_zero_iff.1 (by omega)
    subst h0
    have:=k.len
    have h1:d2=[]:=List.length_eq_zero_iff.1 (by rw [this]; rfl)
    subst h1
    simp
theorem Chk.parts {bs:Nat} {l d:List Blob} (h:Chk bs l d) (hl:bs<l.length):∃ l1 l2 d2,l=l1++l2∧d=ad5 C3 l1++d2∧l1.length=bs∧Chk bs l2 d2:=by
  cases h with
  | last l h=>omega
  | step l1 l2 d2 h k=>exact ⟨l1,l2,d2,rfl,rfl,h,k⟩
theorem db3 (l1 l2:List Blob):K1 C3 (ad5 C3 l1) (ad5 C3 l2)=ad5 C3 (l1++l2):=(bq7 ac2 l1 l2).symm
theorem cu2 {A l1 l2 B:List Blob} {a m b:Int} (ha:a=(A.length:Int)) (hm:m=((A.length+l1.length:Nat):Int)) (hb:b=((A.length+l1.length+l2.length:Nat):Int)) (h1:l1≠[]) (h2:l2≠[]) (hN:A.length+l1.length+l2.length+B.length≤W0) :
    s6.f (A++(ad5 C3 l1++(ad5 C3 l2++B))) a m b=some (A++(ad5 C3 (l1++l2)++B)):=by
  have hl1:=aH5 ac2 l1
  have hl2:=aH5 ac2 l2
  unfold W0 at hN
  have p1:=List.length_pos_iff.2 h1
  have p2:=List.length_pos_iff.2 h2
  have:=sm (l1.length+l2.length) n8 A (ad5 C3 l1) (ad5 C3 l2) B (by omega) (by unfold n8; omega) (by intro h; rw [h] at hl1; simp at hl1; omega) (by intro h; rw [h] at hl2; simp at hl2; omega) (br1 ac2 l1) (br1 ac2 l2) (by simp only [List.length_append,hl1,hl2]; unfold W0; omega)
  rw [hl1,hl2,db3,← ha,← hm,← hb] at this
  exact this
theorem cu3 {n:Int}:∀ (f k:Nat) (A l:List Blob),l.length≤f→f<k→A.length+l.length≤W0→n=((A.length+l.length:Nat):Int) →
    ∃ d,Chk 20 l d∧I4.l6 I4.e1 k n (A++l) (A.length:Int) ((A.length+20:Nat):Int)=I4.l2 n8 n (A++d) 20
  | f,k,A,l,h1,h2,hN,hn=>by
    obtain ⟨k,rfl⟩:∃ m,k=m+1:=⟨k - 1,by omega⟩
    have hN':A.length+l.length≤1152921504606846976:=hN
    rw [I4.l6]
    by_cases hb:20≤l.length
    · rw [decide_eq_true (by omega)]
      simp only [cond_true]
      have e0:l=l.take 20++l.drop 20:=(List.take_append_drop 20 l).symm
      have ht:(l.take 20).length=20:=by rw [List.length_take]; omega
      have hd:(l.drop 20).length=l.length - 20:=by rw [List.length_drop]
      have hi:=ao6 (A:=A) (X:=l.take 20) (B:=l.drop 20) (by rw [ht]; unfold W0; omega)
      rw [← e0,ht] at hi
      rw [hi]
      simp only [Option.bind_some]
      have w1:c5 (((A.length+20:Nat):Int)+20)=((A.length+20+20:Nat):Int):=by rw [B7 (by omega) (by omega)]; omega
      rw [w1]
      have hs:=aH5 ac2 (l.take 20)
      obtain ⟨f',rfl⟩:∃ f',f=f'+1:=⟨f - 1,by omega⟩
      obtain ⟨d,d1,d2⟩:=cu3 (n:=n) f' k (A++ad5 C3 (l.take 20)) (l.drop 20) (by omega) (by omega) (by rw [List.length_append,hs,ht,hd]; unfold W0; omega) (by rw [List.length_append,hs,ht,hd,hn]; omega)
      rw [List.length_append,hs,ht,List.append_assoc] at d2
      refine ⟨ad5 C3 (l.take 20)++d,?_,by rw [d2,List.append_assoc]⟩
      have:=Chk.step (l.take 20) (l.drop 20) d ht d1
      rwa [← e0] at this
    · rw [decide_eq_false (by omega)]
      simp only [cond_false]
      unfold I4.e1
      have hi:=ao6 (A:=A) (X:=l) (B:=[]) hN
      rw [List.append_nil,List.append_nil] at hi
      rw [hn,hi]
      exact ⟨ad5 C3 l,.last l (by omega),rfl⟩
theorem cu4 {ap0:Int→List Blob→Int→Option (List Blob)} {n:Int} {bs:Nat} (hbs:0<bs) (cu5:bs≤W0):∀ (f k:Nat) (A l d:List Blob),l.length≤f→f<k→A.length+l.length≤W0→n=((A.length+l.length:Nat):Int)→Chk bs l d →
    ∃ d',Chk (bs*2) l d'∧I4.l5 (I4.S7 ap0) k n bs (A++d) (A.length:Int) ((A.length+2*bs:Nat):Int)=I4.ap0 ap0 n bs (A++d')
  | f,k,A,l,d,h1,h2,hN,hn,hc=>by
    obtain ⟨k,rfl⟩:∃ m,k=m+1:=⟨k - 1,by omega⟩
    have hN':A.length+l.length≤1152921504606846976:=hN
    have dw6:bs≤1152921504606846976:=cu5
    rw [I4.l5]
    have w1:c5 ((A.length:Int)+(bs:Int))=((A.length+bs:Nat):Int):=by rw [B7 (by omega) (by omega)]; omega
    by_cases hb:2*bs≤l.length
    · rw [decide_eq_true (by omega)]
      simp only [cond_true,w1]
      obtain ⟨l1,l2,d2,rfl,rfl,e1,c2⟩:=hc.parts (by omega)
      rw [List.length_append] at hb hN' h1 hN hn
      have hp:∃ l3 l4 d4,l2=l3++l4∧d2=ad5 C3 l3++d4∧l3.length=bs∧Chk bs l4 d4:=by
        by_cases hlt:bs<l2.length
        · exact c2.parts hlt
        · exact ⟨l2,[],[],by simp,by rw [c2.small (by omega)]; simp,by omega,by have:=Chk.last (bs:=bs) [] (by simp); simpa [ad5] using this⟩
      obtain ⟨l3,l4,d4,rfl,rfl,S7,y8⟩:=hp
      rw [List.length_append] at hb hN' h1 hN hn
      have hl4:=y8.len
      have hsm:=cu2 (A:=A) (l1:=l1) (l2:=l3) (B:=d4) (a:=(A.length:Int)) (m:=((A.length+bs:Nat):Int)) (b:=((A.length+2*bs:Nat):Int)) rfl (by rw [e1]) (by rw [e1,S7]; omega) (by intro h; rw [h] at e1; simp at e1; omega) (by intro h; rw [h] at S7; simp at S7; omega) (by rw [hl4]; unfold W0; omega)
      rw [hsm]
      simp only [Option.bind_some]
      have w2:c5 (2*(bs:Int))=((2*bs:Nat):Int):=by rw [B7 (by omega) (by omega)]; omega
      have w3:c5 (((A.length+2*bs:Nat):Int)+((2*bs:Nat):Int))=((A.length+2*bs+2*bs:Nat):Int):=by rw [B7 (by omega) (by omega)]; omega
      rw [w2,w3]
      have hs:=aH5 ac2 (l1++l3)
      rw [List.length_append,e1,S7] at hs
      obtain ⟨f',rfl⟩:∃ f',f=f'+1:=⟨f - 1,by omega⟩
      obtain ⟨d',g1,g2⟩:=cu4 (ap0:=ap0) (n:=n) hbs cu5 f' k (A++ad5 C3 (l1++l3)) l4 d4 (by omega) (by omega) (by rw [List.length_append,hs]; unfold W0; omega) (by rw [List.length_append,hs,hn]; omega) y8
      rw [List.length_append,hs,List.append_assoc,show A.length+(bs+bs)=A.length+2*bs by omega] at g2
      refine ⟨ad5 C3 (l1++l3)++d',?_,by rw [g2,List.append_assoc]⟩
      have:=Chk.step (bs:=bs*2) (l1++l3) l4 d' (by rw [List.length_append]; omega) g1
      rwa [List.append_assoc] at this
    · rw [decide_eq_false (by omega)]
      simp only [cond_false]
      unfold I4.S7
      rw [w1]
      by_cases hm:bs<l.length
      · rw [decide_eq_true (by omega)]
        simp only [cond_true]
        obtain ⟨l1,l2,d2,rfl,rfl,e1,c2⟩:=hc.parts hm
        rw [List.length_append] at hb hN' h1 hN hn hm
        have hd2:=c2.small (by omega)
        subst hd2
        have hsm:=cu2 (A:=A) (l1:=l1) (l2:=l2) (B:=[]) (a:=(A.length:Int)) (m:=((A.length+bs:Nat):Int)) (b:=n) rfl (by rw [e1]) (by rw [hn]; omega) (by intro h; rw [h] at e1; simp at e1; omega) (by intro h; rw [h] at hm; simp at hm; omega) (by simp; unfold W0; omega)
        rw [List.append_nil,List.append_nil] at hsm
        rw [hsm]
        exact ⟨ad5 C3 (l1++l2),.last _ (by rw [List.length_append]; omega),rfl⟩
      · rw [decide_eq_false (by omega)]
        simp only [cond_false]
        have hd:=hc.small (by omega)
        subst hd
        exact ⟨ad5 C3 l,.last _ (by omega),rfl⟩
theorem passes {n:Int}:∀ (f k:Nat) (l d:List Blob) (bs:Nat),l.length - bs≤f→f<k→0<bs→bs≤2*l.length+40→l.length≤288230376151711744→n=(l.length:Int)→Chk bs l d→I4.l2 k n d bs=some (ad5 C3 l)
  | f,k,l,d,bs,h1,h2,hbs,s3,hN,hn,hc=>by
    obtain ⟨k,rfl⟩:∃ m,k=m+1:=⟨k - 1,by omega⟩
    rw [I4.l2]
    by_cases hb:bs<l.length
    · rw [decide_eq_true (by omega)]
      simp only [cond_true]
      have w1:c5 (2*(bs:Int))=((2*bs:Nat):Int):=by rw [B7 (by omega) (by omega)]; omega
      rw [w1]
      obtain ⟨d',g1,g2⟩:=cu4 (ap0:=I4.l2 k) (n:=n) hbs (by unfold W0; omega) l.length n8 [] l d (Nat.le_refl _) (by unfold n8; omega) (by simp; unfold W0; omega) (by rw [hn]; simp) hc
      simp only [List.nil_append,List.length_nil,Nat.zero_add] at g2
      rw [show ((0:Nat):Int)=0 from rfl] at g2
      rw [g2]
      unfold I4.ap0
      have w2:c5 ((bs:Int)*2)=((bs*2:Nat):Int):=by rw [B7 (by omega) (by omega)]; omega
      rw [w2]
      obtain ⟨f',rfl⟩:∃ f',f=f'+1:=⟨f - 1,by omega⟩
      exact passes f' k l d' (bs*2) (by omega) (by omega) (by omega) (by omega) hN hn g1
    · rw [decide_eq_false (by omega)]
      simp only [cond_false]
      rw [hc.small (by omega)]
theorem cW0 {l:List Blob} (h:l.length≤288230376151711744):bs1.f l=some (ad5 C3 l):=by
  unfold bs1.f I4.f
  obtain ⟨d,d1,d2⟩:=cu3 (n:=(l.length:Int)) l.length n8 [] l (Nat.le_refl _) (by unfold n8; omega) (by simp; unfold W0; omega) (by simp)
  simp only [List.nil_append,List.length_nil,Nat.zero_add] at d2
  have e0:I4.l6 I4.e1 n8 (l.length:Int) l 0 20=I4.l2 n8 (l.length:Int) d 20:=d2
  rw [e0]
  have:=passes (n:=(l.length:Int)) l.length n8 l d 20 (by omega) (by unfold n8; omega) (by omega) (by omega) h rfl d1
  rw [show ((20:Nat):Int)=20 from rfl] at this
  rw [this]
  rfl
end Go.Proofs.YtiecpfnjmlidbaaGreatDoor
