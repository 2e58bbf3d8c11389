/- Loops among works: who needs himself, and what is left when all that is free has been taken away. -/
import Derived.Test.YteljhhgffmpgnaaDoorPW9
set_option linter.unusedVariables false
set_option linter.unusedSimpArgs false
namespace Go.Proofs.YteljhhgffmpgnaaDoor
open Go Go.Proofs.YteljhhgffmpgnaaDoor.Kit
inductive Pth (g:Nat→List Nat):Nat→Nat→Prop
  | one {i k:Nat}:k∈g i→Pth g i k
  | cons {i j k:Nat}:j∈g i→Pth g j k→Pth g i k
theorem Pth.trans {g:Nat→List Nat} {i j k:Nat} (h:Pth g i j) (h':Pth g j k):Pth g i k:=by
  induction h with
  | one h=>exact .cons h h'
  | cons h _ ih=>exact .cons h (ih h')
theorem pth_acc {g:Nat→List Nat} {i:Nat} (h:Acc (fun k i=>k∈g i) i):¬ Pth g i i:=by
  induction h with
  | intro i _ ih =>
    intro hp
    cases hp with
    | one h=>exact ih i h (.one h)
    | cons h hp=>exact ih _ h (hp.trans (.one h))
theorem nodup_lt:∀ (n:Nat) (p:List Nat),p.Nodup→(∀ x∈p,x<n)→p.length≤n
  | 0,p,_,h=>by
    cases p with
    | nil=>exact Nat.le_refl _
    | cons x p=>exact absurd (h x (by simp)) (by omega)
  | n+1,p,hn,h=>by
    have h1:=nodup_lt n (p.erase n) (hn.erase n) (fun x hx=>by
      have h2:=h x (List.mem_of_mem_erase hx)
      have h3:x≠n:=(hn.mem_erase_iff.1 hx).1
      omega)
    rw [List.length_erase] at h1
    split at h1 <;> omega
theorem loop_of {g:Nat→List Nat} {n:Nat} {U:Nat→Prop} (hU:∀ i,U i→i<n) (hs:∀ i,U i→∃ k∈g i,U k) {i:Nat} (hi:U i):∃ j,U j∧Pth g j j:=by
  apply Classical.byContradiction
  intro hno
  have grow:∀ m,∃ (h:Nat) (p:List Nat),p.length=m+1∧p.Nodup∧(∀ x∈p,U x)∧U h∧∀ x∈p,x=h∨Pth g x h:=by
    intro m
    induction m with
    | zero=>exact ⟨i,[i],rfl,by simp,by simpa using hi,hi,by simp⟩
    | succ m ih =>
      obtain ⟨h,p,p1,p2,p3,p4,p5⟩:=ih
      obtain ⟨k,k1,k2⟩:=hs h p4
      refine ⟨k,k::p,by simp [p1],?_,?_,k2,?_⟩
      · rw [List.nodup_cons]
        refine ⟨fun hk=>?_,p2⟩
        rcases p5 k hk with rfl | hq
        · exact hno ⟨k,k2,.one k1⟩
        · exact hno ⟨k,k2,hq.trans (.one k1)⟩
      · intro x hx
        rcases List.mem_cons.1 hx with rfl | hx
        · exact k2
        · exact p3 x hx
      · intro x hx
        rcases List.mem_cons.1 hx with rfl | hx
        · exact .inl rfl
        · rcases p5 x hx with rfl | hq
          · exact .inr (.one k1)
          · exact .inr (hq.trans (.one k1))
  obtain ⟨h,p,p1,p2,p3,_⟩:=grow n
  have:=nodup_lt n p p2 (fun x hx=>hU x (p3 x hx))
  omega
/-! taking away what is free -/
def blk (g:Nat→List Nat) (d:List Bool) (i:Nat):Bool:=d.getD i false||(g i).any (fun k=>!d.getD k false)
def stS (g:Nat→List Nat) (s:List Bool × Nat × Bool) (i:Nat):List Bool × Nat × Bool:=bif blk g s.1 i then s else (s.1.set i true,s.2.1+1,true)
def paS (g:Nat→List Nat) (is:List Nat) (s:List Bool × Nat × Bool):List Bool × Nat × Bool:=is.foldl (stS g) s
theorem count_set1:∀ (d:List Bool) (i:Nat),i<d.length→d.getD i false=false→(d.set i true).count true=d.count true+1
  | [],i,h,_=>by simp at h
  | x::d,0,h,hx=>by
    have hx:x=false:=hx
    subst hx
    simp
  | x::d,i+1,h,hx=>by
    have h2:=count_set1 d i (by simpa using h) hx
    simp only [List.set_cons_succ,List.count_cons]
    omega
structure InvO (g:Nat→List Nat) (n:Nat) (s:List Bool × Nat × Bool):Prop where
  len:s.1.length=n
  cnt:s.2.1=s.1.count true
  acc:∀ i,s.1.getD i false=true→Acc (fun k i=>k∈g i) i
theorem getD_set1 (d:List Bool) (i j:Nat) (hi:i<d.length):(d.set i true).getD j false=(decide (i=j)||d.getD j false):=by
  simp only [List.getD_eq_getElem?_getD,List.getElem?_set]
  by_cases h:i=j
  · subst h
    simp [hi]
  · simp [h]
theorem st_inv {g:Nat→List Nat} {n:Nat} {s:List Bool × Nat × Bool} (h:InvO g n s) {i:Nat} (hi:i<n):InvO g n (stS g s i):=by
  unfold stS
  cases hb:blk g s.1 i
  · unfold blk at hb
    rw [Bool.or_eq_false_iff] at hb
    obtain ⟨h1,h2⟩:=hb
    have hl:i<s.1.length:=by rw [h.len]; exact hi
    refine ⟨by simp [h.len],?_,fun j hj=>?_⟩
    · show s.2.1+1=(s.1.set i true).count true
      rw [count_set1 _ _ hl h1,h.cnt]
    · have hj:(s.1.set i true).getD j false=true:=hj
      rw [getD_set1 _ _ _ hl,Bool.or_eq_true] at hj
      rcases hj with hj | hj
      · have hj:=of_decide_eq_true hj
        subst hj
        refine Acc.intro _ (fun k hk=>h.acc k ?_)
        have:=List.any_eq_false.1 h2 k hk
        simpa using this
      · exact h.acc j hj
  · exact h
theorem pa_inv {g:Nat→List Nat} {n:Nat}:∀ (is:List Nat) {s:List Bool × Nat × Bool},InvO g n s→(∀ i∈is,i<n)→InvO g n (paS g is s)
  | [],_,h,_=>h
  | i::is,_,h,hi=>pa_inv is (st_inv h (hi i (by simp))) (fun j hj=>hi j (by simp [hj]))
theorem pa_le {g:Nat→List Nat}:∀ (is:List Nat) (s:List Bool × Nat × Bool),s.2.1≤(paS g is s).2.1∧(s.2.2=true→(paS g is s).2.2=true)
  | [],s=>⟨Nat.le_refl _,fun h=>h⟩
  | i::is,s=>by
    have ih:=pa_le (g:=g) is (stS g s i)
    have h1:s.2.1≤(stS g s i).2.1∧(s.2.2=true→(stS g s i).2.2=true):=by
      unfold stS
      cases blk g s.1 i
      · exact ⟨Nat.le_succ _,fun _=>rfl⟩
      · exact ⟨Nat.le_refl _,fun h=>h⟩
    exact ⟨Nat.le_trans h1.1 ih.1,fun h=>ih.2 (h1.2 h)⟩
theorem pa_more {g:Nat→List Nat}:∀ (is:List Nat) (s:List Bool × Nat × Bool),s.2.2=false→((paS g is s).2.2=true∧s.2.1<(paS g is s).2.1)∨(paS g is s=s∧∀ i∈is,blk g s.1 i=true)
  | [],s,_=>.inr ⟨rfl,by simp⟩
  | i::is,s,h=>by
    show ((paS g is (stS g s i)).2.2=true∧_)∨_
    cases hb:blk g s.1 i
    · have he:stS g s i=(s.1.set i true,s.2.1+1,true):=by unfold stS; rw [hb]; rfl
      have h2:=pa_le (g:=g) is (stS g s i)
      refine .inl ⟨h2.2 (by rw [he]),?_⟩
      have:=h2.1
      rw [he] at this
      rw [show paS g (i::is) s=paS g is (stS g s i) from rfl,he]
      exact this
    · have he:stS g s i=s:=by unfold stS; rw [hb]; rfl
      rw [show paS g (i::is) s=paS g is (stS g s i) from rfl,he]
      rcases pa_more is s h with h3 | ⟨h3,h4⟩
      · exact .inl h3
      · refine .inr ⟨h3,fun j hj=>?_⟩
        rcases List.mem_cons.1 hj with rfl | hj
        · exact hb
        · exact h4 j hj
theorem count_le (d:List Bool):d.count true≤d.length:=List.count_le_length
theorem count_all {d:List Bool} (h:d.count true=d.length) {i:Nat} (hi:i<d.length):d.getD i false=true:=by
  have:=List.count_eq_length.1 h
  have h2:=this (d[i]) (List.getElem_mem hi)
  rw [List.getD_eq_getElem?_getD,List.getElem?_eq_getElem hi]
  exact h2.symm
theorem count_not {d:List Bool} (h:d.count true≠d.length):∃ i,i<d.length∧d.getD i false=false:=by
  apply Classical.byContradiction
  intro hno
  apply h
  rw [List.count_eq_length]
  intro b hb
  obtain ⟨i,hi,rfl⟩:=List.getElem_of_mem hb
  cases hx:d[i]
  · exact absurd ⟨i,hi,by rw [List.getD_eq_getElem?_getD,List.getElem?_eq_getElem hi,hx]; rfl⟩ hno
  · rfl
theorem ord_iff {g:Nat→List Nat} {n:Nat} (hg:∀ i,i<n→∀ k∈g i,k<n) {s:List Bool × Nat × Bool} (h:InvO g n s) (hc:∀ i,i<n→blk g s.1 i=true):s.2.1=n↔∀ i,i<n→¬ Pth g i i:=by
  rw [h.cnt]
  constructor
  · intro hn i hi
    exact pth_acc (h.acc i (count_all (by rw [hn,h.len]) (by rw [h.len]; exact hi)))
  · intro hno
    apply Classical.byContradiction
    intro hn
    obtain ⟨i,hi,hd⟩:=count_not (d:=s.1) (by rw [h.len]; exact hn)
    rw [h.len] at hi
    obtain ⟨j,⟨hj,_⟩,hp⟩:=loop_of (g:=g) (n:=n) (U:=fun i=>i<n∧s.1.getD i false=false) (fun i hi=>hi.1) (fun i hi=>by
      have hb:=hc i hi.1
      unfold blk at hb
      rw [hi.2,Bool.false_or] at hb
      obtain ⟨k,hk,hk2⟩:=List.any_eq_true.1 hb
      exact ⟨k,hk,hg i hi.1 k hk,by simpa using hk2⟩) ⟨hi,hd⟩
    exact hno j hj hp
/-! a search from i on -/
structure InvL (g:Nat→List Nat) (n i:Nat) (seen:List Bool) (next:List Nat) (now:List Nat) (old:Option Nat):Prop where
  len:seen.length=n
  lt:∀ k∈next,k<n
  path:∀ k∈next,k=i∨Pth g i k
  saw:∀ k,seen.getD k false=true→Pth g i k
  oldp:∀ k,old=some k→(k=i∨Pth g i k)∧∀ j∈now,j∈g k
  clo:∀ k,(k=i∨seen.getD k false=true)→k∈next∨(some k=old∧∀ j∈g k,j∈now∨(j≠i∧seen.getD j false=true))∨∀ j∈g k,j≠i∧seen.getD j false=true
theorem search_no {g:Nat→List Nat} {n i:Nat} {seen:List Bool} (h:InvL g n i seen [] [] none):¬ Pth g i i:=by
  have clo:∀ k,(k=i∨seen.getD k false=true)→∀ j∈g k,j≠i∧seen.getD j false=true:=by
    intro k hk j hj
    rcases h.clo k hk with h1 | ⟨h1,_⟩ | h1
    · cases h1
    · cases h1
    · exact h1 j hj
  have key:∀ a b,Pth g a b→(a=i∨seen.getD a false=true)→b≠i:=by
    intro a b hp
    induction hp with
    | one h1=>exact fun ha=>(clo _ ha _ h1).1
    | cons h1 _ ih=>exact fun ha=>ih (.inr (clo _ ha _ h1).2)
  exact fun hp=>key i i hp (.inl rfl) rfl
theorem search_start {g:Nat→List Nat} {n i:Nat} (hi:i<n):InvL g n i (List.replicate n false) [i] [] none:=by
  have hf:∀ k,(List.replicate n false).getD k false=false:=by
    intro k
    rw [List.getD_eq_getElem?_getD,List.getElem?_replicate]
    split <;> rfl
  refine ⟨by simp,by simpa using hi,by simp,(fun k hk=>by rw [hf] at hk; cases hk),(fun k hk=>by cases hk),fun k hk=>?_⟩
  rcases hk with rfl | hk
  · exact .inl (by simp)
  · rw [hf] at hk
    cases hk
theorem search_pop {g:Nat→List Nat} {n i k:Nat} {seen:List Bool} {next:List Nat} (h:InvL g n i seen (k::next) [] none):InvL g n i seen next (g k) (some k):=by
  refine ⟨h.len,fun x hx=>h.lt x (by simp [hx]),fun x hx=>h.path x (by simp [hx]),h.saw,fun x hx=>?_,fun x hx=>?_⟩
  · injection hx with hx
    subst hx
    exact ⟨h.path k (by simp),fun j hj=>hj⟩
  · rcases h.clo x hx with h1 | ⟨h1,_⟩ | h1
    · rcases List.mem_cons.1 h1 with rfl | h1
      · exact .inr (.inl ⟨rfl,fun j hj=>.inl hj⟩)
      · exact .inl h1
    · cases h1
    · exact .inr (.inr h1)
theorem search_hit {g:Nat→List Nat} {n i k:Nat} {seen:List Bool} {next now:List Nat} (h:InvL g n i seen next (i::now) (some k)):Pth g i i:=by
  obtain ⟨h1,h2⟩:=h.oldp k rfl
  have h3:=h2 i (by simp)
  rcases h1 with rfl | h1
  · exact .one h3
  · exact h1.trans (.one h3)
theorem search_seen {g:Nat→List Nat} {n i k j:Nat} {seen:List Bool} {next now:List Nat} (h:InvL g n i seen next (j::now) (some k)) (hj:j≠i) (hs:seen.getD j false=true):InvL g n i seen next now (some k):=by
  refine ⟨h.len,h.lt,h.path,h.saw,fun x hx=>⟨(h.oldp x hx).1,fun y hy=>(h.oldp x hx).2 y (by simp [hy])⟩,fun x hx=>?_⟩
  rcases h.clo x hx with h1 | ⟨h1,h2⟩ | h1
  · exact .inl h1
  · refine .inr (.inl ⟨h1,fun y hy=>?_⟩)
    rcases h2 y hy with h3 | h3
    · rcases List.mem_cons.1 h3 with rfl | h3
      · exact .inr ⟨hj,hs⟩
      · exact .inl h3
    · exact .inr h3
  · exact .inr (.inr h1)
theorem search_new {g:Nat→List Nat} {n i k j:Nat} {seen:List Bool} {next now:List Nat} (h:InvL g n i seen next (j::now) (some k)) (hj:j≠i) (hn:j<n):InvL g n i (seen.set j true) (next++[j]) now (some k):=by
  have hl:j<seen.length:=by rw [h.len]; exact hn
  obtain ⟨p1,p2⟩:=h.oldp k rfl
  have hp:Pth g i j:=by
    have h3:=p2 j (by simp)
    rcases p1 with rfl | p1
    · exact .one h3
    · exact p1.trans (.one h3)
  have up:∀ y,seen.getD y false=true→(seen.set j true).getD y false=true:=fun y hy=>by rw [getD_set1 _ _ _ hl,hy,Bool.or_true]
  refine ⟨by simp [h.len],fun x hx=>?_,fun x hx=>?_,fun x hx=>?_,fun x hx=>⟨(h.oldp x hx).1,fun y hy=>(h.oldp x hx).2 y (by simp [hy])⟩,fun x hx=>?_⟩
  · rcases List.mem_append.1 hx with hx | hx
    · exact h.lt x hx
    · rw [List.mem_singleton] at hx
      rw [hx]
      exact hn
  · rcases List.mem_append.1 hx with hx | hx
    · exact h.path x hx
    · rw [List.mem_singleton] at hx
      rw [hx]
      exact .inr hp
  · rw [getD_set1 _ _ _ hl,Bool.or_eq_true] at hx
    rcases hx with hx | hx
    · rw [← of_decide_eq_true hx]
      exact hp
    · exact h.saw x hx
  · by_cases hxj:x=j
    · exact .inl (by simp [hxj])
    · have hx':x=i∨seen.getD x false=true:=by
        rcases hx with hx | hx
        · exact .inl hx
        · rw [getD_set1 _ _ _ hl,Bool.or_eq_true] at hx
          rcases hx with hx | hx
          · exact absurd (of_decide_eq_true hx).symm hxj
          · exact .inr hx
      rcases h.clo x hx' with h1 | ⟨h1,h2⟩ | h1
      · exact .inl (by simp [h1])
      · refine .inr (.inl ⟨h1,fun y hy=>?_⟩)
        rcases h2 y hy with h3 | h3
        · rcases List.mem_cons.1 h3 with rfl | h3
          · exact .inr ⟨hj,by rw [getD_set1 _ _ _ hl]; simp⟩
          · exact .inl h3
        · exact .inr ⟨h3.1,up y h3.2⟩
      · exact .inr (.inr fun y hy=>⟨(h1 y hy).1,up y (h1 y hy).2⟩)
theorem search_turn {g:Nat→List Nat} {n i k:Nat} {seen:List Bool} {next:List Nat} (h:InvL g n i seen next [] (some k)):InvL g n i seen next [] none:=by
  refine ⟨h.len,h.lt,h.path,h.saw,(fun x hx=>by cases hx),fun x hx=>?_⟩
  rcases h.clo x hx with h1 | ⟨h1,h2⟩ | h1
  · exact .inl h1
  · refine .inr (.inr fun y hy=>?_)
    rcases h2 y hy with h3 | h3
    · cases h3
    · exact h3
  · exact .inr (.inr h1)
end Go.Proofs.YteljhhgffmpgnaaDoor
