/- Plain aids: slices.DeleteFunc leaves what is not deleted. -/
import Derived.Test.YtiecpfnjmlidbaaGreatDoorPO
set_option linter.unusedVariables false
set_option linter.unusedSimpArgs false
namespace Go.Proofs.YtiecpfnjmlidbaaGreatDoor
open Go Go.Proofs.YtiecpfnjmlidbaaGreatDoor.Kit
theorem cR2 {α β:Type} {xs:List α} {c:α→Bool} {E:List α→Int→Option β} {L:Nat→List α→Int→Int→Option β} {r:Option β} (hlen:xs.length≤4611686018427387904)
    (hL:∀ k s i j,L (k+1) s i j=bif decide (j<(s.length:Int)) then ((o7 s j).bind fun x=>bif !c x then ((o7 s i).bind fun _=>L k (s.set i.toNat x) (c5 (i+1)) (c5 (j+1))) else L k s i (c5 (j+1))) else E s i)
    (hE:∀ s i,s.length=xs.length→0≤i→i≤(s.length:Int)→s.take i.toNat=xs.filter (fun x=>!c x)→E s i=r) :
    ∀ (d k:Nat) (s:List α) (i j:Int),s.length=xs.length→0≤i→i<j→j≤(xs.length:Int)→s.take i.toNat=(xs.take j.toNat).filter (fun x=>!c x)→s.drop j.toNat=xs.drop j.toNat→(xs.length:Int) - j=d→d<k→L k s i j=r:=by
  intro d
  induction d with
  | zero =>
    intro k s i j h1 h2 h3 h4 h5 h6 h7 h8
    obtain ⟨k,rfl⟩:∃ m,k=m+1:=⟨k - 1,by omega⟩
    rw [hL,decide_eq_false (show ¬ j<(s.length:Int) by omega)]
    have:xs.take j.toNat=xs:=List.take_of_length_le (by omega)
    rw [this] at h5
    exact hE s i h1 h2 (by omega) h5
  | succ d ih =>
    intro k s i j h1 h2 h3 h4 h5 h6 h7 h8
    obtain ⟨k,rfl⟩:∃ m,k=m+1:=⟨k - 1,by omega⟩
    have hj:j.toNat<s.length:=by omega
    have hjx:j.toNat<xs.length:=by omega
    have hat:o7 s j=some s[j.toNat]:=by simp [o7,hj]; omega
    have hi:i.toNat<s.length:=by omega
    have hai:o7 s i=some s[i.toNat]:=by simp [o7,hi]; omega
    have hsx:s[j.toNat]=xs[j.toNat]:=by
      have:=congrArg (fun l=>l[0]?) h6
      simpa [List.getElem?_drop,hj,hjx] using this
    have htk:xs.take (j+1).toNat=xs.take j.toNat++[xs[j.toNat]]:=by
      rw [show (j+1).toNat=j.toNat+1 by omega,List.take_succ_eq_append_getElem hjx]
    rw [hL,decide_eq_true (show j<(s.length:Int) by omega),hat,B7 (n:=i+1) (by omega) (by omega),B7 (n:=j+1) (by omega) (by omega)]
    simp only [cond_true,Option.bind_some,hai]
    rw [hsx]
    cases hc:c xs[j.toNat]
    · simp only [Bool.not_false,cond_true]
      refine ih k _ (i+1) (j+1) (by simpa using h1) (by omega) (by omega) (by omega) ?_ ?_ (by omega) (by omega)
      · rw [htk,List.filter_append,← h5,show (i+1).toNat=i.toNat+1 by omega,List.take_succ_eq_append_getElem (by simpa using hi),List.take_set_of_le (Nat.le_refl _)]
        simp [hc]
      · rw [List.drop_set,if_pos (by omega),show (j+1).toNat=j.toNat+1 by omega,← List.drop_drop,← List.drop_drop,h6]
    · simp only [Bool.not_true,cond_false]
      refine ih k s i (j+1) h1 h2 (by omega) (by omega) ?_ ?_ (by omega) (by omega)
      · rw [htk,List.filter_append,← h5]
        simp [hc]
      · rw [show (j+1).toNat=j.toNat+1 by omega,← List.drop_drop,← List.drop_drop,h6]
theorem cm8 {α:Type} {xs:List α} {c:α→Bool} {E:List α→Int→Option (List α)} {L:Nat→List α→Int→Int→Option (List α)} (hlen:xs.length≤4611686018427387904)
    (hL:∀ k s i j,L (k+1) s i j=bif decide (j<(s.length:Int)) then ((o7 s j).bind fun x=>bif !c x then ((o7 s i).bind fun _=>L k (s.set i.toNat x) (c5 (i+1)) (c5 (j+1))) else L k s i (c5 (j+1))) else E s i)
    (hE:∀ s i,0≤i→i≤(s.length:Int)→E s i=some (s.take i.toNat)) :
    (bif (match xs.findIdx? c with | some n=>(0:Int)+n | none => -1) == (-1) then some xs else L n8 xs (match xs.findIdx? c with | some n=>(0:Int)+n | none => -1) (c5 ((match xs.findIdx? c with | some n=>(0:Int)+n | none => -1)+1)))=some (xs.filter (fun x=>!c x)):=by
  cases h:xs.findIdx? c with
  | none =>
    have h1:=List.findIdx?_eq_none_iff.1 h
    have:xs.filter (fun x=>!c x)=xs:=List.filter_eq_self.2 (fun x hx=>by simp [h1 x hx])
    rw [this]
    rfl
  | some n =>
    obtain ⟨hn,hcn,hlt⟩:=List.findIdx?_eq_some_iff_getElem.1 h
    have hne:(((0:Int)+(n:Int)) == -1)=false:=by simp [bne]
    simp only [hne,cond_false]
    rw [B7 (by omega) (by omega)]
    have ht:(xs.take n).filter (fun x=>!c x)=xs.take n:=by
      refine List.filter_eq_self.2 (fun x hx=>?_)
      obtain ⟨i,hi,rfl⟩:=List.getElem_of_mem hx
      have hin:i<n:=by have:=List.length_take_le n xs; omega
      have:=hlt i hin
      simp only [List.getElem_take]
      simpa using this
    refine cR2 hlen hL (fun s i h1 h2 h3 h4=>by rw [hE s i h2 h3,h4]) ((xs.length:Int) - (0+(n:Int)+1)).toNat n8 xs (0+(n:Int)) (0+(n:Int)+1) rfl (by omega) (by omega) (by omega) ?_ rfl (by omega) (by unfold n8; omega)
    rw [show ((0:Int)+(n:Int)).toNat=n by omega,show ((0:Int)+(n:Int)+1).toNat=n+1 by omega,List.take_succ_eq_append_getElem hn,List.filter_append,ht]
    simp [hcn]
theorem bE2 {α β S:Type} {g:S→α→S} {E:S→Option β}:∀ (l:List α) (i:Int) (s:S),au7 (fun _ x s f=>f (g s x)) E i l s=E (l.foldl g s)
  | [],_,_=>rfl
  | x::l,i,s=>by simp only [au7,List.foldl_cons]; exact bE2 l (i+1) (g s x)
/-! maps that hold only true, as sets -/
theorem cn3 {κ ν:Type} [DecidableEq κ]:∀ (m:List (κ × ν)) (k:κ) (v:ν) (k':κ),ay3 (ao5 m k v) k'=if k=k' then some v else ay3 m k'
  | [],k,v,k'=>by simp [ay3,ao5]
  | q::m,k,v,k'=>by
    have ih:=cn3 m k v k'
    unfold ao5
    by_cases h:q.1=k
    · subst h
      rw [if_pos rfl]
      simp only [ay3]
      by_cases h2:q.1=k' <;> simp [h2]
    · rw [if_neg h]
      simp only [ay3]
      by_cases h2:q.1=k'
      · rw [if_pos h2,if_pos h2]
        have:¬ k=k':=fun h3=>h (by rw [h2,h3])
        rw [if_neg this]
      · rw [if_neg h2,if_neg h2,ih]
theorem cR1 {κ:Type} [DecidableEq κ] (m:List (κ × Bool)) (k k':κ):aq3 (ao5 m k true) k' false=(decide (k=k')||aq3 m k' false):=by
  unfold aq3
  rw [cn3]
  by_cases h:k=k' <;> simp [h]
def bE1 {κ:Type} [DecidableEq κ] (m:List (κ × Bool)) (l:List κ):List (κ × Bool):=l.foldl (fun m k=>ao5 m k true) m
end Go.Proofs.YtiecpfnjmlidbaaGreatDoor
