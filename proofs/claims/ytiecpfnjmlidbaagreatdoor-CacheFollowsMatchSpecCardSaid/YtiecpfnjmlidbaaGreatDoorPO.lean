/- Plain aids: the order of strings, loops that look back and carry a state, binary search. -/
import Derived.Test.YtiecpfnjmlidbaaGreatDoorPW
import Derived.Lib.Bytealg
set_option linter.unusedVariables false
set_option linter.unusedSimpArgs false
namespace Go.Proofs.YtiecpfnjmlidbaaGreatDoor
open Go Go.Proofs.YtiecpfnjmlidbaaGreatDoor.Kit
def M8 (lo hi x:Int):Bool:=decide (lo≤x)&&decide (x≤hi)
theorem bT7:∀ (a b:List UInt8),Lib.compareBytes a b=0↔a=b
  | [],[]=>by simp [Lib.compareBytes]
  | [],_::_=>by simp [Lib.compareBytes]
  | _::_,[]=>by simp [Lib.compareBytes]
  | a::as,b::bs=>by
    have ih:=bT7 as bs
    unfold Lib.compareBytes
    by_cases h1:a<b
    · have h3:a≠b:=fun h=>by subst h; exact UInt8.lt_irrefl _ h1
      simp [h1,h3]
    · by_cases h2:b<a
      · have h3:a≠b:=fun h=>by subst h; exact UInt8.lt_irrefl _ h2
        simp [h1,h2,h3]
      · have h3:a=b:=UInt8.le_antisymm (UInt8.not_lt.1 h2) (UInt8.not_lt.1 h1)
        subst h3
        simp [h1,ih]
theorem bG3 (a b:ByteArray):x9 a b=Op.bytesLess a.data.toList b.data.toList:=by
  unfold x9
  rw [ByteArray.toList_eq,ByteArray.toList_eq]
theorem cq0 (a b:ByteArray):p4 a b=decide (a.data.toList=b.data.toList):=by
  unfold p4
  rw [ByteArray.toList_eq,ByteArray.toList_eq]
  generalize a.data.toList=x
  generalize b.data.toList=y
  by_cases h:x=y <;> simp [h]
theorem cq1:∀ (a b:List UInt8),decide (Lib.compareBytes a b<0)=Op.bytesLess a b
  | [],[]=>by simp [Lib.compareBytes,Op.bytesLess]
  | [],_::_=>by simp [Lib.compareBytes,Op.bytesLess]
  | _::_,[]=>by simp [Lib.compareBytes,Op.bytesLess]
  | a::as,b::bs=>by
    have ih:=cq1 as bs
    unfold Lib.compareBytes Op.bytesLess
    by_cases h1:a<b
    · simp [h1]
    · by_cases h2:b<a
      · have h3:a≠b:=fun h=>by subst h; exact UInt8.lt_irrefl _ h2
        simp [h1,h2,h3]
      · have h3:b=a:=UInt8.le_antisymm (UInt8.not_lt.1 h1) (UInt8.not_lt.1 h2)
        subst h3
        simp [h1,ih]
theorem cq2:∀ (a b c:List UInt8),Op.bytesLess a b=true→Op.bytesLess b c=true→Op.bytesLess a c=true
  | _,[],_=>by simp [Op.bytesLess]
  | _,_::_,[]=>by simp [Op.bytesLess]
  | [],_::_,_::_=>by simp [Op.bytesLess]
  | a::as,b::bs,c::cs=>by
    have ih:=cq2 as bs cs
    simp only [Op.bytesLess,Bool.or_eq_true,decide_eq_true_eq,Bool.and_eq_true,beq_iff_eq]
    rintro (h | ⟨rfl,h⟩) (k | ⟨rfl,k⟩)
    · exact Or.inl (UInt8.lt_trans h k)
    · exact Or.inl h
    · exact Or.inl k
    · exact Or.inr ⟨rfl,ih h k⟩
theorem cq3:∀ (a:List UInt8),Op.bytesLess a a=false
  | []=>rfl
  | a::as=>by simp [Op.bytesLess,cq3 as,UInt8.lt_irrefl]
theorem cq4:∀ (a b:List UInt8),Op.bytesLess a b=false→a≠b→Op.bytesLess b a=true
  | [],[]=>by simp
  | [],_::_=>by simp [Op.bytesLess]
  | _::_,[]=>by simp [Op.bytesLess]
  | a::as,b::bs=>by
    have ih:=cq4 as bs
    simp only [Op.bytesLess]
    intro h hne
    by_cases h1:a<b
    · simp [h1] at h
    · by_cases h2:b<a
      · simp [h2]
      · have h3:b=a:=UInt8.le_antisymm (UInt8.not_lt.1 h1) (UInt8.not_lt.1 h2)
        subst h3
        simp [h1] at h
        have:as≠bs:=fun hh=>hne (by rw [hh])
        simp [ih h this]
theorem bD4 {a b c:ByteArray} (h:x9 a b=true) (k:x9 b c=true):x9 a c=true:=by
  rw [bG3] at *
  exact cq2 _ _ _ h k
theorem bb5 (a:ByteArray):x9 a a=false:=by rw [bG3]; exact cq3 _
theorem aO8 (a:ByteArray):p4 a a=true:=as4.2 rfl
theorem cp8 {a b:ByteArray} (h:(x9 a b||p4 a b)=false):x9 b a=true:=by
  simp only [Bool.or_eq_false_iff] at h
  rw [bG3] at h ⊢
  refine cq4 _ _ h.1 (fun he=>?_)
  have:=h.2
  rw [cq0,he] at this
  simp at this
theorem cl9 (a b:ByteArray):decide (Lib.compareBytes a.data.toList b.data.toList<0)=x9 a b:=by rw [cq1,bG3]
theorem cm0 (a b:ByteArray):(Lib.compareBytes a.data.toList b.data.toList == 0)=p4 a b:=by
  rw [cq0]
  by_cases h:a.data.toList=b.data.toList
  · rw [(bT7 _ _).2 h,decide_eq_true h]
    rfl
  · rw [decide_eq_false h]
    have:=fun hh=>h ((bT7 _ _).1 hh)
    simpa using this
def bh2 {α β S:Type} (B:Option α→α→S→(S→Option β)→Option β) (e:S→Option β):Option α→List α→S→Option β
  | _,[],s=>e s
  | p,x::xs,s=>B p x s (fun s'=>bh2 B e (some x) xs s')
theorem cO9 {α β S:Type} {xs:List α} {B:Option α→α→S→(S→Option β)→Option β} {e:S→Option β} {L:Nat→S→Int→Option β} (hlen:xs.length≤4611686018427387904)
    (hL:∀ k s v,0≤v→v≤(xs.length:Int)→L (k+1) s v=bif decide (v<(xs.length:Int)) then ((o7 xs v).bind fun x=>B (if 0<v then o7 xs (v - 1) else none) x s (fun s'=>L k s' (c5 (v+1)))) else e s) (s:S):L n8 s 0=bh2 B e none xs s:=by
  have key:∀ (d k:Nat) (s:S) (v:Int),0≤v→v≤xs.length→(xs.length:Int) - v=d→d<k→L k s v=bh2 B e (if 0<v then o7 xs (v - 1) else none) (xs.drop v.toNat) s:=by
    intro d
    induction d with
    | zero =>
      intro k s v h0 h1 hd hk
      obtain ⟨k,rfl⟩:∃ m,k=m+1:=⟨k - 1,by omega⟩
      rw [hL k s v h0 h1,decide_eq_false (show ¬ v<(xs.length:Int) by omega),List.drop_eq_nil_of_le (show xs.length≤v.toNat by omega)]
      rfl
    | succ d ih =>
      intro k s v h0 h1 hd hk
      obtain ⟨k,rfl⟩:∃ m,k=m+1:=⟨k - 1,by omega⟩
      have hn:v.toNat<xs.length:=by omega
      have hat:o7 xs v=some xs[v.toNat]:=by simp [o7,h0,hn]
      have hw:c5 (v+1)=v+1:=B7 (by omega) (by omega)
      rw [hL k s v h0 h1,decide_eq_true (show v<(xs.length:Int) by omega),hat,hw,List.drop_eq_getElem_cons hn]
      simp only [Option.bind_some,cond_true,bh2]
      congr 1
      funext s'
      rw [ih k s' (v+1) (by omega) (by omega) (by omega) (by omega),if_pos (show 0<v+1 by omega),show v+1 - 1=v by omega,hat,show (v+1).toNat=v.toNat+1 by omega]
  have:=key xs.length n8 s 0 (by omega) (by omega) (by omega) (by unfold n8; omega)
  simpa using this
theorem bR4 {α β:Type} {xs:List α} {v:Int} {f g:α→Option β} (h:∀ x,o7 xs v=some x→x∈xs→f x=g x):(o7 xs v).bind f=(o7 xs v).bind g:=by
  cases hx:o7 xs v with
  | none=>rfl
  | some x =>
    obtain ⟨h0,h1,h2⟩:=aa2 hx
    exact h x hx (List.mem_of_getElem? h2)
theorem bo9 {β:Type} {n:Nat} {L:Nat→Int→Option β} {e:Option β} (hlen:n≤4611686018427387904) (hL:∀ k v,0≤v→v<(n:Int)→L (k+1) v=L k (v+1)) (he:∀ k,L (k+1) n=e):L n8 0=e:=by
  have key:∀ (d k:Nat) (v:Int),0≤v→v≤n→(n:Int) - v=d→d<k→L k v=e:=by
    intro d
    induction d with
    | zero =>
      intro k v h0 h1 hd hk
      obtain ⟨k,rfl⟩:∃ m,k=m+1:=⟨k - 1,by omega⟩
      have:v=n:=by omega
      subst this
      exact he k
    | succ d ih =>
      intro k v h0 h1 hd hk
      obtain ⟨k,rfl⟩:∃ m,k=m+1:=⟨k - 1,by omega⟩
      rw [hL k v h0 (by omega)]
      exact ih k (v+1) (by omega) (by omega) (by omega) (by omega)
  exact key n n8 0 (by omega) (by omega) (by omega) (by unfold n8; omega)
theorem bg8 {α:Type} {xs:List α} {v:Int} (h0:0≤v) (h1:v<(xs.length:Int)):∃ (hn:v.toNat<xs.length),o7 xs v=some xs[v.toNat]:=⟨by omega,by simp [o7,h0,show v.toNat<xs.length by omega]⟩
theorem cq5 {i j:Int} (h0:0≤i) (h1:i≤j) (h2:j≤2305843009213693952):c5 (F8 .u64 (IntKind.wrap .u64 (c5 (i+j))) 1)=(i+j) / 2:=by
  have e1:c5 (i+j)=i+j:=B7 (by omega) (by omega)
  have e2:IntKind.wrap .u64 (i+j)=i+j:=by
    unfold IntKind.wrap
    simp [IntKind.signed,IntKind.bits]
    omega
  rw [e1,e2]
  unfold F8
  have S7:(2:Int) ^ min (1:Int).toNat IntKind.u64.bits=2:=by simp [IntKind.bits]
  rw [S7,Int.fdiv_eq_ediv_of_nonneg _ (by omega)]
  exact B7 (by omega) (by omega)
theorem bsearch {α β:Type} {xs:List α} {c:α→Bool} {E:Int→Option β} {L:Nat→Int→Int→Option β} {p:Nat} (hlen:xs.length≤2305843009213693952) (hp:p≤xs.length)
    (h1:∀ (n:Nat) (h:n<xs.length),n<p→c xs[n]=true) (h2:∀ (n:Nat) (h:n<xs.length),p≤n→c xs[n]=false)
    (hL:∀ k i j,L (k+1) i j=bif decide (i<j) then ((o7 xs (c5 (F8 .u64 (IntKind.wrap .u64 (c5 (i+j))) 1))).bind fun x=>bif c x then L k (c5 ((c5 (F8 .u64 (IntKind.wrap .u64 (c5 (i+j))) 1))+1)) j else L k i (c5 (F8 .u64 (IntKind.wrap .u64 (c5 (i+j))) 1))) else E i):L n8 0 xs.length=E p:=by
  have key:∀ (d k:Nat) (i j:Int),0≤i→i≤p→(p:Int)≤j→j≤xs.length→j - i≤d→d<k→L k i j=E p:=by
    intro d
    induction d with
    | zero =>
      intro k i j a1 a2 a3 a4 a5 a6
      obtain ⟨k,rfl⟩:∃ m,k=m+1:=⟨k - 1,by omega⟩
      rw [hL,decide_eq_false (by omega)]
      have:i=p:=by omega
      subst this
      rfl
    | succ d ih =>
      intro k i j a1 a2 a3 a4 a5 a6
      obtain ⟨k,rfl⟩:∃ m,k=m+1:=⟨k - 1,by omega⟩
      rw [hL]
      by_cases hij:i<j
      · rw [decide_eq_true hij,cq5 a1 (by omega) (by omega)]
        obtain ⟨hn,hat⟩:=bg8 (xs:=xs) (v:=(i+j) / 2) (by omega) (by omega)
        rw [hat,B7 (n:=(i+j) / 2+1) (by omega) (by omega)]
        simp only [cond_true,Option.bind_some]
        by_cases hc:((i+j) / 2).toNat<p
        · rw [h1 _ hn hc]
          exact ih k _ _ (by omega) (by omega) (by omega) (by omega) (by omega) (by omega)
        · rw [h2 _ hn (by omega)]
          exact ih k _ _ (by omega) (by omega) (by omega) (by omega) (by omega) (by omega)
      · rw [decide_eq_false hij]
        have:i=p:=by omega
        subst this
        rfl
  exact key xs.length n8 0 xs.length (by omega) (by omega) (by omega) (by omega) (by omega) (by unfold n8; omega)
theorem bD9 {α:Type} {key:α→ByteArray} {B:Option α→α→Option Int→Option Int} (hB:∀ p x k,B p x k=some 0→k=some 0∧au6 (fun y=>x9 (key x) (key y)||p4 (key x) (key y)) p=false) {k0:Option Int} :
    ∀ (l:List α) (p:Option α),ao8 B k0 p l=some 0→k0=some 0∧(∀ y,p=some y→∀ x∈l,x9 (key y) (key x)=true)∧l.Pairwise (fun a b=>x9 (key a) (key b)=true)
  | [],p,h=>⟨h,fun _ _ x hx=>absurd hx (by simp),List.Pairwise.nil⟩
  | x::l,p,h=>by
    obtain ⟨h1,h2⟩:=hB p x _ h
    obtain ⟨h3,h4,h5⟩:=bD9 hB l (some x) h1
    refine ⟨h3,fun y hy z hz=>?_,List.Pairwise.cons (fun z hz=>h4 x rfl z hz) h5⟩
    subst hy
    have hyx:x9 (key y) (key x)=true:=cp8 h2
    rcases List.mem_cons.1 hz with rfl | hz
    · exact hyx
    · exact bD4 hyx (h4 x rfl z hz)
theorem bD8 {α:Type} {P:α→Prop} {B:Option α→α→Option Int→Option Int} (hB:∀ p x k,B p x k=some 0→k=some 0∧P x) {k0:Option Int} :
    ∀ (l:List α) (p:Option α),ao8 B k0 p l=some 0→k0=some 0∧∀ x∈l,P x
  | [],p,h=>⟨h,fun x hx=>by cases hx⟩
  | x::l,p,h=>by
    obtain ⟨h1,h2⟩:=hB p x _ h
    obtain ⟨h3,h4⟩:=bD8 hB l (some x) h1
    refine ⟨h3,fun y hy=>?_⟩
    rcases List.mem_cons.1 hy with rfl | hy
    · exact h2
    · exact h4 y hy
def placeOf {α:Type} (key:α→ByteArray) (l:List α) (d:ByteArray):Nat:=(l.takeWhile (fun x=>x9 (key x) d)).length
theorem aO7 {α:Type} {key:α→ByteArray} (l:List α) (d:ByteArray):placeOf key l d≤l.length:=List.takeWhile_sublist _ |>.length_le
theorem bh3 {α:Type} {key:α→ByteArray}:∀ (l:List α) (d:ByteArray) (n:Nat) (h:n<l.length),n<placeOf key l d→x9 (key l[n]) d=true
  | [],_,n,h,_=>by simp at h
  | x::l,d,n,h,hp=>by
    unfold placeOf at hp
    rw [List.takeWhile_cons] at hp
    cases hx:x9 (key x) d
    · simp [hx] at hp
    · simp only [hx,if_true,List.length_cons] at hp
      cases n with
      | zero=>exact hx
      | succ n=>exact bh3 l d n (by simpa using h) (by unfold placeOf; omega)
theorem bp5 {α:Type} {key:α→ByteArray}:∀ (l:List α) (d:ByteArray),l.Pairwise (fun a b=>x9 (key a) (key b)=true)→∀ (n:Nat) (h:n<l.length),placeOf key l d≤n→x9 (key l[n]) d=false
  | [],_,_,n,h,_=>by simp at h
  | x::l,d,hs,n,h,hp=>by
    obtain ⟨h1,h2⟩:=List.pairwise_cons.1 hs
    unfold placeOf at hp
    rw [List.takeWhile_cons] at hp
    cases hx:x9 (key x) d
    · cases n with
      | zero=>exact hx
      | succ n =>
        have hn:n<l.length:=by simpa using h
        have:=h1 l[n] (List.getElem_mem hn)
        show x9 (key l[n]) d=false
        cases hc:x9 (key l[n]) d
        · rfl
        · rw [bD4 this hc] at hx
          cases hx
    · simp only [hx,if_true,List.length_cons] at hp
      cases n with
      | zero=>omega
      | succ n=>exact bp5 l d h2 n (by simpa using h) (by unfold placeOf; omega)
theorem bE3 {a b:ByteArray} (h:x9 a b=true):p4 a b=false:=by
  cases hc:p4 a b
  · rfl
  · rw [as4.1 hc,bb5] at h
    cases h
theorem bD2 {α:Type} {key:α→ByteArray}:∀ (l:List α) (d:ByteArray),l.Pairwise (fun a b=>x9 (key a) (key b)=true)→(match l[placeOf key l d]? with | some x=>p4 (key x) d | none=>false)=l.any (fun x=>p4 (key x) d)
  | [],_,_=>rfl
  | x::l,d,hs=>by
    obtain ⟨h1,h2⟩:=List.pairwise_cons.1 hs
    have ih:=bD2 l d h2
    unfold placeOf at ih ⊢
    rw [List.takeWhile_cons]
    cases hx:x9 (key x) d
    · simp only [Bool.false_eq_true,if_false,List.length_nil,List.getElem?_cons_zero,List.any_cons]
      cases he:p4 (key x) d
      · have:l.any (fun x=>p4 (key x) d)=false:=by
          rw [List.any_eq_false]
          intro y hy
          have hxy:=h1 y hy
          cases hc:p4 (key y) d
          · simp
          · rw [as4.1 hc,hx] at hxy
            cases hxy
        rw [this]
        rfl
      · rfl
    · simp only [if_true,List.length_cons,List.getElem?_cons_succ,List.any_cons,bE3 hx,Bool.false_or]
      exact ih
theorem aW5 {α γ β:Type} {c:α→Bool} {g:α→γ} {b:Nat} {E:List γ→Option β}:∀ (l:List α) (i:Int) (s:List γ),(s.length+l.length)*b≤140737490452480 →
    au7 (fun _ x s f=>bif c x then G5 (room s.length 1 b) (f (s++[g x])) else f s) E i l s=E (s++(l.filter c).map g)
  | [],i,s,_=>by simp [au7]
  | x::l,i,s,h=>by
    have hl:(x::l).length=l.length+1:=rfl
    rw [hl] at h
    have hmul:(s.length+1)*b≤140737490452480:=Nat.le_trans (Nat.mul_le_mul_right _ (by omega)) h
    have cW2:(s.length+l.length)*b≤140737490452480:=Nat.le_trans (Nat.mul_le_mul_right _ (by omega)) h
    simp only [au7]
    cases hc:c x
    · simp only [cond_false]
      rw [aW5 l (i+1) s cW2,List.filter_cons_of_neg (by simp [hc])]
    · simp only [cond_true]
      rw [Y3 (ab6 hmul),aW5 l (i+1) (s++[g x]) (by simp; rw [show s.length+1+l.length=s.length+(l.length+1) by omega]; exact h),List.filter_cons_of_pos hc]
      simp
theorem bh8 {α:Type} {c:α→Bool}:∀ (l:List α) (i:Int) ,au7 (fun v x (s:Unit) f=>bif c x then some v else f s) (fun _=>some (-1)) i l ()=some (match l.findIdx? c with | some n=>i+n | none => -1)
  | [],i=>rfl
  | x::l,i=>by
    simp only [au7,List.findIdx?_cons]
    cases hc:c x
    · simp only [cond_false,Bool.false_eq_true,if_false]
      rw [bh8 l (i+1)]
      cases l.findIdx? c with
      | none=>rfl
      | some n =>
        show some (i+1+(n:Int))=some (i+((n+1:Nat):Int))
        congr 1
        omega
    · simp
theorem cQ5 {α:Type} {c:α→Bool} (l:List α):decide ((match l.findIdx? c with | some n=>(0:Int)+n | none => -1)<0)=!l.any c:=by
  cases h:l.findIdx? c with
  | none =>
    have:=List.findIdx?_eq_none_iff.1 h
    have:l.any c=false:=by rw [List.any_eq_false]; intro x hx; simp [this x hx]
    simp [this]
  | some n =>
    have:=List.findIdx?_isSome (p:=c) (xs:=l)
    rw [h] at this
    simp at this
    have h2:l.any c=true:=by simpa using this
    rw [h2]
    simp
end Go.Proofs.YtiecpfnjmlidbaaGreatDoor
