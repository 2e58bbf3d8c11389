/- Plain aids: the order of strings, loops that look back and carry a state, binary search. -/
import Derived.Test.YtedkdnhhohcocaaDoorPW
import Derived.Lib.Bytealg
set_option linter.unusedVariables false
set_option linter.unusedSimpArgs false
namespace Go.Proofs.YtedkdnhhohcocaaDoor
open Go Go.Proofs.YtedkdnhhohcocaaDoor.Kit
def inR (lo hi x:Int):Bool:=decide (lo≤x)&&decide (x≤hi)
theorem sLt_data (a b:ByteArray):sLt a b=Op.bytesLess a.data.toList b.data.toList:=by
  unfold sLt
  rw [ByteArray.toList_eq,ByteArray.toList_eq]
theorem sEq_data (a b:ByteArray):sEq a b=decide (a.data.toList=b.data.toList):=by
  unfold sEq
  rw [ByteArray.toList_eq,ByteArray.toList_eq]
  generalize a.data.toList=x
  generalize b.data.toList=y
  by_cases h:x=y <;> simp [h]
theorem bless_trans:∀ (a b c:List UInt8),Op.bytesLess a b=true→Op.bytesLess b c=true→Op.bytesLess a c=true
  | _,[],_=>by simp [Op.bytesLess]
  | _,_::_,[]=>by simp [Op.bytesLess]
  | [],_::_,_::_=>by simp [Op.bytesLess]
  | a::as,b::bs,c::cs=>by
    have ih:=bless_trans as bs cs
    simp only [Op.bytesLess,Bool.or_eq_true,decide_eq_true_eq,Bool.and_eq_true,beq_iff_eq]
    rintro (h | ⟨rfl,h⟩) (k | ⟨rfl,k⟩)
    · exact Or.inl (UInt8.lt_trans h k)
    · exact Or.inl h
    · exact Or.inl k
    · exact Or.inr ⟨rfl,ih h k⟩
theorem bless_irrefl:∀ (a:List UInt8),Op.bytesLess a a=false
  | []=>rfl
  | a::as=>by simp [Op.bytesLess,bless_irrefl as,UInt8.lt_irrefl]
theorem bless_total:∀ (a b:List UInt8),Op.bytesLess a b=false→a≠b→Op.bytesLess b a=true
  | [],[]=>by simp
  | [],_::_=>by simp [Op.bytesLess]
  | _::_,[]=>by simp [Op.bytesLess]
  | a::as,b::bs=>by
    have ih:=bless_total as bs
    simp only [Op.bytesLess]
    intro h hne
    by_cases h1:a<b
    · simp [h1] at h
    · by_cases h2:b<a
      · simp [h2]
      · have h3:b=a:=UInt8.le_antisymm (UInt8.not_lt.1 h1) (UInt8.not_lt.1 h2)
        subst h3
        simp [h1] at h
        have:as≠bs:=fun hh=>hne (by rw [hh])
        simp [ih h this]
theorem sLt_trans {a b c:ByteArray} (h:sLt a b=true) (k:sLt b c=true):sLt a c=true:=by
  rw [sLt_data] at *
  exact bless_trans _ _ _ h k
theorem sLt_irrefl (a:ByteArray):sLt a a=false:=by rw [sLt_data]; exact bless_irrefl _
theorem sEq_self (a:ByteArray):sEq a a=true:=sEq_iff.2 rfl
theorem sLt_total {a b:ByteArray} (h:(sLt a b||sEq a b)=false):sLt b a=true:=by
  simp only [Bool.or_eq_false_iff] at h
  rw [sLt_data] at h ⊢
  refine bless_total _ _ h.1 (fun he=>?_)
  have:=h.2
  rw [sEq_data,he] at this
  simp at this
theorem selfLoop {β:Type} {n:Nat} {L:Nat→Int→Option β} {e:Option β} (hlen:n≤4611686018427387904) (hL:∀ k v,0≤v→v<(n:Int)→L (k+1) v=L k (v+1)) (he:∀ k,L (k+1) n=e):L big 0=e:=by
  have key:∀ (d k:Nat) (v:Int),0≤v→v≤n→(n:Int) - v=d→d<k→L k v=e:=by
    intro d
    induction d with
    | zero =>
      intro k v h0 h1 hd hk
      obtain ⟨k,rfl⟩:∃ m,k=m+1:=⟨k - 1,by omega⟩
      have:v=n:=by omega
      subst this
      exact he k
    | succ d ih =>
      intro k v h0 h1 hd hk
      obtain ⟨k,rfl⟩:∃ m,k=m+1:=⟨k - 1,by omega⟩
      rw [hL k v h0 (by omega)]
      exact ih k (v+1) (by omega) (by omega) (by omega) (by omega)
  exact key n big 0 (by omega) (by omega) (by omega) (by unfold big; omega)
theorem at?_get {α:Type} {xs:List α} {v:Int} (h0:0≤v) (h1:v<(xs.length:Int)):∃ (hn:v.toNat<xs.length),at? xs v=some xs[v.toNat]:=⟨by omega,by simp [at?,h0,show v.toNat<xs.length by omega]⟩
theorem half_eq {i j:Int} (h0:0≤i) (h1:i≤j) (h2:j≤2305843009213693952):w64 (iShr .u64 (IntKind.wrap .u64 (w64 (i+j))) 1)=(i+j) / 2:=by
  have e1:w64 (i+j)=i+j:=w64_id (by omega) (by omega)
  have e2:IntKind.wrap .u64 (i+j)=i+j:=by
    unfold IntKind.wrap
    simp [IntKind.signed,IntKind.bits]
    omega
  rw [e1,e2]
  unfold iShr
  have e3:(2:Int) ^ min (1:Int).toNat IntKind.u64.bits=2:=by simp [IntKind.bits]
  rw [e3,Int.fdiv_eq_ediv_of_nonneg _ (by omega)]
  exact w64_id (by omega) (by omega)
theorem sorted_of {α:Type} {key:α→ByteArray} {B:Option α→α→Option Int→Option Int} (hB:∀ p x k,B p x k=some 0→k=some 0∧prevB (fun y=>sLt (key x) (key y)||sEq (key x) (key y)) p=false) {k0:Option Int} :
    ∀ (l:List α) (p:Option α),rangeP B k0 p l=some 0→k0=some 0∧(∀ y,p=some y→∀ x∈l,sLt (key y) (key x)=true)∧l.Pairwise (fun a b=>sLt (key a) (key b)=true)
  | [],p,h=>⟨h,fun _ _ x hx=>absurd hx (by simp),List.Pairwise.nil⟩
  | x::l,p,h=>by
    obtain ⟨h1,h2⟩:=hB p x _ h
    obtain ⟨h3,h4,h5⟩:=sorted_of hB l (some x) h1
    refine ⟨h3,fun y hy z hz=>?_,List.Pairwise.cons (fun z hz=>h4 x rfl z hz) h5⟩
    subst hy
    have hyx:sLt (key y) (key x)=true:=sLt_total h2
    rcases List.mem_cons.1 hz with rfl | hz
    · exact hyx
    · exact sLt_trans hyx (h4 x rfl z hz)
theorem each_of {α:Type} {P:α→Prop} {B:Option α→α→Option Int→Option Int} (hB:∀ p x k,B p x k=some 0→k=some 0∧P x) {k0:Option Int} :
    ∀ (l:List α) (p:Option α),rangeP B k0 p l=some 0→k0=some 0∧∀ x∈l,P x
  | [],p,h=>⟨h,fun x hx=>by cases hx⟩
  | x::l,p,h=>by
    obtain ⟨h1,h2⟩:=hB p x _ h
    obtain ⟨h3,h4⟩:=each_of hB l (some x) h1
    refine ⟨h3,fun y hy=>?_⟩
    rcases List.mem_cons.1 hy with rfl | hy
    · exact h2
    · exact h4 y hy
theorem filterLoop {α γ β:Type} {c:α→Bool} {g:α→γ} {b:Nat} {E:List γ→Option β}:∀ (l:List α) (i:Int) (s:List γ),(s.length+l.length)*b≤140737490452480 →
    rangeS (fun _ x s f=>bif c x then guard? (room s.length 1 b) (f (s++[g x])) else f s) E i l s=E (s++(l.filter c).map g)
  | [],i,s,_=>by simp [rangeS]
  | x::l,i,s,h=>by
    have hl:(x::l).length=l.length+1:=rfl
    rw [hl] at h
    have hmul:(s.length+1)*b≤140737490452480:=Nat.le_trans (Nat.mul_le_mul_right _ (by omega)) h
    have hmul2:(s.length+l.length)*b≤140737490452480:=Nat.le_trans (Nat.mul_le_mul_right _ (by omega)) h
    simp only [rangeS]
    cases hc:c x
    · simp only [cond_false]
      rw [filterLoop l (i+1) s hmul2,List.filter_cons_of_neg (by simp [hc])]
    · simp only [cond_true]
      rw [guard?_true (room_of hmul),filterLoop l (i+1) (s++[g x]) (by simp; rw [show s.length+1+l.length=s.length+(l.length+1) by omega]; exact h),List.filter_cons_of_pos hc]
      simp
theorem findLoop {α:Type} {c:α→Bool}:∀ (l:List α) (i:Int) ,rangeS (fun v x (s:Unit) f=>bif c x then some v else f s) (fun _=>some (-1)) i l ()=some (match l.findIdx? c with | some n=>i+n | none => -1)
  | [],i=>rfl
  | x::l,i=>by
    simp only [rangeS,List.findIdx?_cons]
    cases hc:c x
    · simp only [cond_false,Bool.false_eq_true,if_false]
      rw [findLoop l (i+1)]
      cases l.findIdx? c with
      | none=>rfl
      | some n =>
        show some (i+1+(n:Int))=some (i+((n+1:Nat):Int))
        congr 1
        omega
    · simp
end Go.Proofs.YtedkdnhhohcocaaDoor
