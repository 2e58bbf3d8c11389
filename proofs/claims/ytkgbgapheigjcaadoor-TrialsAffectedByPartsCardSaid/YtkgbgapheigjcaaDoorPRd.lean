/- What tests read, and changes: both sides' checks. -/
import Derived.Test.YtkgbgapheigjcaaDoorPPath
import Derived.Test.YtkgbgapheigjcaaDoorPO
set_option linter.unusedVariables false
namespace Go.Proofs.YtkgbgapheigjcaaDoor
open Go Go.Proofs.YtkgbgapheigjcaaDoor.Kit
/-! lists of paths -/
def smallL (l:List ByteArray):Prop:=l.length≤4194304∧∀ x∈l,x.size≤67108864
def cpB (p:Option ByteArray) (x:ByteArray) (k:Option Int):Option Int :=
  bif !isPathB x then some 3 else bif prevB (fun y=>sLt x y||sEq x y) p then some 8 else k
def cpS (l:List ByteArray):Option Int:=rangeP cpB (some 0) none l
/-! changes -/
def ccB (p:Option TreeChange) (x:TreeChange) (k:Option Int):Option Int :=
  bif !isPathB x.Path then some 3 else bif !(decide (1≤x.Kind)&&decide (x.Kind≤4)) then some 4 else bif prevB (fun y=>sLt x.Path y.Path||sEq x.Path y.Path) p then some 8 else k
def ccS (l:List TreeChange):Option Int:=bif decide (1000<(l.length:Int)) then some 2 else rangeP ccB (some 0) none l
theorem within_prog (a b c:Int):trials_within.f a b c=some (decide (b≤a)&&decide (a≤c)):=by
  unfold trials_within.f
  cases decide (b≤a) <;> rfl
/-! is it among them -/
theorem findIdx_any {α:Type} {c:α→Bool} (l:List α):(l.findIdx? c).isSome=l.any c:=List.findIdx?_isSome
theorem less_eq (a b:ByteArray):cmp_Less_string.f a b=some (sLt a b):=by
  unfold cmp_Less_string.f cmp_isNaN_string.f
  rw [sEq_self,sEq_self]
  rfl
theorem bsearch_eq {l:List ByteArray} (h:l.length≤2305843009213693952) (hs:l.Pairwise (fun a b=>sLt a b=true)) (x:ByteArray):∃ i,slices_BinarySearch_string.f l x=some (i,l.any (fun y=>sEq y x)):=by
  unfold slices_BinarySearch_string.f
  have:=bsearch (xs:=l) (c:=fun y=>sLt y x) (E:=fun v=>slices_BinarySearch_string.e1 l x v) (L:=fun k i j=>slices_BinarySearch_string.l2 slices_BinarySearch_string.e1 k l x i j) (p:=placeOf id l x) h (placeOf_le l x) (fun n hn hp=>placeOf_lt (key:=id) l x n hn hp) (fun n hn hp=>placeOf_ge (key:=id) l x hs n hn hp) (fun k i j=>by
    rw [slices_BinarySearch_string.l2]
    simp only [less_eq,Option.bind_some])
  rw [this]
  refine ⟨placeOf id l x,?_⟩
  have hf:=placeOf_found (key:=id) l x hs
  have hle:=placeOf_le (key:=id) l x
  unfold slices_BinarySearch_string.e1
  by_cases hp:placeOf id l x<l.length
  · rw [decide_eq_true (by omega)]
    have hat:at? l ((placeOf id l x:Nat):Int)=some l[placeOf id l x]:=by
      unfold at?
      rw [if_pos (by omega),Int.toNat_natCast,List.getElem?_eq_getElem hp]
    rw [List.getElem?_eq_getElem hp] at hf
    have hf':sEq l[placeOf id l x] x=l.any (fun y=>sEq y x):=hf
    rw [hat]
    simp only [cond_true,Option.bind_some,slices_isNaN_string.f,sEq_self,Bool.not_true,cond_false]
    rw [← hf']
    cases sEq l[placeOf id l x] x <;> rfl
  · rw [decide_eq_false (by omega)]
    rw [List.getElem?_eq_none (by omega)] at hf
    have hf':false=l.any (fun y=>sEq y x):=hf
    rw [← hf']
    rfl
/-! what a test reads -/
def hasB (l:List ByteArray) (s:ByteArray):Bool:=l.any (fun y=>sEq y s)
theorem sEq_comm (a b:ByteArray):sEq a b=sEq b a:=by
  rw [sEq_data,sEq_data]
  exact decide_eq_decide.2 ⟨Eq.symm,Eq.symm⟩
theorem cp_sorted {l:List ByteArray} (h:cpS l=some 0):l.Pairwise (fun a b=>sLt a b=true) :=
  (sorted_of (key:=id) (B:=cpB) (fun p x k hk=>by
    unfold cpB at hk
    cases h1:isPathB x
    · rw [h1] at hk; simp at hk
    · rw [h1] at hk
      cases h2:prevB (fun y=>sLt x y||sEq x y) p
      · rw [h2] at hk
        exact ⟨by simpa using hk,h2⟩
      · rw [h2] at hk; simp at hk) l none h).2.2
theorem inPaths_eq {x:TestReads} (h:x.Paths.length≤2305843009213693952) (hs:x.Paths.Pairwise (fun a b=>sLt a b=true)) (s:ByteArray):trials_CheckReads_1.f s x=some (hasB x.Paths s):=by
  unfold trials_CheckReads_1.f
  obtain ⟨i,hi⟩:=bsearch_eq h hs s
  rw [hi]
  rfl
theorem anyIn_prog {x:TestReads} (h:x.Paths.length≤2305843009213693952) (hl:x.Looked.length≤2305843009213693952) (hs:x.Paths.Pairwise (fun a b=>sLt a b=true)):slices_ContainsFunc_string.f x.Looked x=some (x.Looked.any (hasB x.Paths)):=by
  unfold slices_ContainsFunc_string.f slices_IndexFunc_string.f
  have:=rangeS_all (xs:=x.Looked) (body:=fun v y (s:Unit) f=>bif hasB x.Paths y then some v else f s) (e:=fun _=>some (-1)) (L:=fun k _ v=>slices_IndexFunc_string.l2 slices_IndexFunc_string.e1 k x.Looked x v) (by omega) (fun k _ v=>by
    rw [slices_IndexFunc_string.l2]
    simp only [inPaths_eq h hs,Option.bind_some]
    rfl) ()
  rw [this,findLoop,← findIdx_any]
  cases x.Looked.findIdx? (hasB x.Paths) with
  | none=>rfl
  | some n =>
    show some (decide ((0:Int)≤0+(n:Int)))=some true
    rw [decide_eq_true (by omega)]
def smallR (x:TestReads):Prop:=x.Test.size≤67108864∧smallL x.Paths∧smallL x.Looked
def crB (p:Option TestReads) (x:TestReads) (k:Option Int):Option Int :=
  bif !isPathB x.Test then some 5 else bif decide (1000<(x.Paths.length:Int))||decide (1000<(x.Looked.length:Int)) then some 2 else
    (cpS x.Paths).bind fun y2=>bif y2 != 0 then some y2 else (cpS x.Looked).bind fun y3=>bif y3 != 0 then some y3 else
      bif x.Looked.any (hasB x.Paths) then some 12 else bif prevB (fun y=>sLt x.Test y.Test||sEq x.Test y.Test) p then some 8 else k
def crS (l:List TestReads):Option Int:=bif decide (300<(l.length:Int)) then some 2 else rangeP crB (some 0) none l
def smallRs (l:List TestReads):Prop:=l.length≤1048576∧∀ x∈l,smallR x
theorem orb (a b:Bool):(bif a then (some true) else (some b))=some (a||b):=by cases a <;> rfl
end Go.Proofs.YtkgbgapheigjcaaDoor
