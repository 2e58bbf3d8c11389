/- What tests read, and changes: both sides' checks. -/
import Derived.Test.YtphbcalfmafpoaaDoorPPath
import Derived.Test.YtphbcalfmafpoaaDoorPO
set_option linter.unusedVariables false
namespace Go.Proofs.YtphbcalfmafpoaaDoor
open Go Go.Proofs.YtphbcalfmafpoaaDoor.Kit
/-! lists of paths -/
def smallL (l:List ByteArray):Prop:=l.length≤4194304∧∀ x∈l,x.size≤67108864
def cpB (p:Option ByteArray) (x:ByteArray) (k:Option Int):Option Int :=
  bif !isPathB x then some 3 else bif prevB (fun y=>sLt x y||sEq x y) p then some 8 else k
def cpS (l:List ByteArray):Option Int:=rangeP cpB (some 0) none l
theorem checkPaths_prog {l:List ByteArray} (h:smallL l):trials_checkPaths.f l=cpS l:=by
  have hl:=h.1
  unfold trials_checkPaths.f cpS
  refine rangeP_all (L:=fun k v=>trials_checkPaths.l2 trials_checkPaths.e1 k l v) (by omega) (fun k v h0 h1=>?_)
  simp only [trials_checkPaths.l2]
  congr 1
  refine bind_at (fun x hx=>?_)
  rw [isPath_prog x,prev_eq (P:=fun y=>sLt x y||sEq x y) h0 h1 (by omega)]
  simp only [Option.bind_some]
  rfl
theorem checkPaths_ref {l:List ByteArray} (h:smallL l):smithyardref10_checkPaths.f l=cpS l:=by
  have hl:=h.1
  unfold smithyardref10_checkPaths.f cpS
  refine rangeP_all (L:=fun k v=>smithyardref10_checkPaths.l2 smithyardref10_checkPaths.e1 k l v) (by omega) (fun k v h0 h1=>?_)
  simp only [smithyardref10_checkPaths.l2]
  congr 1
  refine bind_at (fun x hx=>?_)
  rw [isPath_ref (s:=x) (by have:=h.2 x hx; omega),prev_eq (P:=fun y=>sLt x y||sEq x y) h0 h1 (by omega)]
  simp only [Option.bind_some]
  rfl
/-! changes -/
def smallC (l:List TreeChange):Prop:=l.length≤4194304∧∀ x∈l,x.Path.size≤67108864
def ccB (p:Option TreeChange) (x:TreeChange) (k:Option Int):Option Int :=
  bif !isPathB x.Path then some 3 else bif !(decide (1≤x.Kind)&&decide (x.Kind≤4)) then some 4 else bif prevB (fun y=>sLt x.Path y.Path||sEq x.Path y.Path) p then some 8 else k
def ccS (l:List TreeChange):Option Int:=bif decide (1000<(l.length:Int)) then some 2 else rangeP ccB (some 0) none l
theorem within_ref (a b c:Int):smithyardref10_within.f a b c=some (decide (b≤a)&&decide (a≤c)):=by
  unfold smithyardref10_within.f
  cases decide (b≤a) <;> rfl
theorem within_prog (a b c:Int):trials_within.f a b c=some (decide (b≤a)&&decide (a≤c)):=by
  unfold trials_within.f
  cases decide (b≤a) <;> rfl
theorem checkChanges_ref {l:List TreeChange} (h:smallC l):smithyardref10_checkChanges.f l=ccS l:=by
  have hl:=h.1
  unfold smithyardref10_checkChanges.f ccS
  congr 1
  refine rangeP_all (L:=fun k v=>smithyardref10_checkChanges.l2 smithyardref10_checkChanges.e1 k l v) (by omega) (fun k v h0 h1=>?_)
  simp only [smithyardref10_checkChanges.l2]
  congr 1
  refine bind_at (fun x hx=>?_)
  rw [isPath_ref (s:=x.Path) (by have:=h.2 x hx; omega),within_ref,prev_eq (P:=fun y=>sLt x.Path y.Path||sEq x.Path y.Path) h0 h1 (by omega)]
  simp only [Option.bind_some]
  rfl
/-! is it among them -/
theorem findIdx_any {α:Type} {c:α→Bool} (l:List α):(l.findIdx? c).isSome=l.any c:=List.findIdx?_isSome
theorem contains_eq {l:List ByteArray} (h:l.length≤4611686018427387904) (x:ByteArray):slices_Contains_string.f l x=some (l.any (fun y=>sEq x y)):=by
  unfold slices_Contains_string.f slices_Index_string.f
  have:=rangeS_all (xs:=l) (body:=fun v y (s:Unit) f=>bif sEq x y then some v else f s) (e:=fun _=>some (-1)) (L:=fun k _ v=>slices_Index_string.l2 slices_Index_string.e1 k l x v) h (fun k _ v=>by
    rw [slices_Index_string.l2]
    rfl) ()
  rw [this,findLoop,← findIdx_any]
  cases l.findIdx? (fun y=>sEq x y) with
  | none=>rfl
  | some n =>
    show some (decide ((0:Int)≤0+(n:Int)))=some true
    rw [decide_eq_true (by omega)]
theorem less_eq (a b:ByteArray):cmp_Less_string.f a b=some (sLt a b):=by
  unfold cmp_Less_string.f cmp_isNaN_string.f
  rw [sEq_self,sEq_self]
  rfl
theorem bsearch_eq {l:List ByteArray} (h:l.length≤2305843009213693952) (hs:l.Pairwise (fun a b=>sLt a b=true)) (x:ByteArray):∃ i,slices_BinarySearch_string.f l x=some (i,l.any (fun y=>sEq y x)):=by
  unfold slices_BinarySearch_string.f
  have:=bsearch (xs:=l) (c:=fun y=>sLt y x) (E:=fun v=>slices_BinarySearch_string.e1 l x v) (L:=fun k i j=>slices_BinarySearch_string.l2 slices_BinarySearch_string.e1 k l x i j) (p:=placeOf id l x) h (placeOf_le l x) (fun n hn hp=>placeOf_lt (key:=id) l x n hn hp) (fun n hn hp=>placeOf_ge (key:=id) l x hs n hn hp) (fun k i j=>by
    rw [slices_BinarySearch_string.l2]
    simp only [less_eq,Option.bind_some])
  rw [this]
  refine ⟨placeOf id l x,?_⟩
  have hf:=placeOf_found (key:=id) l x hs
  have hle:=placeOf_le (key:=id) l x
  unfold slices_BinarySearch_string.e1
  by_cases hp:placeOf id l x<l.length
  · rw [decide_eq_true (by omega)]
    have hat:at? l ((placeOf id l x:Nat):Int)=some l[placeOf id l x]:=by
      unfold at?
      rw [if_pos (by omega),Int.toNat_natCast,List.getElem?_eq_getElem hp]
    rw [List.getElem?_eq_getElem hp] at hf
    have hf':sEq l[placeOf id l x] x=l.any (fun y=>sEq y x):=hf
    rw [hat]
    simp only [cond_true,Option.bind_some,slices_isNaN_string.f,sEq_self,Bool.not_true,cond_false]
    rw [← hf']
    cases sEq l[placeOf id l x] x <;> rfl
  · rw [decide_eq_false (by omega)]
    rw [List.getElem?_eq_none (by omega)] at hf
    have hf':false=l.any (fun y=>sEq y x):=hf
    rw [← hf']
    rfl
/-! what a test reads -/
def hasB (l:List ByteArray) (s:ByteArray):Bool:=l.any (fun y=>sEq y s)
theorem sEq_comm (a b:ByteArray):sEq a b=sEq b a:=by
  rw [sEq_data,sEq_data]
  exact decide_eq_decide.2 ⟨Eq.symm,Eq.symm⟩
theorem contains_has {l:List ByteArray} (h:l.length≤4611686018427387904) (x:ByteArray):slices_Contains_string.f l x=some (hasB l x):=by
  rw [contains_eq h]
  unfold hasB
  congr 2
  funext y
  exact sEq_comm x y
theorem cp_sorted {l:List ByteArray} (h:cpS l=some 0):l.Pairwise (fun a b=>sLt a b=true) :=
  (sorted_of (key:=id) (B:=cpB) (fun p x k hk=>by
    unfold cpB at hk
    cases h1:isPathB x
    · rw [h1] at hk; simp at hk
    · rw [h1] at hk
      cases h2:prevB (fun y=>sLt x y||sEq x y) p
      · rw [h2] at hk
        exact ⟨by simpa using hk,h2⟩
      · rw [h2] at hk; simp at hk) l none h).2.2
theorem inPaths_eq {x:TestReads} (h:x.Paths.length≤2305843009213693952) (hs:x.Paths.Pairwise (fun a b=>sLt a b=true)) (s:ByteArray):trials_CheckReads_1.f s x=some (hasB x.Paths s):=by
  unfold trials_CheckReads_1.f
  obtain ⟨i,hi⟩:=bsearch_eq h hs s
  rw [hi]
  rfl
theorem anyIn_prog {x:TestReads} (h:x.Paths.length≤2305843009213693952) (hl:x.Looked.length≤2305843009213693952) (hs:x.Paths.Pairwise (fun a b=>sLt a b=true)):slices_ContainsFunc_string.f x.Looked x=some (x.Looked.any (hasB x.Paths)):=by
  unfold slices_ContainsFunc_string.f slices_IndexFunc_string.f
  have:=rangeS_all (xs:=x.Looked) (body:=fun v y (s:Unit) f=>bif hasB x.Paths y then some v else f s) (e:=fun _=>some (-1)) (L:=fun k _ v=>slices_IndexFunc_string.l2 slices_IndexFunc_string.e1 k x.Looked x v) (by omega) (fun k _ v=>by
    rw [slices_IndexFunc_string.l2]
    simp only [inPaths_eq h hs,Option.bind_some]
    rfl) ()
  rw [this,findLoop,← findIdx_any]
  cases x.Looked.findIdx? (hasB x.Paths) with
  | none=>rfl
  | some n =>
    show some (decide ((0:Int)≤0+(n:Int)))=some true
    rw [decide_eq_true (by omega)]
theorem any_range {α β S:Type} {q:α→Bool} {z:Option β} {e:S→Option β} {s:S}:∀ (xs:List α) (i:Int),rangeS (fun _ x s k=>bif q x then z else k s) e i xs s=bif xs.any q then z else e s
  | [],i=>rfl
  | x::xs,i=>by
    rw [rangeS]
    show (bif q x then z else rangeS (fun _ x s k=>bif q x then z else k s) e (i+1) xs s)=_
    rw [any_range xs (i+1)]
    simp only [List.any_cons]
    cases q x <;> rfl
def smallR (x:TestReads):Prop:=x.Test.size≤67108864∧smallL x.Paths∧smallL x.Looked
def crB (p:Option TestReads) (x:TestReads) (k:Option Int):Option Int :=
  bif !isPathB x.Test then some 5 else bif decide (1000<(x.Paths.length:Int))||decide (1000<(x.Looked.length:Int)) then some 2 else
    (cpS x.Paths).bind fun y2=>bif y2 != 0 then some y2 else (cpS x.Looked).bind fun y3=>bif y3 != 0 then some y3 else
      bif x.Looked.any (hasB x.Paths) then some 12 else bif prevB (fun y=>sLt x.Test y.Test||sEq x.Test y.Test) p then some 8 else k
def crS (l:List TestReads):Option Int:=bif decide (300<(l.length:Int)) then some 2 else rangeP crB (some 0) none l
def smallRs (l:List TestReads):Prop:=l.length≤1048576∧∀ x∈l,smallR x
theorem orb (a b:Bool):(bif a then (some true) else (some b))=some (a||b):=by cases a <;> rfl
theorem checkReads_prog {l:List TestReads} (h:smallRs l):trials_CheckReads.f l=crS l:=by
  have hl:=h.1
  unfold trials_CheckReads.f crS
  congr 1
  refine rangeP_all (L:=fun k v=>trials_CheckReads.l2 trials_CheckReads.e1 k l v) (by omega) (fun k v h0 h1=>?_)
  simp only [trials_CheckReads.l2]
  congr 1
  refine bind_at (fun x hx=>?_)
  obtain ⟨ht,hp,hk⟩:=h.2 x hx
  have hp1:=hp.1
  have hk1:=hk.1
  rw [isPath_prog x.Test,orb,checkPaths_prog hp,checkPaths_prog hk,prev_eq (P:=fun y=>sLt x.Test y.Test||sEq x.Test y.Test) h0 h1 (by omega)]
  simp only [Option.bind_some]
  unfold crB
  congr 1
  congr 1
  cases hy:cpS x.Paths with
  | none=>rfl
  | some y2 =>
    simp only [Option.bind_some]
    by_cases h0:y2=0
    · subst h0
      rw [anyIn_prog (by omega) (by omega) (cp_sorted hy)]
      rfl
    · have:(y2 != 0)=true:=by simpa using h0
      rw [this]
      rfl
theorem looked_ref {x:TestReads} (hp:x.Paths.length≤4611686018427387904) (hl:x.Looked.length≤4611686018427387904) (e3:(List TestReads)→Int→TestReads→Option Int) (l:List TestReads) (v:Int) :
    smithyardref10_CheckReads.l4 e3 big l v x 0=bif x.Looked.any (hasB x.Paths) then some 12 else e3 l v x:=by
  have:=rangeS_all (xs:=x.Looked) (body:=fun _ y (s:Unit) f=>bif hasB x.Paths y then some 12 else f s) (e:=fun _=>e3 l v x) (L:=fun k _ w=>smithyardref10_CheckReads.l4 e3 k l v x w) hl (fun k _ w=>by
    rw [smithyardref10_CheckReads.l4]
    simp only [contains_has hp,Option.bind_some]) ()
  rw [this,any_range (q:=hasB x.Paths) (e:=fun _=>e3 l v x)]
theorem checkReads_ref {l:List TestReads} (h:smallRs l):smithyardref10_CheckReads.f l=crS l:=by
  have hl:=h.1
  unfold smithyardref10_CheckReads.f crS
  congr 1
  refine rangeP_all (L:=fun k v=>smithyardref10_CheckReads.l2 smithyardref10_CheckReads.e1 k l v) (by omega) (fun k v h0 h1=>?_)
  simp only [smithyardref10_CheckReads.l2]
  congr 1
  refine bind_at (fun x hx=>?_)
  obtain ⟨ht,hp,hk⟩:=h.2 x hx
  have hp1:=hp.1
  have hk1:=hk.1
  rw [isPath_ref (s:=x.Test) (by omega),orb,checkPaths_ref hp,checkPaths_ref hk,looked_ref (by omega) (by omega)]
  unfold smithyardref10_CheckReads.e3
  rw [prev_eq (P:=fun y=>sLt x.Test y.Test||sEq x.Test y.Test) h0 h1 (by omega)]
  simp only [Option.bind_some]
  rfl
end Go.Proofs.YtphbcalfmafpoaaDoor
