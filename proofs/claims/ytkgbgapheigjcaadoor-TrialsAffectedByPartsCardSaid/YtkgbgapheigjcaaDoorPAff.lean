/- What changes touch: the three maps against the reference's rule. -/
import Derived.Test.YtkgbgapheigjcaaDoorPCh
set_option linter.unusedVariables false
set_option linter.unusedSimpArgs false
namespace Go.Proofs.YtkgbgapheigjcaaDoor
open Go Go.Proofs.YtkgbgapheigjcaaDoor.Kit
theorem putAll_any:∀ (l:List ByteArray) (m:List (ByteArray × Bool)) (s:ByteArray),mgetD (putAll m l) s false=(mgetD m s false||l.any (fun y=>decide (y=s)))
  | [],m,s=>by simp [putAll]
  | k::l,m,s=>by
    have ih:=putAll_any l (mput m k true) s
    unfold putAll at ih ⊢
    rw [List.foldl_cons,ih,mgetD_put,List.any_cons]
    cases decide (k=s) <;> cases mgetD m s false <;> simp
def newB (x:TreeChange):Bool:=!(x.Kind != 1)
theorem maps_hold:∀ (l:List TreeChange) (m:trials_changes) (s:ByteArray),
    mgetD (l.foldl stepC m).other s false=(mgetD m.other s false||l.any (fun x=>!newB x&&decide (x.Path=s)))
    ∧ mgetD (l.foldl stepC m).fresh s false=(mgetD m.fresh s false||l.any (fun x=>newB x&&decide (x.Path=s)))
    ∧ mgetD (l.foldl stepC m).over s false=(mgetD m.over s false||l.any (fun x=>newB x&&(aboveL x.Path).any (fun y=>decide (y=s))))
  | [],m,s=>by simp
  | x::l,m,s=>by
    obtain ⟨h1,h2,h3⟩:=maps_hold l (stepC m x) s
    rw [List.foldl_cons,h1,h2,h3]
    simp only [List.any_cons]
    unfold stepC newB
    cases hk:(x.Kind != 1)
    · simp only [cond_false,Bool.not_false,Bool.not_true,Bool.true_and,Bool.false_and,Bool.false_or]
      rw [mgetD_put,putAll_any]
      refine ⟨trivial,?_,?_⟩
      · cases decide (x.Path=s) <;> cases mgetD m.fresh s false <;> simp
      · rw [Bool.or_assoc]
    · simp only [cond_true,Bool.not_false,Bool.not_true,Bool.true_and,Bool.false_and,Bool.false_or]
      rw [mgetD_put]
      refine ⟨?_,trivial,trivial⟩
      cases decide (x.Path=s) <;> cases mgetD m.other s false <;> simp
def liesB (s p:ByteArray):Bool:=(aboveL s).any (fun y=>decide (y=p))
def touchB (r:TestReads) (c:TreeChange):Bool:=bif !newB c then hasB r.Paths c.Path else r.Looked.any (fun s=>sEq s c.Path||liesB s c.Path||liesB c.Path s)
def affB (l:List TreeChange) (r:TestReads):Bool :=
  r.Paths.any (fun p=>l.any (fun x=>!newB x&&decide (x.Path=p)))||r.Looked.any (fun p=>l.any (fun x=>newB x&&decide (x.Path=p))||l.any (fun x=>newB x&&liesB x.Path p)||(aboveL p).any (fun q=>l.any (fun x=>newB x&&decide (x.Path=q))))
theorem affB_eq (l:List TreeChange) (r:TestReads):affB l r=l.any (touchB r):=by
  rw [Bool.eq_iff_iff]
  unfold affB touchB hasB liesB
  simp only [Bool.or_eq_true,List.any_eq_true,Bool.and_eq_true,decide_eq_true_eq,Bool.not_eq_true']
  constructor
  · rintro (⟨p,hp,x,hx,hn,rfl⟩ | ⟨p,hp,(⟨x,hx,hn,rfl⟩ | ⟨x,hx,hn,y,hy,rfl⟩) | ⟨q,hq,x,hx,hn,rfl⟩⟩)
    · refine ⟨x,hx,?_⟩
      rw [hn]
      simp only [Bool.not_false,cond_true,List.any_eq_true]
      exact ⟨_,hp,sEq_self _⟩
    · refine ⟨x,hx,?_⟩
      rw [hn]
      simp only [Bool.not_true,cond_false,List.any_eq_true,Bool.or_eq_true]
      exact ⟨_,hp,Or.inl (Or.inl (sEq_self _))⟩
    · refine ⟨x,hx,?_⟩
      rw [hn]
      simp only [Bool.not_true,cond_false,List.any_eq_true,Bool.or_eq_true,decide_eq_true_eq]
      exact ⟨_,hp,Or.inr ⟨_,hy,rfl⟩⟩
    · refine ⟨x,hx,?_⟩
      rw [hn]
      simp only [Bool.not_true,cond_false,List.any_eq_true,Bool.or_eq_true,decide_eq_true_eq]
      exact ⟨_,hp,Or.inl (Or.inr ⟨_,hq,rfl⟩)⟩
  · rintro ⟨x,hx,h⟩
    cases hn:newB x
    · rw [hn] at h
      simp only [Bool.not_false,cond_true,List.any_eq_true] at h
      obtain ⟨y,hy,he⟩:=h
      exact Or.inl ⟨y,hy,x,hx,hn,(sEq_iff.1 he).symm⟩
    · rw [hn] at h
      simp only [Bool.not_true,cond_false,List.any_eq_true,Bool.or_eq_true,decide_eq_true_eq] at h
      obtain ⟨s,hs,(h | ⟨y,hy,rfl⟩) | ⟨y,hy,rfl⟩⟩:=h
      · exact Or.inr ⟨s,hs,Or.inl (Or.inl ⟨x,hx,hn,(sEq_iff.1 h).symm⟩)⟩
      · exact Or.inr ⟨s,hs,Or.inr ⟨_,hy,x,hx,hn,rfl⟩⟩
      · exact Or.inr ⟨_,hs,Or.inl (Or.inr ⟨x,hx,hn,_,hy,rfl⟩)⟩
/-! the loops -/
theorem found_eq {α:Type} {c:α→Bool} (l:List α):((some (match l.findIdx? c with | some n=>(0:Int)+n | none => -1)).bind fun y=>some (decide (0≤y)))=some (l.any c):=by
  rw [← findIdx_any]
  cases l.findIdx? c with
  | none=>rfl
  | some n =>
    show some (decide ((0:Int)≤0+(n:Int)))=some true
    rw [decide_eq_true (by omega)]
theorem any2_eq {l:List ByteArray} (h:l.length≤4611686018427387904) (c:trials_changes):slices_ContainsFunc_string_2.f l c=some (l.any (fun p=>mgetD c.other p false)):=by
  unfold slices_ContainsFunc_string_2.f slices_IndexFunc_string_2.f
  have:=rangeS_all (xs:=l) (body:=fun v y (s:Unit) f=>bif mgetD c.other y false then some v else f s) (e:=fun _=>some (-1)) (L:=fun k _ v=>slices_IndexFunc_string_2.l2 slices_IndexFunc_string_2.e1 k l c v) h (fun k _ v=>by
    rw [slices_IndexFunc_string_2.l2]
    rfl) ()
  rw [this,findLoop]
  exact found_eq l
theorem any4_eq {l:List ByteArray} (h:l.length≤4611686018427387904) (c:trials_changes):slices_ContainsFunc_string_4.f l c=some (l.any (fun p=>mgetD c.fresh p false)):=by
  unfold slices_ContainsFunc_string_4.f slices_IndexFunc_string_4.f
  have:=rangeS_all (xs:=l) (body:=fun v y (s:Unit) f=>bif mgetD c.fresh y false then some v else f s) (e:=fun _=>some (-1)) (L:=fun k _ v=>slices_IndexFunc_string_4.l2 slices_IndexFunc_string_4.e1 k l c v) h (fun k _ v=>by
    rw [slices_IndexFunc_string_4.l2]
    rfl) ()
  rw [this,findLoop]
  exact found_eq l
def lookB (c:trials_changes) (p:ByteArray):Bool:=mgetD c.fresh p false||mgetD c.over p false||(aboveL p).any (fun q=>mgetD c.fresh q false)
theorem look_eq {p:ByteArray} (h:p.size≤67108864) (c:trials_changes):trials_changes_affects_2.f p c=some (lookB c p):=by
  have ha:=aboveL_length p
  unfold trials_changes_affects_2.f lookB
  rw [above_eq p (by omega)]
  simp only [Option.bind_some]
  rw [any4_eq (by omega)]
  cases mgetD c.fresh p false <;> cases mgetD c.over p false <;> rfl
theorem any3_eq {l:List ByteArray} (h:smallL l) (c:trials_changes):slices_ContainsFunc_string_3.f l c=some (l.any (lookB c)):=by
  have h1:=h.1
  unfold slices_ContainsFunc_string_3.f slices_IndexFunc_string_3.f
  have:=rangeS_all (xs:=l) (body:=fun v y (s:Unit) f=>bif lookB c y then some v else f s) (e:=fun _=>some (-1)) (L:=fun k _ v=>slices_IndexFunc_string_3.l2 slices_IndexFunc_string_3.e1 k l c v) (by omega) (fun k _ v=>by
    rw [slices_IndexFunc_string_3.l2]
    congr 1
    refine bind_at (fun x hx=>?_)
    rw [look_eq (h.2 x hx)]
    rfl) ()
  rw [this,findLoop]
  exact found_eq l
theorem affects_eq {r:TestReads} (h:smallR r) (l:List TreeChange):trials_changes_affects.f (l.foldl stepC ⟨[],[],[]⟩) r=some (affB l r):=by
  have h1:=h.2.1.1
  unfold trials_changes_affects.f
  rw [any2_eq (by omega),any3_eq h.2.2]
  have e1:(fun p=>mgetD (l.foldl stepC ⟨[],[],[]⟩).other p false)=(fun p=>l.any (fun x=>!newB x&&decide (x.Path=p))):=by
    funext p
    rw [(maps_hold l ⟨[],[],[]⟩ p).1]
    rfl
  have e2:lookB (l.foldl stepC ⟨[],[],[]⟩)=(fun p=>l.any (fun x=>newB x&&decide (x.Path=p))||l.any (fun x=>newB x&&liesB x.Path p)||(aboveL p).any (fun q=>l.any (fun x=>newB x&&decide (x.Path=q)))):=by
    funext p
    have e3:∀ q,mgetD (l.foldl stepC ⟨[],[],[]⟩).fresh q false=l.any (fun x=>newB x&&decide (x.Path=q)):=fun q=>(maps_hold l ⟨[],[],[]⟩ q).2.1
    have e4:∀ q,mgetD (l.foldl stepC ⟨[],[],[]⟩).over q false=l.any (fun x=>newB x&&liesB x.Path q):=fun q=>(maps_hold l ⟨[],[],[]⟩ q).2.2
    unfold lookB
    rw [e3,e4]
    congr 2
    funext q
    exact e3 q
  rw [e1,e2]
  unfold affB
  simp only [Option.bind_some]
  cases r.Paths.any (fun p=>l.any (fun x=>!newB x&&decide (x.Path=p))) <;> rfl
def affS (l:List TestReads) (c:List TreeChange):Option (List ByteArray × Int) :=
  (crS l).bind fun y1=>bif y1 != 0 then some ([],y1) else (ccS c).bind fun y2=>bif y2 != 0 then some ([],y2) else some ((l.filter (affB c)).map (fun x=>x.Test),0)
end Go.Proofs.YtkgbgapheigjcaaDoor
