/- What is known of a test with a key: on both sides. -/
import Derived.Test.YtacmmbpamfefbaaDoorPHis
import Derived.Test.YtacmmbpamfefbaaDoorPMp
set_option linter.unusedVariables false
set_option linter.unusedSimpArgs false
namespace Go.Proofs.YtacmmbpamfefbaaDoor
open Go Go.Proofs.YtacmmbpamfefbaaDoor.Kit
/-! tallies -/
def idOf (x:TestRun):trials_id:=⟨x.Test,x.Key⟩
def addT (t:trials_tally) (p:Bool):trials_tally:=bif p then ⟨w64 (t.passed+1),t.failed⟩ else ⟨t.passed,w64 (t.failed+1)⟩
def tstep (m:List (trials_id × trials_tally)) (x:TestRun):List (trials_id × trials_tally):=mput m (idOf x) (addT (mgetD m (idOf x) ⟨0,0⟩) x.Pass)
theorem fold_range {α σ β:Type} {g:σ→α→σ} {e:σ→Option β}:∀ (xs:List α) (i:Int) (s:σ),rangeS (fun _ x s k=>k (g s x)) e i xs s=e (xs.foldl g s)
  | [],i,s=>rfl
  | x::xs,i,s=>by
    rw [rangeS]
    show rangeS (fun _ x s k=>k (g s x)) e (i+1) xs (g s x)=_
    rw [fold_range xs (i+1) (g s x)]
    rfl
theorem tallies_eq {l:List TestRun} (hl:l.length≤4611686018427387904):trials_tallies.f l=some (l.foldl tstep []):=by
  unfold trials_tallies.f
  have:=rangeS_all (xs:=l) (body:=fun _ x (m:List (trials_id × trials_tally)) k=>k (tstep m x)) (e:=fun m=>some m) (L:=fun k m v=>trials_tallies.l2 trials_tallies.e1 k l m v) hl (fun k m v=>by
    simp only [trials_tallies.l2]
    congr 1
    refine bind_at (fun x hx=>?_)
    simp only [Option.bind_some]
    cases h:x.Pass
    · show trials_tallies.l2 trials_tallies.e1 k l _ _=_
      congr 1
      unfold tstep addT idOf
      rw [h]
      rfl
    · show trials_tallies.l2 trials_tallies.e1 k l _ _=_
      congr 1
      unfold tstep addT idOf
      rw [h]
      rfl) []
  rw [this,fold_range]
def cntB (i:trials_id) (b:Bool) (x:TestRun):Bool:=decide (idOf x=i)&&(x.Pass == b)
theorem tally_get:∀ (l:List TestRun) (m:List (trials_id × trials_tally)) (i:trials_id) (p f:Nat),mgetD m i ⟨0,0⟩=⟨(p:Int),(f:Int)⟩→p+f+l.length≤1000000 →
    mgetD (l.foldl tstep m) i ⟨0,0⟩=⟨((p+l.countP (cntB i true):Nat):Int),((f+l.countP (cntB i false):Nat):Int)⟩
  | [],m,i,p,f,h,_=>by simpa using h
  | x::l,m,i,p,f,h,hb=>by
    have hlen:(x::l).length=l.length+1:=rfl
    rw [hlen] at hb
    rw [List.foldl_cons,List.countP_cons,List.countP_cons]
    have hg:∀ k,mgetD (tstep m x) k ⟨0,0⟩=if idOf x=k then addT (mgetD m (idOf x) ⟨0,0⟩) x.Pass else mgetD m k ⟨0,0⟩:=fun k=>by
      unfold tstep mgetD
      rw [mget_put]
      split <;> rfl
    by_cases hi:idOf x=i
    · have hgi:=hg i
      rw [if_pos hi,hi,h] at hgi
      cases hp:x.Pass
      · have e1:cntB i true x=false:=by unfold cntB; rw [hp]; simp
        have e2:cntB i false x=true:=by unfold cntB; rw [hp]; simp [hi]
        rw [hp] at hgi
        have hgi':mgetD (tstep m x) i ⟨0,0⟩=⟨(p:Int),((f+1:Nat):Int)⟩:=by
          rw [hgi]
          show (⟨(p:Int),w64 ((f:Int)+1)⟩:trials_tally)=_
          rw [w64_id (by omega) (by omega)]
          simp
        rw [tally_get l (tstep m x) i p (f+1) hgi' (by omega),e1,e2]
        simp
        omega
      · have e1:cntB i true x=true:=by unfold cntB; rw [hp]; simp [hi]
        have e2:cntB i false x=false:=by unfold cntB; rw [hp]; simp
        rw [hp] at hgi
        have hgi':mgetD (tstep m x) i ⟨0,0⟩=⟨((p+1:Nat):Int),(f:Int)⟩:=by
          rw [hgi]
          show (⟨w64 ((p:Int)+1),(f:Int)⟩:trials_tally)=_
          rw [w64_id (by omega) (by omega)]
          simp
        rw [tally_get l (tstep m x) i (p+1) f hgi' (by omega),e1,e2]
        simp
        omega
    · have hgi:=hg i
      rw [if_neg hi,h] at hgi
      have e1:cntB i true x=false:=by unfold cntB; simp [hi]
      have e2:cntB i false x=false:=by unfold cntB; simp [hi]
      rw [tally_get l (tstep m x) i p f hgi (by omega),e1,e2]
      simp
theorem countP_any {α:Type} {c:α→Bool} (l:List α):(l.countP c=0)↔l.any c=false:=by
  rw [List.countP_eq_zero,List.any_eq_false]
/-! what is known -/
def verB (good bad:Bool):Int:=bif good&&bad then 4 else bif good then 2 else bif bad then 3 else 1
def goodB (l:List TestRun) (test key:ByteArray):Bool:=l.any (cntB ⟨test,key⟩ true)
def badB (l:List TestRun) (test key:ByteArray):Bool:=l.any (cntB ⟨test,key⟩ false)
theorem verdict_of {p f:Nat} (h:p+f≤1000000):trials_tally_verdict.f ⟨(p:Int),(f:Int)⟩=some (verB (!decide (p=0)) (!decide (f=0))):=by
  unfold trials_tally_verdict.f verB
  rw [w64_id (by show (-9223372036854775808:Int)≤(p:Int)+f; omega) (by show (p:Int)+f≤_; omega)]
  by_cases h1:p=0
  · by_cases h2:f=0
    · subst h1 h2; rfl
    · have e1:(((p:Int)+f) == 0)=false:=by rw [beq_eq_false_iff_ne]; omega
      have e2:((f:Int) == 0)=false:=by rw [beq_eq_false_iff_ne]; omega
      show (bif ((p:Int)+f) == 0 then some 1 else bif (f:Int) == 0 then some 2 else bif (p:Int) == 0 then some 3 else some 4)=_
      rw [e1,e2,h1,decide_eq_false h2]
      rfl
  · have e1:(((p:Int)+f) == 0)=false:=by rw [beq_eq_false_iff_ne]; omega
    have e3:((p:Int) == 0)=false:=by rw [beq_eq_false_iff_ne]; omega
    show (bif ((p:Int)+f) == 0 then some 1 else bif (f:Int) == 0 then some 2 else bif (p:Int) == 0 then some 3 else some 4)=_
    by_cases h2:f=0
    · rw [e1,h2,decide_eq_false h1]
      rfl
    · have e2:((f:Int) == 0)=false:=by rw [beq_eq_false_iff_ne]; omega
      rw [e1,e2,e3,decide_eq_false h1,decide_eq_false h2]
      rfl
theorem flags_range {test key:ByteArray}:∀ (l:List TestRun) (i:Int) (s:Bool × Bool),rangeS (fun _ x (s:Bool × Bool) k=>k (s.1||cntB ⟨test,key⟩ true x,s.2||cntB ⟨test,key⟩ false x)) (fun s=>some (verB s.1 s.2)) i l s=some (verB (s.1||goodB l test key) (s.2||badB l test key))
  | [],i,s=>by simp [rangeS,goodB,badB]
  | x::l,i,s=>by
    rw [rangeS]
    show rangeS (fun _ x (s:Bool × Bool) k=>k (s.1||cntB ⟨test,key⟩ true x,s.2||cntB ⟨test,key⟩ false x)) (fun s=>some (verB s.1 s.2)) (i+1) l (s.1||cntB ⟨test,key⟩ true x,s.2||cntB ⟨test,key⟩ false x)=_
    rw [flags_range l (i+1)]
    unfold goodB badB
    simp only [List.any_cons,Bool.or_assoc]
theorem sEq_dec (a b:ByteArray):sEq a b=decide (a=b):=by
  rw [Bool.eq_iff_iff,sEq_iff,decide_eq_true_eq]
theorem known_ref {l:List TestRun} (hl:l.length≤4611686018427387904) (test key:ByteArray):smithyardref10_verdict.f l test key=some (verB (goodB l test key) (badB l test key)):=by
  unfold smithyardref10_verdict.f
  have:=rangeS_all (xs:=l) (body:=fun _ x (s:Bool × Bool) k=>k (s.1||cntB ⟨test,key⟩ true x,s.2||cntB ⟨test,key⟩ false x)) (e:=fun s=>some (verB s.1 s.2)) (L:=fun k (s:Bool × Bool) v=>smithyardref10_verdict.l2 smithyardref10_verdict.e1 k l test key s.1 s.2 v) hl (fun k s v=>by
    simp only [smithyardref10_verdict.l2]
    have he:smithyardref10_verdict.e1 s.1 s.2=some (verB s.1 s.2):=by
      unfold smithyardref10_verdict.e1 verB
      cases s.1 <;> cases s.2 <;> rfl
    rw [he]
    congr 1
    refine bind_at (fun x hx=>?_)
    have e1:cntB ⟨test,key⟩ true x=((sEq x.Test test&&sEq x.Key key)&&x.Pass):=by
      unfold cntB idOf
      rw [sEq_dec,sEq_dec]
      cases x.Pass <;> simp
    have e2:cntB ⟨test,key⟩ false x=((sEq x.Test test&&sEq x.Key key)&&!x.Pass):=by
      unfold cntB idOf
      rw [sEq_dec,sEq_dec]
      cases x.Pass <;> simp
    rw [e1,e2]
    cases sEq x.Test test
    · simp [smithyardref10_verdict.j3]
    cases sEq x.Key key
    · simp [smithyardref10_verdict.j3]
    obtain ⟨a,b⟩:=s
    cases a <;> cases b <;> cases x.Pass <;> rfl) (false,false)
  refine this.trans ?_
  rw [flags_range]
  simp
end Go.Proofs.YtacmmbpamfefbaaDoor
