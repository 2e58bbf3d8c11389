/- Histories, and what is known of a test with a key: on both sides. -/
import Derived.Test.YtgbocahcapinhaaDoorPPath
import Derived.Test.YtgbocahcapinhaaDoorPO
import Derived.Test.YtgbocahcapinhaaDoorPMp
import Derived.KernelRfl
set_option linter.unusedVariables false
set_option linter.unusedSimpArgs false
namespace Go.Proofs.YtgbocahcapinhaaDoor
open Go Go.Proofs.YtgbocahcapinhaaDoor.Kit
def digB (s:ByteArray):Bool:=s.size == 16&&s.data.toList.all (fun b=>([48,49,50,51,52,53,54,55,56,57,97,98,99,100,101,102]:List UInt8).contains b)
theorem sEq_nil (l:List UInt8):sEq (⟨l.toArray⟩:ByteArray) ({ data:=#[] }:ByteArray)=(l == []):=by
  rw [sEq_data]
  cases l <;> simp
theorem digest_prog (s:ByteArray):blob_IsDigest.f s=some (digB s):=by
  unfold blob_IsDigest.f digB
  have e:((s.size:Int) == 16)=(s.size == 16):=by
    rw [Bool.eq_iff_iff]
    simp
    omega
  rw [e]
  cases h:(s.size == 16)
  · rfl
  · have h16:s.size=16:=by simpa using h
    have g:strings_Trim.f s ({ data:=#[48,49,50,51,52,53,54,55,56,57,97,98,99,100,101,102] }:ByteArray)=some (⟨(Lib.trimS s.data.toList [48,49,50,51,52,53,54,55,56,57,97,98,99,100,101,102]).toArray⟩):=by
      unfold strings_Trim.f
      rw [guard?_true (by rw [decide_eq_true (by omega)]; rfl)]
    rw [g]
    simp only [cond_true,Option.bind_some,Bool.true_and]
    rw [sEq_nil,trimS_nil]
theorem within_prog (a b c:Int):trials_within.f a b c=some (inR b c a):=by
  unfold trials_within.f inR
  cases decide (b≤a) <;> rfl
theorem norB (a b:Bool):((some a).bind fun y3=>bif !y3 then some true else ((some b).bind fun y4=>some (!y4)))=some (!(a&&b)):=by cases a <;> cases b <;> rfl
def hisB (p:Option TestRun) (x:TestRun) (k:Option Int):Option Int :=
  bif !isPathB x.Test then some 5 else bif !digB x.Key then some 3 else bif !(inR 0 1000000000 x.At&&inR 0 100000 x.Seconds) then some 1 else bif prevB (fun y=>decide (x.At<y.At)) p then some 8 else k
def hisS (l:List TestRun):Option Int:=bif decide (3000<(l.length:Int)) then some 2 else rangeP hisB (some 0) none l
theorem history_prog {l:List TestRun} (hl:l.length≤4611686018427387904):trials_CheckHistory.f l=hisS l:=by
  unfold trials_CheckHistory.f hisS
  congr 1
  refine rangeP_all (L:=fun k v=>trials_CheckHistory.l2 trials_CheckHistory.e1 k l v) hl (fun k v h0 h1=>?_)
  simp only [trials_CheckHistory.l2]
  congr 1
  refine bind_at (fun x hx=>?_)
  rw [isPath_prog x.Test,digest_prog,within_prog,within_prog,norB,prev_eq (P:=fun y=>decide (x.At<y.At)) h0 h1 hl]
  simp only [Option.bind_some]
  rfl
theorem hisS_some (l:List TestRun):∃ r,hisS l=some r:=by
  unfold hisS
  cases decide (3000<(l.length:Int))
  · refine rangeP_some (fun p x k ⟨r,hk⟩=>?_) ⟨_,rfl⟩ l none
    unfold hisB
    rw [hk]
    cases isPathB x.Test
    · exact ⟨_,rfl⟩
    cases digB x.Key
    · exact ⟨_,rfl⟩
    cases (inR 0 1000000000 x.At&&inR 0 100000 x.Seconds)
    · exact ⟨_,rfl⟩
    cases prevB (fun y=>decide (x.At<y.At)) p <;> exact ⟨_,rfl⟩
  · exact ⟨_,rfl⟩
theorem his_short {l:List TestRun} (h:hisS l=some 0):l.length≤3000:=by
  unfold hisS at h
  by_cases hl:3000<(l.length:Int)
  · rw [decide_eq_true hl] at h
    cases h
  · omega
def askS (l:List TestRun) (test key:ByteArray):Option Int :=
  (hisS l).bind fun y1=>bif y1 != 0 then some y1 else bif !isPathB test then some 5 else bif !digB key then some 3 else some 0
theorem ask_prog {l:List TestRun} (hl:l.length≤4611686018427387904) (test key:ByteArray):trials_checkKey.f l test key=askS l test key:=by
  unfold trials_checkKey.f askS
  rw [history_prog hl,isPath_prog,digest_prog]
  rfl
theorem ask_some (l:List TestRun) (test key:ByteArray):∃ r,askS l test key=some r:=by
  obtain ⟨r,hr⟩:=hisS_some l
  unfold askS
  rw [hr]
  simp only [Option.bind_some]
  cases r != 0
  · cases isPathB test
    · exact ⟨_,rfl⟩
    cases digB key <;> exact ⟨_,rfl⟩
  · exact ⟨_,rfl⟩
theorem ask_zero {l:List TestRun} {test key:ByteArray} (h:askS l test key=some 0):hisS l=some 0∧isPathB test=true∧digB key=true:=by
  obtain ⟨r,hr⟩:=hisS_some l
  unfold askS at h
  rw [hr] at h
  simp only [Option.bind_some] at h
  by_cases h0:r=0
  · subst h0
    simp only [bne_self_eq_false,cond_false] at h
    cases h1:isPathB test
    · rw [h1] at h; cases h
    cases h2:digB key
    · rw [h1,h2] at h; cases h
    · exact ⟨hr,rfl,rfl⟩
  · have:(r != 0)=true:=by simpa using h0
    rw [this] at h
    injection h with h
    exact absurd h h0
/-! tallies -/
def idOf (x:TestRun):trials_id:=⟨x.Test,x.Key⟩
def addT (t:trials_tally) (p:Bool):trials_tally:=bif p then ⟨w64 (t.passed+1),t.failed⟩ else ⟨t.passed,w64 (t.failed+1)⟩
def tstep (m:List (trials_id × trials_tally)) (x:TestRun):List (trials_id × trials_tally):=mput m (idOf x) (addT (mgetD m (idOf x) ⟨0,0⟩) x.Pass)
theorem fold_range {α σ β:Type} {g:σ→α→σ} {e:σ→Option β}:∀ (xs:List α) (i:Int) (s:σ),rangeS (fun _ x s k=>k (g s x)) e i xs s=e (xs.foldl g s)
  | [],i,s=>rfl
  | x::xs,i,s=>by
    rw [rangeS]
    show rangeS (fun _ x s k=>k (g s x)) e (i+1) xs (g s x)=_
    rw [fold_range xs (i+1) (g s x)]
    rfl
theorem tallies_eq {l:List TestRun} (hl:l.length≤4611686018427387904):trials_tallies.f l=some (l.foldl tstep []):=by
  unfold trials_tallies.f
  have:=rangeS_all (xs:=l) (body:=fun _ x (m:List (trials_id × trials_tally)) k=>k (tstep m x)) (e:=fun m=>some m) (L:=fun k m v=>trials_tallies.l2 trials_tallies.e1 k l m v) hl (fun k m v=>by
    simp only [trials_tallies.l2]
    congr 1
    refine bind_at (fun x hx=>?_)
    simp only [Option.bind_some]
    cases h:x.Pass
    · show trials_tallies.l2 trials_tallies.e1 k l _ _=_
      congr 1
      unfold tstep addT idOf
      rw [h]
      rfl
    · show trials_tallies.l2 trials_tallies.e1 k l _ _=_
      congr 1
      unfold tstep addT idOf
      rw [h]
      rfl) []
  rw [this,fold_range]
def cntB (i:trials_id) (b:Bool) (x:TestRun):Bool:=decide (idOf x=i)&&(x.Pass == b)
theorem tally_get:∀ (l:List TestRun) (m:List (trials_id × trials_tally)) (i:trials_id) (p f:Nat),mgetD m i ⟨0,0⟩=⟨(p:Int),(f:Int)⟩→p+f+l.length≤1000000 →
    mgetD (l.foldl tstep m) i ⟨0,0⟩=⟨((p+l.countP (cntB i true):Nat):Int),((f+l.countP (cntB i false):Nat):Int)⟩
  | [],m,i,p,f,h,_=>by simpa using h
  | x::l,m,i,p,f,h,hb=>by
    have hlen:(x::l).length=l.length+1:=rfl
    rw [hlen] at hb
    rw [List.foldl_cons,List.countP_cons,List.countP_cons]
    have hg:∀ k,mgetD (tstep m x) k ⟨0,0⟩=if idOf x=k then addT (mgetD m (idOf x) ⟨0,0⟩) x.Pass else mgetD m k ⟨0,0⟩:=fun k=>by
      unfold tstep mgetD
      rw [mget_put]
      split <;> rfl
    by_cases hi:idOf x=i
    · have hgi:=hg i
      rw [if_pos hi,hi,h] at hgi
      cases hp:x.Pass
      · have e1:cntB i true x=false:=by unfold cntB; rw [hp]; simp
        have e2:cntB i false x=true:=by unfold cntB; rw [hp]; simp [hi]
        rw [hp] at hgi
        have hgi':mgetD (tstep m x) i ⟨0,0⟩=⟨(p:Int),((f+1:Nat):Int)⟩:=by
          rw [hgi]
          show (⟨(p:Int),w64 ((f:Int)+1)⟩:trials_tally)=_
          rw [w64_id (by omega) (by omega)]
          simp
        rw [tally_get l (tstep m x) i p (f+1) hgi' (by omega),e1,e2]
        simp
        omega
      · have e1:cntB i true x=true:=by unfold cntB; rw [hp]; simp [hi]
        have e2:cntB i false x=false:=by unfold cntB; rw [hp]; simp
        rw [hp] at hgi
        have hgi':mgetD (tstep m x) i ⟨0,0⟩=⟨((p+1:Nat):Int),(f:Int)⟩:=by
          rw [hgi]
          show (⟨w64 ((p:Int)+1),(f:Int)⟩:trials_tally)=_
          rw [w64_id (by omega) (by omega)]
          simp
        rw [tally_get l (tstep m x) i (p+1) f hgi' (by omega),e1,e2]
        simp
        omega
    · have hgi:=hg i
      rw [if_neg hi,h] at hgi
      have e1:cntB i true x=false:=by unfold cntB; simp [hi]
      have e2:cntB i false x=false:=by unfold cntB; simp [hi]
      rw [tally_get l (tstep m x) i p f hgi (by omega),e1,e2]
      simp
theorem countP_any {α:Type} {c:α→Bool} (l:List α):(l.countP c=0)↔l.any c=false:=by
  rw [List.countP_eq_zero,List.any_eq_false]
/-! what is known -/
def verB (good bad:Bool):Int:=bif good&&bad then 4 else bif good then 2 else bif bad then 3 else 1
def goodB (l:List TestRun) (test key:ByteArray):Bool:=l.any (cntB ⟨test,key⟩ true)
def badB (l:List TestRun) (test key:ByteArray):Bool:=l.any (cntB ⟨test,key⟩ false)
theorem verdict_of {p f:Nat} (h:p+f≤1000000):trials_tally_verdict.f ⟨(p:Int),(f:Int)⟩=some (verB (!decide (p=0)) (!decide (f=0))):=by
  unfold trials_tally_verdict.f verB
  rw [w64_id (by show (-9223372036854775808:Int)≤(p:Int)+f; omega) (by show (p:Int)+f≤_; omega)]
  by_cases h1:p=0
  · by_cases h2:f=0
    · subst h1 h2; rfl
    · have e1:(((p:Int)+f) == 0)=false:=by rw [beq_eq_false_iff_ne]; omega
      have e2:((f:Int) == 0)=false:=by rw [beq_eq_false_iff_ne]; omega
      show (bif ((p:Int)+f) == 0 then some 1 else bif (f:Int) == 0 then some 2 else bif (p:Int) == 0 then some 3 else some 4)=_
      rw [e1,e2,h1,decide_eq_false h2]
      rfl
  · have e1:(((p:Int)+f) == 0)=false:=by rw [beq_eq_false_iff_ne]; omega
    have e3:((p:Int) == 0)=false:=by rw [beq_eq_false_iff_ne]; omega
    show (bif ((p:Int)+f) == 0 then some 1 else bif (f:Int) == 0 then some 2 else bif (p:Int) == 0 then some 3 else some 4)=_
    by_cases h2:f=0
    · rw [e1,h2,decide_eq_false h1]
      rfl
    · have e2:((f:Int) == 0)=false:=by rw [beq_eq_false_iff_ne]; omega
      rw [e1,e2,e3,decide_eq_false h1,decide_eq_false h2]
      rfl
theorem known_prog {l:List TestRun} (hl:l.length≤3000) (test key:ByteArray):((trials_tallies.f l).bind fun y2=>(some (mgetD y2 (⟨test,key⟩:trials_id) (⟨0,0⟩:trials_tally))).bind fun x1=>(trials_tally_verdict.f x1).bind fun y3=>some (y3,(0:Int)))=some (verB (goodB l test key) (badB l test key),0):=by
  have h1:=List.countP_le_length (p:=cntB ⟨test,key⟩ true) (l:=l)
  have h2:=List.countP_le_length (p:=cntB ⟨test,key⟩ false) (l:=l)
  rw [tallies_eq (by omega)]
  simp only [Option.bind_some]
  rw [tally_get l [] ⟨test,key⟩ 0 0 rfl (by omega),verdict_of (by omega)]
  have e:∀ b,(!decide (0+l.countP (cntB ⟨test,key⟩ b)=0))=l.any (cntB ⟨test,key⟩ b):=fun b=>by
    rw [Nat.zero_add]
    have:=countP_any (c:=cntB ⟨test,key⟩ b) l
    cases hb:l.any (cntB ⟨test,key⟩ b)
    · rw [decide_eq_true (this.2 hb)]; rfl
    · rw [decide_eq_false (fun hh=>by rw [this.1 hh] at hb; cases hb)]; rfl
  rw [e,e]
  rfl
def verS (l:List TestRun) (test key:ByteArray):Option (Int × Int):=(askS l test key).bind fun y1=>bif y1 != 0 then some (0,y1) else some (verB (goodB l test key) (badB l test key),0)
theorem verdict_prog {l:List TestRun} (hl:l.length≤4611686018427387904) (test key:ByteArray):trials_Verdict.f l test key=verS l test key:=by
  unfold trials_Verdict.f verS
  rw [ask_prog hl]
  obtain ⟨r,hr⟩:=ask_some l test key
  rw [hr]
  simp only [Option.bind_some]
  by_cases h0:r=0
  · subst h0
    have:=known_prog (his_short (ask_zero hr).1) test key
    simp only [Option.bind_some] at this
    rw [this]
  · have:(r != 0)=true:=by simpa using h0
    rw [this]
    rfl
end Go.Proofs.YtgbocahcapinhaaDoor
