/- Flaky by the reference; Failing on both sides: the same counts, whatever order the tallies come in. -/
import Derived.Test.YtacmmbpamfefbaaDoorPFlk
set_option linter.unusedVariables false
set_option linter.unusedSimpArgs false
namespace Go.Proofs.YtacmmbpamfefbaaDoor
open Go Go.Proofs.YtacmmbpamfefbaaDoor.Kit
theorem ver4 (g b:Bool):(verB g b == 4)=(g&&b):=by cases g <;> cases b <;> rfl
theorem flaky_ref {l:List TestRun} (hl:l.length≤4611686018427387904) (hs:∀ x∈l,x.Test.size≤67108864):smithyardref10_Flaky.f l=flakyS l:=by
  unfold smithyardref10_Flaky.f flakyS
  rw [history_ref hl hs]
  obtain ⟨r,hr⟩:=hisS_some l
  rw [hr]
  simp only [Option.bind_some]
  by_cases h0:r=0
  · subst h0
    have h3:=his_short hr
    simp only [bne_self_eq_false,cond_false]
    have h1:=rangeS_all (xs:=l) (S:=List ByteArray) (L:=fun k s v=>smithyardref10_Flaky.l2 smithyardref10_Flaky.e1 k l s v)
      (body:=fun _ x s f=>bif (goodB l x.Test x.Key&&badB l x.Test x.Key) then guard? (room s.length 1 16) (f (s++[x.Test])) else f s) (e:=smithyardref10_Flaky.e1) hl (fun k s v=>by
        simp only [smithyardref10_Flaky.l2,smithyardref10_Flaky.j3,known_ref hl,Option.bind_some,ver4]) []
    have h2:=filterLoop (c:=fun x:TestRun=>goodB l x.Test x.Key&&badB l x.Test x.Key) (g:=fun x:TestRun=>x.Test) (b:=16) (E:=smithyardref10_Flaky.e1) l 0 [] (by simp; omega)
    refine (h1.trans h2).trans ?_
    rw [List.nil_append]
    have hlen:=List.length_filter_le (fun x:TestRun=>goodB l x.Test x.Key&&badB l x.Test x.Key) l
    have hsc:=sort_compact (l:=(l.filter (fun x=>goodB l x.Test x.Key&&badB l x.Test x.Key)).map (fun x=>x.Test)) (flS_rise l) (fun s=>by
      unfold flS
      rw [sortF_mem]
      unfold flBoth
      rw [setL_mem])
    unfold smithyardref10_Flaky.e1 slices_Sort_string.f
    rw [guard?_true (by rw [List.length_map]; exact decide_eq_true (by omega))]
    simp only [Option.bind_some]
    unfold slices_Compact_string.f
    rw [guard?_true (by rw [List.length_map,List.length_mergeSort,List.length_map,List.length_map]; exact decide_eq_true (by omega))]
    simp only [Option.bind_some]
    rw [hsc]
  · have:(r != 0)=true:=by simpa using h0
    rw [this]
    rfl
/-! sums over the tallies -/
def sumBy {α:Type} (f:α→Nat):List α→Nat
  | []=>0
  | x::l=>f x+sumBy f l
theorem sumBy_perm {α:Type} {f:α→Nat} {l m:List α} (h:l.Perm m):sumBy f l=sumBy f m:=by
  induction h with
  | nil=>rfl
  | cons x _ ih=>simp only [sumBy,ih]
  | swap x y l=>simp only [sumBy]; omega
  | trans _ _ a b=>exact a.trans b
theorem sumBy_map {α β:Type} {f:β→Nat} {g:α→β}:∀ (l:List α),sumBy f (l.map g)=sumBy (fun x=>f (g x)) l
  | []=>rfl
  | x::l=>by rw [List.map_cons,sumBy,sumBy,sumBy_map l]
def partB (P:trials_id→Bool) (b:Bool) (K:List trials_id) (x:TestRun):Bool:=(P (idOf x)&&(x.Pass == b))&&decide (idOf x∈K)
theorem part_cons {P:trials_id→Bool} {b:Bool} {i:trials_id} {K:List trials_id} (h:i ∉ K):∀ (l:List TestRun),(if P i then l.countP (cntB i b) else 0)+l.countP (partB P b K)=l.countP (partB P b (i::K))
  | []=>by simp
  | x::l=>by
    have ih:=part_cons (P:=P) (b:=b) h l
    rw [List.countP_cons,List.countP_cons,List.countP_cons,← ih]
    by_cases hx:idOf x=i
    · have e1:partB P b K x=false:=by unfold partB; rw [hx,decide_eq_false h]; simp
      have e2:partB P b (i::K) x=(P i&&(x.Pass == b)):=by unfold partB; rw [hx,decide_eq_true List.mem_cons_self]; simp
      have e3:cntB i b x=(x.Pass == b):=by unfold cntB; rw [decide_eq_true hx]; simp
      rw [e1,e2,e3]
      cases P i
      · simp
      · cases (x.Pass == b) <;> simp
        omega
    · have e2:partB P b (i::K) x=partB P b K x:=by
        unfold partB
        congr 1
        rw [Bool.eq_iff_iff,decide_eq_true_eq,decide_eq_true_eq,List.mem_cons]
        exact ⟨fun hh=>hh.elim (fun e=>absurd e hx) id,.inr⟩
      have e3:cntB i b x=false:=by unfold cntB; rw [decide_eq_false hx]; simp
      rw [e2,e3]
      cases P i <;> simp <;> omega
theorem count_split (P:trials_id→Bool) (b:Bool) (l:List TestRun):∀ (K:List trials_id),K.Nodup→sumBy (fun i=>if P i then l.countP (cntB i b) else 0) K=l.countP (partB P b K)
  | [],_=>by
    rw [sumBy]
    symm
    rw [List.countP_eq_zero]
    intro x hx
    unfold partB
    simp
  | i::K,h=>by
    obtain ⟨h1,h2⟩:=List.nodup_cons.1 h
    rw [sumBy,count_split P b l K h2,part_cons h1]
theorem tally_keys:∀ (l:List TestRun) (m:List (trials_id × trials_tally)) (x:TestRun),x∈l∨idOf x∈m.map Prod.fst→idOf x∈(l.foldl tstep m).map Prod.fst
  | [],m,x,h=>by
    rcases h with h | h
    · cases h
    · exact h
  | y::l,m,x,h=>by
    refine tally_keys l (tstep m y) x ?_
    rcases h with h | h
    · rcases List.mem_cons.1 h with rfl | h
      · exact .inr ((mem_mput _ _ _ _).2 (.inl rfl))
      · exact .inl h
    · exact .inr ((mem_mput _ _ _ _).2 (.inr h))
theorem tally_sum {l:List TestRun} (P:trials_id→Bool) (b:Bool):sumBy (fun q:trials_id × trials_tally=>if P q.1 then l.countP (cntB q.1 b) else 0) (l.foldl tstep [])=l.countP (fun x=>P (idOf x)&&(x.Pass == b)):=by
  have h1:=sumBy_map (f:=fun i=>if P i then l.countP (cntB i b) else 0) (g:=Prod.fst) (l.foldl tstep [])
  rw [← h1,count_split P b l _ (tally_nodup l [] (by simp))]
  refine List.countP_congr fun x hx=>?_
  unfold partB
  rw [decide_eq_true (tally_keys l [] x (.inl hx))]
  simp
/-! Failing -/
def failP (l:List TestRun) (t:ByteArray) (i:trials_id):Bool:=sEq i.test t&&(verB (goodB l i.test i.key) (badB l i.test i.key) != 3)
def wF (l:List TestRun) (t:ByteArray) (q:trials_id × trials_tally):Nat:=if failP l t q.1 then l.countP (cntB q.1 false) else 0
def wT (l:List TestRun) (t:ByteArray) (q:trials_id × trials_tally):Nat:=if failP l t q.1 then l.countP (cntB q.1 true) else 0
theorem verdict_at {l:List TestRun} (hl:l.length≤3000) {q:trials_id × trials_tally} (h:q.2=⟨((l.countP (cntB q.1 true):Nat):Int),((l.countP (cntB q.1 false):Nat):Int)⟩) :
    trials_tally_verdict.f q.2=some (verB (goodB l q.1.test q.1.key) (badB l q.1.test q.1.key)):=by
  have h1:=List.countP_le_length (p:=cntB q.1 true) (l:=l)
  have h2:=List.countP_le_length (p:=cntB q.1 false) (l:=l)
  rw [h,verdict_of (by omega)]
  have e:∀ b,(!decide (l.countP (cntB q.1 b)=0))=l.any (cntB q.1 b):=fun b=>by
    have:=countP_any (c:=cntB q.1 b) l
    cases hb:l.any (cntB q.1 b)
    · rw [decide_eq_true (this.2 hb)]; rfl
    · rw [decide_eq_false (fun hh=>by rw [this.1 hh] at hb; cases hb)]; rfl
  rw [e,e]
  rfl
theorem failing_loop {l:List TestRun} (hl:l.length≤3000) {t:ByteArray} {y3:List (trials_id × trials_tally)}:∀ (k:Nat) (left:List (trials_id × trials_tally)) (f a:Int),left.length<k →
    (∀ q∈left,q.2=⟨((l.countP (cntB q.1 true):Nat):Int),((l.countP (cntB q.1 false):Nat):Int)⟩)→0≤f→0≤a→f+sumBy (wF l t) left≤1000000→a+(sumBy (wT l t) left+sumBy (wF l t) left:Nat)≤1000000 →
    trials_Failing.l2 trials_Failing.e1 k t y3 f a left=trials_Failing.e1 (f+sumBy (wF l t) left) (a+(sumBy (wT l t) left+sumBy (wF l t) left:Nat))
  | 0,left,f,a,h,_,_,_,_,_=>by omega
  | k+1,left,f,a,h,hq,hf,ha,bf,ba=>by
    rw [trials_Failing.l2]
    refine rangeAll_eq (fun hl=>?_) (fun p hp=>?_)
    · subst hl
      simp [sumBy]
    · have hpm:=splits_perm hp
      have hlen:=hpm.length_eq
      rw [List.length_cons] at hlen
      have hp1:p.1∈left:=hpm.mem_iff.2 (by simp)
      have hp2:∀ q∈p.2,q∈left:=fun q hq=>hpm.mem_iff.2 (by simp [hq])
      have sF:sumBy (wF l t) left=wF l t p.1+sumBy (wF l t) p.2:=sumBy_perm hpm
      have sT:sumBy (wT l t) left=wT l t p.1+sumBy (wT l t) p.2:=sumBy_perm hpm
      have hv:=verdict_at hl (hq p.1 hp1)
      have hc:(bif sEq p.1.1.test t then ((trials_tally_verdict.f p.1.2).bind fun y5=>some (y5 != 3)) else (some false))=some (failP l t p.1.1):=by
        rw [hv]
        unfold failP
        cases sEq p.1.1.test t <;> rfl
      rw [sF,sT] at ba
      rw [sF] at bf
      simp only [hc,Option.bind_some]
      cases hfp:failP l t p.1.1
      · have w0:wF l t p.1=0:=by unfold wF; rw [hfp]; rfl
        have w1:wT l t p.1=0:=by unfold wT; rw [hfp]; rfl
        rw [w0,w1] at ba
        rw [w0] at bf
        simp only [cond_false]
        rw [failing_loop hl k p.2 f a (by omega) (fun q hqq=>hq q (hp2 q hqq)) hf ha (by omega) (by omega),sF,sT,w0,w1,Nat.zero_add,Nat.zero_add]
      · have w0:wF l t p.1=l.countP (cntB p.1.1 false):=by unfold wF; rw [hfp]; rfl
        have w1:wT l t p.1=l.countP (cntB p.1.1 true):=by unfold wT; rw [hfp]; rfl
        rw [w0,w1] at ba
        rw [w0] at bf
        simp only [cond_true]
        have e1:p.1.2.failed=((l.countP (cntB p.1.1 false):Nat):Int):=by rw [hq p.1 hp1]
        have e2:p.1.2.passed=((l.countP (cntB p.1.1 true):Nat):Int):=by rw [hq p.1 hp1]
        rw [e1,e2,w64_id (n:=f+_) (by omega) (by omega),w64_id (n:=a+_) (by omega) (by omega),w64_id (by omega) (by omega)]
        rw [failing_loop hl k p.2 _ _ (by omega) (fun q hqq=>hq q (hp2 q hqq)) (by omega) (by omega) (by omega) (by omega),sF,sT,w0,w1]
        congr 1
        · push_cast; omega
        · push_cast; omega
theorem fail_range {l:List TestRun} {t:ByteArray} {E:Int × Int→Option (Part × Int)}:∀ (xs:List TestRun) (i:Int) (s:Int × Int),0≤s.1→0≤s.2→s.1+xs.length≤1000000→s.2+xs.length≤1000000 →
    rangeS (fun _ x (s:Int × Int) f=>bif !failP l t (idOf x) then f s else bif !x.Pass then f (w64 (s.1+1),w64 (s.2+1)) else f (s.1,w64 (s.2+1))) E i xs s =
      E (s.1+(xs.countP (fun x=>failP l t (idOf x)&&(x.Pass == false)):Nat),s.2+((xs.countP (fun x=>failP l t (idOf x)&&(x.Pass == true)):Nat)+(xs.countP (fun x=>failP l t (idOf x)&&(x.Pass == false)):Nat):Nat))
  | [],i,s,_,_,_,_=>by simp [rangeS]
  | x::xs,i,s,h1,h2,h3,h4=>by
    rw [List.length_cons] at h3 h4
    have c1:=List.countP_le_length (p:=fun x:TestRun=>failP l t (idOf x)&&(x.Pass == false)) (l:=xs)
    rw [rangeS,List.countP_cons,List.countP_cons]
    cases hp:failP l t (idOf x)
    · simp only [Bool.not_false,cond_true,Bool.false_and]
      rw [fail_range xs (i+1) s h1 h2 (by omega) (by omega)]
      simp
    · have a1:w64 (s.1+1)=s.1+1:=w64_id (by omega) (by omega)
      have a2:w64 (s.2+1)=s.2+1:=w64_id (by omega) (by omega)
      simp only [Bool.not_true,cond_false,Bool.true_and,a1,a2]
      cases hx:x.Pass
      · simp only [Bool.not_false,cond_true]
        rw [fail_range xs (i+1) (s.1+1,s.2+1) (by simp only; omega) (by simp only; omega) (by simp only; omega) (by simp only; omega)]
        congr 1
        refine Prod.ext ?_ ?_
        · simp; omega
        · simp; omega
      · simp only [Bool.not_true,cond_false]
        rw [fail_range xs (i+1) (s.1,s.2+1) (by simp only; omega) (by simp only; omega) (by simp only; omega) (by simp only; omega)]
        congr 1
        refine Prod.ext ?_ ?_
        · simp
        · simp; omega
/-! parts -/
theorem part_l2 (a0 a1:Int):∀ (k:Nat) (a b:Int),0≤a→0≤b→smithyardref10_part.l2 smithyardref10_part.e1 k a0 a1 a b=trials_lowest.l2 trials_lowest.e1 k a0 a1 a b
  | 0,_,_,_,_=>rfl
  | k+1,a,b,ha,hb=>by
    rw [smithyardref10_part.l2,trials_lowest.l2]
    by_cases h:b=0
    · subst h
      rfl
    · have e1:decide (0<b)=true:=decide_eq_true (by omega)
      have e2:(b != 0)=true:=by simpa using h
      rw [e1,e2]
      simp only [cond_true]
      rw [part_l2 a0 a1 k b (a.tmod b) hb (Int.tmod_nonneg _ ha)]
theorem lowest_l2 (a0 a1:Int):∀ (k:Nat) (a b:Int),0≤a→0≤b→(a≠0∨b≠0)→b<k→∃ r,trials_lowest.l2 trials_lowest.e1 k a0 a1 a b=some r
  | 0,_,_,_,hb,_,hk=>by omega
  | k+1,a,b,ha,hb,hn,hk=>by
    rw [trials_lowest.l2]
    by_cases h:b=0
    · subst h
      have e:(a != 0)=true:=by
        have:a≠0:=by omega
        simpa using this
      unfold trials_lowest.e1
      rw [e]
      exact ⟨_,rfl⟩
    · have e2:(b != 0)=true:=by simpa using h
      rw [e2]
      simp only [cond_true]
      rw [guard?_true rfl]
      have:=Int.tmod_lt_of_pos a (show 0<b by omega)
      exact lowest_l2 a0 a1 k b (a.tmod b) hb (Int.tmod_nonneg _ ha) (.inl h) (by omega)
def partE (f a:Int):Option (Part × Int):=bif a == 0 then some (⟨0,1⟩,0) else (trials_lowest.f f a).bind fun y=>some (y,0)
theorem partE_some {f a:Int} (hf:0≤f) (ha:0≤a) (hb:a≤1000000):∃ r,partE f a=some r:=by
  unfold partE
  by_cases h:a=0
  · subst h
    exact ⟨_,rfl⟩
  · have e:(a == 0)=false:=by simpa using h
    rw [e]
    obtain ⟨r,hr⟩:=lowest_l2 f a big f a hf ha (.inr h) (by unfold big; omega)
    unfold trials_lowest.f
    rw [hr]
    exact ⟨_,rfl⟩
theorem part_ref {f a:Int} (hf:0≤f) (ha:0≤a):smithyardref10_Failing.e1 f a=partE f a:=by
  unfold smithyardref10_Failing.e1 smithyardref10_part.f partE trials_lowest.f
  by_cases h:a=0
  · subst h
    rfl
  · have e:(a == 0)=false:=by simpa using h
    rw [e]
    simp only [cond_false]
    rw [part_l2 f a big f a hf ha]
def failS (l:List TestRun) (t:ByteArray):Option (Part × Int) :=
  (hisS l).bind fun y=>bif y != 0 then some (⟨0,0⟩,y) else bif !isPathB t then some (⟨0,0⟩,5) else
  partE (l.countP (fun x=>failP l t (idOf x)&&(x.Pass == false)):Nat) ((l.countP (fun x=>failP l t (idOf x)&&(x.Pass == true)):Nat)+(l.countP (fun x=>failP l t (idOf x)&&(x.Pass == false)):Nat):Nat)
theorem countP_two {α:Type} {p q:α→Bool} (h:∀ x,(p x&&q x)=false):∀ (l:List α),l.countP p+l.countP q≤l.length
  | []=>by simp
  | x::l=>by
    have ih:=countP_two h l
    have hx:=h x
    rw [List.countP_cons,List.countP_cons,List.length_cons]
    cases hp:p x <;> cases hq:q x <;> rw [hp,hq] at hx <;> simp at hx ⊢ <;> omega
theorem fail_two (l:List TestRun) (t:ByteArray):l.countP (fun x=>failP l t (idOf x)&&(x.Pass == true))+l.countP (fun x=>failP l t (idOf x)&&(x.Pass == false))≤l.length :=
  countP_two (fun x=>by cases failP l t (idOf x) <;> cases x.Pass <;> rfl) l
theorem failS_some (l:List TestRun) (t:ByteArray):∃ r,failS l t=some r:=by
  obtain ⟨r,hr⟩:=hisS_some l
  unfold failS
  rw [hr]
  simp only [Option.bind_some]
  by_cases h0:r=0
  · subst h0
    have h3:=his_short hr
    have h2:=fail_two l t
    simp only [bne_self_eq_false,cond_false]
    cases isPathB t
    · exact ⟨_,rfl⟩
    · exact partE_some (by omega) (by omega) (by omega)
  · have:(r != 0)=true:=by simpa using h0
    rw [this]
    exact ⟨_,rfl⟩
theorem failing_prog {l:List TestRun} (hl:l.length≤4611686018427387904) (t:ByteArray):trials_Failing.f l t=failS l t:=by
  unfold trials_Failing.f failS
  rw [history_prog hl,isPath_prog]
  obtain ⟨r,hr⟩:=hisS_some l
  rw [hr]
  simp only [Option.bind_some]
  by_cases h0:r=0
  · subst h0
    have h3:=his_short hr
    have h2:=fail_two l t
    simp only [bne_self_eq_false,cond_false]
    cases isPathB t
    · rfl
    · simp only [Bool.not_true,cond_false]
      rw [tallies_eq hl]
      simp only [Option.bind_some]
      have sF:sumBy (wF l t) (l.foldl tstep [])=_:=tally_sum (failP l t) false
      have sT:sumBy (wT l t) (l.foldl tstep [])=_:=tally_sum (failP l t) true
      have hlen:=tally_len l []
      simp only [List.length_nil] at hlen
      have hbig:l.length<big:=by unfold big; omega
      rw [failing_loop h3 big (l.foldl tstep []) 0 0 (by omega) (fun q hq=>tally_mem h3 hq) (by omega) (by omega) (by rw [sF]; omega) (by rw [sF,sT]; omega),sF,sT,Int.zero_add,Int.zero_add]
      rfl
  · have:(r != 0)=true:=by simpa using h0
    rw [this]
    rfl
theorem failing_ref {l:List TestRun} (hl:l.length≤4611686018427387904) (hs:∀ x∈l,x.Test.size≤67108864) {t:ByteArray} (ht:t.size≤67108864):smithyardref10_Failing.f l t=failS l t:=by
  unfold smithyardref10_Failing.f failS
  rw [history_ref hl hs,isPath_ref (by omega)]
  obtain ⟨r,hr⟩:=hisS_some l
  rw [hr]
  simp only [Option.bind_some]
  by_cases h0:r=0
  · subst h0
    have h3:=his_short hr
    simp only [bne_self_eq_false,cond_false]
    cases isPathB t
    · rfl
    · simp only [Bool.not_true,cond_false]
      have h1:=rangeS_all (xs:=l) (S:=Int × Int) (L:=fun k s v=>smithyardref10_Failing.l2 smithyardref10_Failing.e1 k l t s.1 s.2 v)
        (body:=fun _ x (s:Int × Int) f=>bif !failP l t (idOf x) then f s else bif !x.Pass then f (w64 (s.1+1),w64 (s.2+1)) else f (s.1,w64 (s.2+1))) (e:=fun s=>smithyardref10_Failing.e1 s.1 s.2) hl (fun k s v=>by
          simp only [smithyardref10_Failing.l2,smithyardref10_Failing.j3]
          congr 1
          refine bind_at (fun x hx=>?_)
          have hc:(bif !sEq x.Test t then (some true) else ((smithyardref10_verdict.f l t x.Key).bind fun y4=>some (y4 == 3)))=some (!failP l t (idOf x)):=by
            rw [known_ref hl]
            unfold failP idOf
            cases he:sEq x.Test t
            · rfl
            · have:x.Test=t:=sEq_iff.1 he
              rw [← this]
              simp only [Bool.not_true,cond_false,Option.bind_some,Bool.true_and]
              generalize verB (goodB l x.Test x.Key) (badB l x.Test x.Key)=w
              rw [bne,Bool.not_not]
          rw [hc]
          simp only [Option.bind_some]) (0,0)
      refine (show smithyardref10_Failing.l2 smithyardref10_Failing.e1 big l t 0 0 0=_ from h1).trans ?_
      rw [fail_range l 0 (0,0) (by simp) (by simp) (by simp; omega) (by simp; omega),part_ref (by simp only; omega) (by simp only; omega)]
      simp only [Int.zero_add]
  · have:(r != 0)=true:=by simpa using h0
    rw [this]
    rfl
end Go.Proofs.YtacmmbpamfefbaaDoor
