/- TrialsShardsAreEven over plain data: the longest shard is neither much longer nor shorter than it must be. -/
import Derived.Test.YtdmdimhbcdocdaaDoorPShP
import Derived.Test.YtdmdimhbcdocdaaDoorPureSTrialsShardsAreEven
set_option linter.unusedVariables false
set_option linter.unusedSimpArgs false
namespace Go.Proofs.YtdmdimhbcdocdaaDoor
open Go Go.Proofs.YtdmdimhbcdocdaaDoor.Kit
theorem awake10:smithyardlaw10_awake.f=some true:=by kernel_rfl
theorem sums_fold:∀ (l:List TestCase) (a m:Int),0≤a→(∀ c∈l,0≤c.Seconds∧c.Seconds≤100000)→a+(l.length:Int)*100000≤4611686018427387904 →
    l.foldl (fun (s:Int × Int) c=>(w64 (s.1+c.Seconds),max2 s.2 c.Seconds)) (a,m)=(a+sumZ (l.map (fun c=>c.Seconds)),(l.map (fun c=>c.Seconds)).foldl max2 m)
  | [],a,m,_,_,_=>by simp [sumZ]
  | c::l,a,m,h0,h1,h2=>by
    obtain ⟨b1,b2⟩:=h1 c (by simp)
    simp only [List.length_cons] at h2
    push_cast at h2
    simp only [List.foldl_cons,List.map_cons,sumZ]
    rw [w64_id (by omega) (by omega),sums_fold l (a+c.Seconds) _ (by omega) (fun x hx=>h1 x (by simp [hx])) (by omega)]
    congr 1
    omega
theorem sums_prog {t:Test} (ok:OkT t):smithyardref10_Sums.f t=some (sumZ (t.Cases.map (fun c=>c.Seconds)),(t.Cases.map (fun c=>c.Seconds)).foldl max2 0):=by
  have hl:=ok.len
  unfold smithyardref10_Sums.f
  have e:=rangeS_all (xs:=t.Cases) (S:=Int × Int) (L:=fun k s v=>smithyardref10_Sums.l2 smithyardref10_Sums.e1 k t s.1 s.2 v) (body:=fun _ c s f=>f (w64 (s.1+c.Seconds),max2 s.2 c.Seconds)) (e:=fun s=>some (s.1,s.2)) (by omega) (fun k s v=>by
    simp only [smithyardref10_Sums.l2]
    rfl) (0,0)
  refine e.trans ?_
  rw [fold_rng,sums_fold t.Cases 0 0 (by omega) ok.sec (by omega),Int.zero_add]
theorem TrialsShardsAreEven_pure:TrialsShardsAreEven_Pure:=by
  intro t n ht hn
  have hb:reachBytes≤4611686018427387904:=by decide
  have hs:smallT t:=⟨by have:=ht.2.1; omega,fun x hx=>Nat.le_trans (ht.2.2 x hx).1 hb⟩
  unfold smithyardlaw10_TrialsShardsAreEven.f
  rw [shards_prog hs]
  unfold shardsS
  obtain ⟨f,hf⟩:=tst_some t
  rw [hf]
  simp only [Option.bind_some]
  cases h0:f != 0
  · have hz:f=0:=by simpa using h0
    subst hz
    have ok:=tst_ok hf
    simp only [cond_false]
    cases h1:inR 1 100 n
    · simp only [Bool.not_false,cond_true,Option.bind_some,awake10]
      rfl
    · have hn:1≤n∧n≤100:=by unfold inR at h1; simpa using h1
      obtain ⟨N,rfl⟩:∃ N:Nat,n=(N:Int):=⟨n.toNat,by omega⟩
      have hN:1≤N:=by omega
      obtain ⟨k1,k2⟩:=shard_names (t:=t) hN
      have hmx:=foldmax_ge (t.Cases.map (fun c=>c.Seconds)) 0
      have hmm:=foldmax_mem (t.Cases.map (fun c=>c.Seconds)) 0
      obtain ⟨S,s1,s2,s3,s4,s5⟩:=shard_sums ok hN (most:=(t.Cases.map (fun c=>c.Seconds)).foldl max2 0) (fun c hc=>hmx.2 _ (List.mem_map.2 ⟨c,hc,rfl⟩))
      simp only [Bool.not_true,cond_false,Option.bind_some,bne_self_eq_false,Int.toNat_natCast]
      rw [longest_prog hs hf (by rw [List.length_map,k1]; omega) k2,sums_prog ok,sorted_sums,s1]
      simp only [Option.bind_some]
      obtain ⟨m1,m2⟩:=foldmax_ge S 0
      have m3:=foldmax_mem S 0
      generalize hall:sumZ (t.Cases.map (fun c=>c.Seconds))=all at *
      generalize hmost:(t.Cases.map (fun c=>c.Seconds)).foldl max2 0=most at *
      generalize hlong:S.foldl max2 0=long at *
      have hsec:∀ x∈t.Cases.map (fun c=>c.Seconds),0≤x∧x≤100000:=fun x hx=>by
        obtain ⟨c,hc,rfl⟩:=List.mem_map.1 hx
        exact ok.sec c hc
      have hall1:0≤all∧all≤50000000:=by
        have h1:=sumZ_le (t.Cases.map (fun c=>c.Seconds)) 100000 (fun x hx=>(hsec x hx).2)
        have h2:=sumZ_ge (t.Cases.map (fun c=>c.Seconds)) 0 (fun x hx=>(hsec x hx).1)
        rw [hall] at h1 h2
        have:=ok.len
        rw [List.length_map] at h1 h2
        omega
      have hmost1:0≤most∧most≤100000:=by
        refine ⟨hmx.1,?_⟩
        rcases hmm with h | h
        · omega
        · exact (hsec _ h).2
      have q1:all≤long*(N:Int):=by
        have:=sumZ_le S long m2
        rw [s3,s4] at this
        rw [Int.mul_comm]
        exact this
      have q0:0≤most*(N:Int):=Int.mul_nonneg hmost1.1 (by omega)
      have q2:long*(N:Int)≤all+most*(N:Int):=by
        rcases m3 with h | h
        · rw [h]
          omega
        · have:=s2.up _ h
          rw [s3,s4] at this
          exact this
      have q3:most≤long:=by
        rcases hmm with h | h
        · omega
        · obtain ⟨c,hc,e⟩:=List.mem_map.1 h
          obtain ⟨s,hs1,hs2⟩:=s5 c hc
          have:=m2 s hs1
          omega
      have q4:most*(N:Int)≤100000*100:=by
        have h1:most*(N:Int)≤100000*(N:Int):=Int.mul_le_mul_of_nonneg_right hmost1.2 (by omega)
        omega
      rw [w64_id (n:=long*(N:Int)) (by omega) (by omega),w64_id (n:=most*(N:Int)) (by omega) (by omega),w64_id (n:=all+most*(N:Int)) (by omega) (by omega),decide_eq_true q1,decide_eq_true q2,decide_eq_true q3,List.length_map,k1]
      simp only [beq_self_eq_true,cond_true,awake10,Option.bind_some]
  · simp only [cond_true,Option.bind_some,h0,awake10]
    rfl
end Go.Proofs.YtdmdimhbcdocdaaDoor
