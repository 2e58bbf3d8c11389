/- Flaky: the tests with a key that passed and failed, sorted; in whatever order the entries of the maps come. -/
import Derived.Test.YtacmmbpamfefbaaDoorPVd
import Derived.Test.YtacmmbpamfefbaaDoorPSrt
set_option linter.unusedVariables false
set_option linter.unusedSimpArgs false
namespace Go.Proofs.YtacmmbpamfefbaaDoor
open Go Go.Proofs.YtacmmbpamfefbaaDoor.Kit
/-! maps as sets -/
theorem mem_mput {κ ν:Type} [DecidableEq κ]:∀ (m:List (κ × ν)) (k:κ) (v:ν) (s:κ),s∈(mput m k v).map Prod.fst↔s=k∨s∈m.map Prod.fst
  | [],k,v,s=>by simp [mput]
  | q::m,k,v,s=>by
    by_cases h:q.1=k
    · rw [mput,if_pos h,List.map_cons,List.map_cons,List.mem_cons,List.mem_cons,h]
      exact ⟨fun h=>h.imp id .inr,fun h=>h.elim .inl id⟩
    · rw [mput,if_neg h,List.map_cons,List.map_cons,List.mem_cons,List.mem_cons,mem_mput m k v s]
      exact ⟨fun h=>h.elim (fun a=>.inr (.inl a)) (fun b=>b.imp id .inr),fun h=>h.elim (fun a=>.inr (.inl a)) (fun b=>b.imp id .inr)⟩
theorem nodup_mput {κ ν:Type} [DecidableEq κ]:∀ (m:List (κ × ν)) (k:κ) (v:ν),(m.map Prod.fst).Nodup→((mput m k v).map Prod.fst).Nodup
  | [],k,v,_=>by simp [mput]
  | q::m,k,v,h=>by
    rw [List.map_cons] at h
    obtain ⟨h1,h2⟩:=List.nodup_cons.1 h
    by_cases e:q.1=k
    · rw [mput,if_pos e,List.map_cons]
      exact List.nodup_cons.2 ⟨by rw [← e]; exact h1,h2⟩
    · rw [mput,if_neg e,List.map_cons]
      refine List.nodup_cons.2 ⟨fun hm=>?_,nodup_mput m k v h2⟩
      rcases (mem_mput m k v q.1).1 hm with a | a
      · exact e a
      · exact h1 a
theorem len_mput {κ ν:Type} [DecidableEq κ]:∀ (m:List (κ × ν)) (k:κ) (v:ν),(mput m k v).length≤m.length+1
  | [],k,v=>by simp [mput]
  | q::m,k,v=>by
    by_cases e:q.1=k
    · rw [mput,if_pos e]; simp
    · rw [mput,if_neg e]
      have:=len_mput m k v
      simp only [List.length_cons]
      omega
theorem mget_mem {κ ν:Type} [DecidableEq κ]:∀ {m:List (κ × ν)} {q:κ × ν},(m.map Prod.fst).Nodup→q∈m→mget m q.1=some q.2
  | [],_,_,h=>by cases h
  | p::m,q,hn,h=>by
    rw [List.map_cons] at hn
    obtain ⟨h1,h2⟩:=List.nodup_cons.1 hn
    rw [mget]
    rcases List.mem_cons.1 h with rfl | h
    · rw [if_pos rfl]
    · rw [if_neg (fun e=>h1 (by rw [e]; exact List.mem_map.2 ⟨q,h,rfl⟩)),mget_mem h2 h]
theorem mem_mget {κ ν:Type} [DecidableEq κ]:∀ {m:List (κ × ν)} {k:κ} {v:ν},mget m k=some v→(k,v)∈m
  | [],_,_,h=>by cases h
  | p::m,k,v,h=>by
    rw [mget] at h
    split at h
    · rename_i e
      obtain rfl:=Option.some.inj h
      subst e
      exact List.mem_cons_self
    · exact List.mem_cons_of_mem _ (mem_mget h)
theorem splits_perm {α:Type}:∀ {l:List α} {p:α × List α},p∈splits l→l.Perm (p.1::p.2)
  | [],p,h=>by cases h
  | x::l,p,h=>by
    rcases List.mem_cons.1 h with rfl | h
    · exact List.Perm.refl _
    · obtain ⟨q,hq,rfl⟩:=List.mem_map.1 h
      exact ((splits_perm hq).cons x).trans (List.Perm.swap _ _ _)
def setL (xs:List ByteArray):List ByteArray:=(xs.foldl (fun m t=>mput m t true) ([]:List (ByteArray × Bool))).map Prod.fst
theorem setL_aux:∀ (xs:List ByteArray) (m:List (ByteArray × Bool)),(m.map Prod.fst).Nodup→((xs.foldl (fun m t=>mput m t true) m).map Prod.fst).Nodup∧(∀ s,s∈(xs.foldl (fun m t=>mput m t true) m).map Prod.fst↔s∈xs∨s∈m.map Prod.fst)∧(xs.foldl (fun m t=>mput m t true) m).length≤xs.length+m.length
  | [],m,h=>⟨h,fun s=>by simp,by simp⟩
  | x::xs,m,h=>by
    obtain ⟨h1,h2,h3⟩:=setL_aux xs (mput m x true) (nodup_mput m x true h)
    have h4:=len_mput m x true
    refine ⟨h1,fun s=>?_,by rw [List.foldl_cons,List.length_cons]; omega⟩
    rw [List.foldl_cons,h2,mem_mput,List.mem_cons]
    exact ⟨fun h=>h.elim (fun a=>.inl (.inr a)) (fun b=>b.elim (fun c=>.inl (.inl c)) .inr),fun h=>h.elim (fun a=>a.elim (fun c=>.inr (.inl c)) .inl) (fun b=>.inr (.inr b))⟩
theorem setL_nodup (xs:List ByteArray):(setL xs).Nodup:=(setL_aux xs [] (by simp)).1
theorem setL_mem (xs:List ByteArray) (s:ByteArray):s∈setL xs↔s∈xs:=by
  have:=(setL_aux xs [] (by simp)).2.1 s
  unfold setL
  rw [this]
  simp
theorem setL_len (xs:List ByteArray):(setL xs).length≤xs.length:=by
  have:=(setL_aux xs [] (by simp)).2.2
  unfold setL
  rw [List.length_map]
  simpa using this
/-! sorted -/
def sortF (l:List ByteArray):List ByteArray:=((l.map (fun s=>s.data.toList)).mergeSort fun x y=>decide (x≤y)).map fun l=>(⟨l.toArray⟩:ByteArray)
theorem sort_strict {l:List (List UInt8)} (hn:l.Nodup):(l.mergeSort fun x y=>decide (x≤y)).Pairwise bl:=by
  have h1:=sorted_le l
  have h2:(l.mergeSort fun x y=>decide (x≤y)).Nodup:=(List.mergeSort_perm l _).nodup_iff.2 hn
  exact (h1.and h2).imp fun {a b} h=>bless_total b a h.1 (fun e=>h.2 e.symm)
theorem data_nodup {l:List ByteArray} (hn:l.Nodup):(l.map (fun s=>s.data.toList)).Nodup :=
  List.pairwise_map.2 (hn.imp fun {a b} hne he=>hne (by cases a; cases b; simp at he; exact congrArg _ he))
theorem sortF_mem (l:List ByteArray) (s:ByteArray):s∈sortF l↔s∈l:=by
  unfold sortF
  simp only [List.mem_map,List.mem_mergeSort]
  constructor
  · rintro ⟨a,⟨b,hb,rfl⟩,rfl⟩
    exact hb
  · exact fun h=>⟨s.data.toList,⟨s,h,rfl⟩,rfl⟩
theorem sortF_rise {l:List ByteArray} (hn:l.Nodup):(sortF l).Pairwise (fun a b=>sLt a b=true):=by
  unfold sortF
  rw [List.pairwise_map]
  refine (sort_strict (data_nodup hn)).imp fun {a b} h=>?_
  rw [sLt_data]
  exact h
theorem sortF_eq {l m:List ByteArray} (hl:l.Nodup) (hm:m.Nodup) (h:∀ x,x∈l↔x∈m):sortF l=sortF m:=by
  unfold sortF
  congr 1
  refine strict_ext (sort_strict (data_nodup hl)) (sort_strict (data_nodup hm)) fun x=>?_
  rw [List.mem_mergeSort,List.mem_mergeSort]
  simp only [List.mem_map,h]
theorem keysB_some {ν:Type} {m:List (ByteArray × ν)} (h1:m.length≤1000000) (h2:∀ p∈m,p.1.size≤4611686018427387904) (h3:(m.map Prod.fst).Nodup):keysB m=some (sortF (m.map Prod.fst)):=by
  unfold keysB
  rw [guard?_true (by
    simp only [Bool.and_eq_true,decide_eq_true_eq,List.all_eq_true]
    exact ⟨by omega,fun p hp=>h2 p hp,h3⟩)]
  rfl
/-! tallies -/
def flakyT (t:trials_tally):Bool:=decide (0<t.passed)&&decide (0<t.failed)
def natT (t:trials_tally):Prop:=∃ p f:Nat,t=⟨(p:Int),(f:Int)⟩∧p+f≤1000000
theorem verdict_flaky {t:trials_tally} (h:natT t):∃ v,trials_tally_verdict.f t=some v∧(v == 4)=flakyT t:=by
  obtain ⟨p,f,rfl,h⟩:=h
  refine ⟨_,verdict_of h,?_⟩
  unfold verB flakyT
  by_cases hp:p=0
  · subst hp
    by_cases hf:f=0
    · subst hf; rfl
    · rw [decide_eq_false hf]; rfl
  · by_cases hf:f=0
    · subst hf
      rw [decide_eq_false hp]
      simp
    · rw [decide_eq_false hp,decide_eq_false hf,decide_eq_true (show (0:Int)<(p:Int) by omega),decide_eq_true (show (0:Int)<(f:Int) by omega)]
      rfl
theorem flaky_loop {y2:List (trials_id × trials_tally)} {T:List ByteArray} (hT:T.Nodup) (hs:∀ s∈T,s.size≤4611686018427387904) (hTl:T.length≤1000000):∀ (k:Nat) (left:List (trials_id × trials_tally)) (is:List (ByteArray × Bool)),
    left.length<k→(∀ q∈left,natT q.2)→(is.map Prod.fst).Nodup→(∀ s,(s∈is.map Prod.fst∨∃ q∈left,flakyT q.2=true∧q.1.test=s)↔s∈T) →
    trials_Flaky.l2 trials_Flaky.e1 k y2 is left=some (sortF T,0)
  | 0,left,is,h,_,_,_=>by omega
  | k+1,left,is,h,hN,hD,hM=>by
    rw [trials_Flaky.l2]
    refine rangeAll_eq (fun hl=>?_) (fun p hp=>?_)
    · subst hl
      have hM':∀ s,s∈is.map Prod.fst↔s∈T:=fun s=>by rw [← hM s]; simp
      have hlen:is.length≤1000000:=by
        have:=((List.perm_ext_iff_of_nodup hD hT).2 hM').length_eq
        rw [List.length_map] at this
        omega
      unfold trials_Flaky.e1
      rw [keysB_some hlen (fun p hp=>hs _ ((hM' _).1 (List.mem_map.2 ⟨p,hp,rfl⟩))) hD,sortF_eq hD hT hM']
      rfl
    · have hpm:=splits_perm hp
      have hlen:=hpm.length_eq
      rw [List.length_cons] at hlen
      have hp1:p.1∈left:=hpm.mem_iff.2 (by simp)
      have hp2:∀ q∈p.2,q∈left:=fun q hq=>hpm.mem_iff.2 (by simp [hq])
      obtain ⟨v,hv,hb⟩:=verdict_flaky (hN p.1 hp1)
      simp only [hv,Option.bind_some,hb]
      have hall:∀ s,(∃ q∈left,flakyT q.2=true∧q.1.test=s)↔((flakyT p.1.2=true∧p.1.1.test=s)∨∃ q∈p.2,flakyT q.2=true∧q.1.test=s):=fun s=>by
        constructor
        · rintro ⟨q,hq,h1⟩
          rcases List.mem_cons.1 (hpm.mem_iff.1 hq) with rfl | hq
          · exact .inl h1
          · exact .inr ⟨q,hq,h1⟩
        · rintro (h1 | ⟨q,hq,h1⟩)
          · exact ⟨p.1,hp1,h1⟩
          · exact ⟨q,hp2 q hq,h1⟩
      cases hf:flakyT p.1.2
      · simp only [cond_false]
        refine flaky_loop hT hs hTl k p.2 is (by omega) (fun q hq=>hN q (hp2 q hq)) hD fun s=>?_
        rw [← hM s,hall s,hf]
        simp
      · simp only [cond_true]
        refine flaky_loop hT hs hTl k p.2 _ (by omega) (fun q hq=>hN q (hp2 q hq)) (nodup_mput _ _ _ hD) fun s=>?_
        rw [← hM s,hall s,hf,mem_mput]
        constructor
        · rintro ((h1 | h1) | h1)
          · exact .inr (.inl ⟨rfl,h1.symm⟩)
          · exact .inl h1
          · exact .inr (.inr h1)
        · rintro (h1 | ⟨_,h1⟩ | h1)
          · exact .inl (.inr h1)
          · exact .inl (.inl h1.symm)
          · exact .inr h1
theorem tally_nodup:∀ (l:List TestRun) (m:List (trials_id × trials_tally)),(m.map Prod.fst).Nodup→((l.foldl tstep m).map Prod.fst).Nodup
  | [],m,h=>h
  | x::l,m,h=>tally_nodup l (tstep m x) (nodup_mput _ _ _ h)
theorem tally_len:∀ (l:List TestRun) (m:List (trials_id × trials_tally)),(l.foldl tstep m).length≤m.length+l.length
  | [],m=>by simp
  | x::l,m=>by
    have h1:=tally_len l (tstep m x)
    have h2:=len_mput m (idOf x) (addT (mgetD m (idOf x) ⟨0,0⟩) x.Pass)
    rw [List.foldl_cons,List.length_cons]
    unfold tstep at h1 ⊢
    omega
theorem tally_at {l:List TestRun} (hl:l.length≤3000) (i:trials_id):mgetD (l.foldl tstep []) i ⟨0,0⟩=⟨((l.countP (cntB i true):Nat):Int),((l.countP (cntB i false):Nat):Int)⟩:=by
  have:=tally_get l [] i 0 0 rfl (by omega)
  rw [Nat.zero_add,Nat.zero_add] at this
  exact this
theorem tally_mem {l:List TestRun} (hl:l.length≤3000) {q:trials_id × trials_tally} (hq:q∈l.foldl tstep []):q.2=⟨((l.countP (cntB q.1 true):Nat):Int),((l.countP (cntB q.1 false):Nat):Int)⟩:=by
  rw [← tally_at hl q.1,mgetD,mget_mem (tally_nodup l [] (by simp)) hq]
  rfl
def bothB (l:List TestRun) (s:ByteArray):Prop:=∃ key,goodB l s key=true∧badB l s key=true
theorem count_pos {l:List TestRun} {c:TestRun→Bool}:(decide ((0:Int)<((l.countP c:Nat):Int)))=l.any c:=by
  have:=countP_any (c:=c) l
  cases h:l.any c
  · rw [this.2 h]; rfl
  · have:l.countP c≠0:=fun e=>by rw [this.1 e] at h; cases h
    rw [decide_eq_true (by omega)]
theorem tally_both {l:List TestRun} (hl:l.length≤3000) (s:ByteArray):(∃ q∈l.foldl tstep [],flakyT q.2=true∧q.1.test=s)↔bothB l s:=by
  constructor
  · rintro ⟨q,hq,h1,rfl⟩
    rw [tally_mem hl hq] at h1
    unfold flakyT at h1
    rw [count_pos,count_pos,Bool.and_eq_true] at h1
    exact ⟨q.1.key,h1⟩
  · rintro ⟨key,h1,h2⟩
    have h:=tally_at hl ⟨s,key⟩
    cases hm:mget (l.foldl tstep []) ⟨s,key⟩ with
    | none =>
      rw [mgetD,hm] at h
      have h3:(decide ((0:Int)<((l.countP (cntB ⟨s,key⟩ true):Nat):Int)))=true:=by rw [count_pos]; exact h1
      have h4:(0:Int)=((l.countP (cntB ⟨s,key⟩ true):Nat):Int):=congrArg trials_tally.passed h
      have:=of_decide_eq_true h3
      omega
    | some t =>
      refine ⟨(⟨s,key⟩,t),mem_mget hm,?_,rfl⟩
      rw [mgetD,hm] at h
      have h:t=_:=h
      show flakyT t=true
      rw [h]
      unfold flakyT
      rw [count_pos,count_pos,Bool.and_eq_true]
      exact ⟨h1,h2⟩
theorem tally_nat {l:List TestRun} (hl:l.length≤3000) {q:trials_id × trials_tally} (hq:q∈l.foldl tstep []):natT q.2:=by
  have h1:=List.countP_le_length (p:=cntB q.1 true) (l:=l)
  have h2:=List.countP_le_length (p:=cntB q.1 false) (l:=l)
  exact ⟨_,_,tally_mem hl hq,by omega⟩
def flBoth (l:List TestRun):List ByteArray:=setL ((l.filter (fun x=>goodB l x.Test x.Key&&badB l x.Test x.Key)).map (fun x=>x.Test))
theorem flBoth_mem (l:List TestRun) (s:ByteArray):s∈flBoth l↔bothB l s:=by
  unfold flBoth
  rw [setL_mem]
  simp only [List.mem_map,List.mem_filter,Bool.and_eq_true]
  constructor
  · rintro ⟨x,⟨_,h1⟩,rfl⟩
    exact ⟨x.Key,h1⟩
  · rintro ⟨key,h1,h2⟩
    obtain ⟨x,hx,hc⟩:=List.any_eq_true.1 h1
    unfold cntB idOf at hc
    simp only [Bool.and_eq_true,decide_eq_true_eq,trials_id.mk.injEq] at hc
    obtain ⟨⟨rfl,rfl⟩,_⟩:=hc
    exact ⟨x,⟨hx,h1,h2⟩,rfl⟩
def flS (l:List TestRun):List ByteArray:=sortF (flBoth l)
theorem flS_rise (l:List TestRun):(flS l).Pairwise (fun a b=>sLt a b=true):=sortF_rise (setL_nodup _)
theorem both_run {l:List TestRun} {s:ByteArray} (h:bothB l s):∃ x∈l,x.Test=s:=by
  obtain ⟨key,h1,_⟩:=h
  obtain ⟨x,hx,hc⟩:=List.any_eq_true.1 h1
  unfold cntB idOf at hc
  simp only [Bool.and_eq_true,decide_eq_true_eq,trials_id.mk.injEq] at hc
  exact ⟨x,hx,hc.1.1⟩
theorem flBoth_len (l:List TestRun):(flBoth l).length≤l.length:=by
  have h1:=setL_len ((l.filter (fun x=>goodB l x.Test x.Key&&badB l x.Test x.Key)).map (fun x=>x.Test))
  rw [List.length_map] at h1
  have h2:=List.length_filter_le (fun x=>goodB l x.Test x.Key&&badB l x.Test x.Key) l
  unfold flBoth
  omega
theorem flS_len (l:List TestRun):(flS l).length≤l.length:=by
  have:=flBoth_len l
  unfold flS sortF
  rw [List.length_map,List.length_mergeSort,List.length_map]
  exact this
def flakyS (l:List TestRun):Option (List ByteArray × Int):=(hisS l).bind fun y=>bif y != 0 then some ([],y) else some (flS l,0)
theorem flaky_prog {l:List TestRun} (hl:l.length≤4611686018427387904) (hs:∀ x∈l,x.Test.size≤4611686018427387904):trials_Flaky.f l=flakyS l:=by
  unfold trials_Flaky.f flakyS
  rw [history_prog hl]
  obtain ⟨r,hr⟩:=hisS_some l
  rw [hr]
  simp only [Option.bind_some]
  by_cases h0:r=0
  · subst h0
    have h3:=his_short hr
    simp only [bne_self_eq_false,cond_false]
    rw [tallies_eq hl]
    simp only [Option.bind_some]
    have hlen:=tally_len l []
    have hb:=flBoth_len l
    refine flaky_loop (setL_nodup _) (fun s h=>?_) (by unfold flBoth at hb; omega) big (l.foldl tstep []) [] ?_ (fun q hq=>tally_nat h3 hq) (by simp) fun s=>?_
    · obtain ⟨x,hx,rfl⟩:=both_run ((flBoth_mem l s).1 h)
      exact hs x hx
    · have:l.length<big:=by unfold big; omega
      simp only [List.length_nil] at hlen
      omega
    · have:=flBoth_mem l s
      unfold flBoth at this
      rw [this,← tally_both h3 s]
      simp
  · have:(r != 0)=true:=by simpa using h0
    rw [this]
    rfl
end Go.Proofs.YtacmmbpamfefbaaDoor
