/- Shards of a test, as the reference checks and divides it. -/
import Derived.Test.YtedkdnhhohcocaaDoorPShP
set_option linter.unusedVariables false
set_option linter.unusedSimpArgs false
namespace Go.Proofs.YtedkdnhhohcocaaDoor
open Go Go.Proofs.YtedkdnhhohcocaaDoor.Kit
theorem withinR (a b c:Int):smithyardref10_within.f a b c=some (inR b c a):=by
  unfold smithyardref10_within.f inR
  cases decide (b≤a) <;> rfl
theorem isWord_ref_loop (s:ByteArray) (h:s.size≤4611686018427387904):∀ (d k:Nat) (v:Int),0≤v→v≤s.size→(s.size:Int) - v=d→d<k→smithyardref10_isWord.l2 smithyardref10_isWord.e1 k s v=some ((s.data.toList.drop v.toNat).all okB):=by
  intro d
  induction d with
  | zero =>
    intro k v h0 h1 hd hk
    obtain ⟨k,rfl⟩:∃ m,k=m+1:=⟨k - 1,by omega⟩
    have e:decide (v<(s.size:Int))=false:=decide_eq_false (by omega)
    have hn:s.data.toList.drop v.toNat=[]:=List.drop_eq_nil_of_le (by simp; show s.size≤_; omega)
    rw [smithyardref10_isWord.l2,e,hn]
    rfl
  | succ d ih =>
    intro k v h0 h1 hd hk
    obtain ⟨k,rfl⟩:∃ m,k=m+1:=⟨k - 1,by omega⟩
    have e:decide (v<(s.size:Int))=true:=decide_eq_true (by omega)
    have e0:decide ((0:Int)≤v)=true:=decide_eq_true (by omega)
    have hn:v.toNat<s.data.toList.length:=by simp; show _<s.size; omega
    have hb:bt s v=((s.data.toList[v.toNat]).toNat:Int):=by
      have:=bt_of (s:=s) (i:=v.toNat) (List.getElem?_eq_getElem hn)
      rwa [Int.toNat_of_nonneg h0] at this
    have hw:w64 (v+1)=v+1:=w64_id (by omega) (by omega)
    rw [smithyardref10_isWord.l2,e,e0,hb,hw,ih k (v+1) (by omega) (by omega) (by omega) (by omega),List.drop_eq_getElem_cons hn,show (v+1).toNat=v.toNat+1 by omega]
    simp only [Bool.and_self,guard?,cond_true,List.all_cons]
    generalize s.data.toList[v.toNat]=c
    generalize List.all _ _=r
    have key:∀ c:UInt8,(bif decide ((c.toNat:Int)<97) then (bif decide ((c.toNat:Int)<48) then (bif (c.toNat:Int) != 45 then (some ((c.toNat:Int) != 95)) else (some false)) else (bif decide (57<(c.toNat:Int)) then (bif (c.toNat:Int) != 45 then (some ((c.toNat:Int) != 95)) else (some false)) else (some false))) else (bif decide (122<(c.toNat:Int)) then (bif decide ((c.toNat:Int)<48) then (bif (c.toNat:Int) != 45 then (some ((c.toNat:Int) != 95)) else (some false)) else (bif decide (57<(c.toNat:Int)) then (bif (c.toNat:Int) != 45 then (some ((c.toNat:Int) != 95)) else (some false)) else (some false))) else (some false)))=some (!okB c):=fun c=>of_decide_eq_true (u8_all (p:=fun c=>decide ((bif decide ((c.toNat:Int)<97) then (bif decide ((c.toNat:Int)<48) then (bif (c.toNat:Int) != 45 then (some ((c.toNat:Int) != 95)) else (some false)) else (bif decide (57<(c.toNat:Int)) then (bif (c.toNat:Int) != 45 then (some ((c.toNat:Int) != 95)) else (some false)) else (some false))) else (bif decide (122<(c.toNat:Int)) then (bif decide ((c.toNat:Int)<48) then (bif (c.toNat:Int) != 45 then (some ((c.toNat:Int) != 95)) else (some false)) else (bif decide (57<(c.toNat:Int)) then (bif (c.toNat:Int) != 45 then (some ((c.toNat:Int) != 95)) else (some false)) else (some false))) else (some false)))=some (!okB c))) (by kernel_rfl) c)
    rw [key]
    cases okB c <;> simp
theorem withinR_eq (a b c:Int):smithyardref10_within.f a b c=some (decide (b≤a)&&decide (a≤c)):=by
  unfold smithyardref10_within.f
  cases decide (b≤a) <;> rfl
theorem isWord_ref (s:ByteArray) (h:s.size≤4611686018427387904):smithyardref10_isWord.f s=some (isWordB s):=by
  unfold smithyardref10_isWord.f isWordB
  rw [withinR_eq]
  by_cases h1:1≤s.size
  · by_cases h2:s.size≤40
    · have e1:decide ((1:Int)≤(s.size:Int))=true:=decide_eq_true (by omega)
      have e2:decide ((s.size:Int)≤40)=true:=decide_eq_true (by omega)
      have e3:decide (0<(s.size:Int))=true:=decide_eq_true (by omega)
      obtain ⟨b,l,hl⟩:∃ b l,s.data.toList=b::l:=by
        cases hd:s.data.toList with
        | nil =>
          have:s.size=0:=by
            have:=congrArg List.length hd
            simpa using this
          omega
        | cons b l=>exact ⟨b,l,rfl⟩
      have hb:bt s 0=(b.toNat:Int):=bt_of (i:=0) (by rw [hl]; rfl)
      have hloop:=isWord_ref_loop s h s.size big 0 (by omega) (by omega) (by omega) (by unfold big; omega)
      rw [hloop,e1,e2,e3,hb]
      simp only [h1,h2,decide_true,Bool.true_and,Bool.and_true,Option.bind_some,Bool.not_true,cond_false,guard?,Int.le_refl,cond_true,Int.toNat_zero,List.drop_zero,hl]
      by_cases h3:b.toNat<97
      · have a1:decide ((b.toNat:Int)<97)=true:=decide_eq_true (by omega)
        have a2:decide (97≤b.toNat)=false:=decide_eq_false (by omega)
        simp [a1,a2]
      have a1:decide ((b.toNat:Int)<97)=false:=decide_eq_false (by omega)
      have a1':decide (97≤b.toNat)=true:=decide_eq_true (by omega)
      by_cases h4:122<b.toNat
      · have a2:decide (122<(b.toNat:Int))=true:=decide_eq_true (by omega)
        have a3:decide (b.toNat≤122)=false:=decide_eq_false (by omega)
        simp [a1,a1',a2,a3]
      · have a2:decide (122<(b.toNat:Int))=false:=decide_eq_false (by omega)
        have a2':decide (b.toNat≤122)=true:=decide_eq_true (by omega)
        simp [a1,a1',a2,a2']
    · have e2:decide ((s.size:Int)≤40)=false:=decide_eq_false (by omega)
      have e2':decide (s.size≤40)=false:=decide_eq_false (by omega)
      simp [e2,e2']
  · have e1:decide ((1:Int)≤(s.size:Int))=false:=decide_eq_false (by omega)
    have e1':decide (1≤s.size)=false:=decide_eq_false (by omega)
    simp [e1,e1']
theorem tst_ref {t:Test} (h:smallT t) (hn:t.Name.size<4294967281):smithyardref10_CheckTest.f t=tstS t:=by
  have key:smithyardref10_CheckTest.l2 smithyardref10_CheckTest.e1 big t 0=rangeP tstB (some 0) none t.Cases:=by
    refine rangeP_all (L:=fun k v=>smithyardref10_CheckTest.l2 smithyardref10_CheckTest.e1 k t v) h.len (fun k v h0 h1=>?_)
    simp only [smithyardref10_CheckTest.l2]
    congr 1
    refine bind_at (fun x hx=>?_)
    rw [isWord_ref x.Name (h.nm x hx),withinR,prev_eq (P:=fun y=>sLt x.Name y.Name||sEq x.Name y.Name) h0 h1 h.len]
    simp only [Option.bind_some]
    rfl
  unfold smithyardref10_CheckTest.f tstS
  rw [isPath_ref (by omega),key]
  rfl
/-! putting in from behind -/
theorem ins_loop {t:Test} {n v30:Int} {E:Test→Int→List TestCase→Int→TestCase→Int→Option (List (List ByteArray) × Int)} {l:List TestCase} {c:TestCase} (hl:l.length≤4611686018427387904) :
    ∀ (a k:Nat),a≤l.length→(∀ x∈l.drop a,ltU c x=true)→a<k→∃ b,b≤l.length∧(∀ x∈l.drop b,ltU c x=true)∧(∀ x,0<b→l[b - 1]? = some x→ltU c x=false)∧smithyardref10_Shards.l11 E k t n l v30 c (a:Int)=E t n l v30 c (b:Int):=by
  intro a
  induction a with
  | zero =>
    intro k h1 h2 h3
    obtain ⟨k,rfl⟩:∃ m,k=m+1:=⟨k - 1,by omega⟩
    refine ⟨0,h1,h2,fun x hx=>by omega,?_⟩
    rw [smithyardref10_Shards.l11,decide_eq_false (by omega)]
    rfl
  | succ a ih =>
    intro k h1 h2 h3
    obtain ⟨k,rfl⟩:∃ m,k=m+1:=⟨k - 1,by omega⟩
    have hlt:a<l.length:=by omega
    have hw:w64 (((a+1:Nat):Int) - 1)=(a:Int):=by rw [w64_id (by omega) (by omega)]; omega
    cases hc:ltU c l[a]
    · refine ⟨a+1,h1,h2,fun x _ hx=>?_,?_⟩
      · rw [Nat.add_sub_cancel,List.getElem?_eq_getElem hlt] at hx
        injection hx with hx
        rw [← hx]
        exact hc
      · rw [smithyardref10_Shards.l11,decide_eq_true (by omega),hw,at_nat hlt]
        simp only [cond_true,Option.bind_some]
        have:decide (l[a].Seconds<c.Seconds)=false:=hc
        rw [this]
        rfl
    · obtain ⟨b,b1,b2,b3,b4⟩:=ih k (by omega) (fun x hx=>by
        rw [List.drop_eq_getElem_cons hlt] at hx
        rcases List.mem_cons.1 hx with rfl | hx
        · exact hc
        · exact h2 x hx) (by omega)
      refine ⟨b,b1,b2,b3,?_⟩
      rw [smithyardref10_Shards.l11,decide_eq_true (by omega),hw,at_nat hlt]
      simp only [cond_true,Option.bind_some]
      have:decide (l[a].Seconds<c.Seconds)=true:=hc
      rw [this]
      exact b4
theorem ins_mrg {l:List TestCase} {c:TestCase} {b:Nat} (hs:Srt ltU l) (hb:b≤l.length) (h1:∀ x∈l.drop b,ltU c x=true) (h2:∀ x,0<b→l[b - 1]? = some x→ltU c x=false):l.take b++[c]++l.drop b=mrg ltU l [c]:=by
  have e:mrg ltU (l.take b++l.drop b) [c]=l.take b++c::l.drop b:=by
    refine mrg_one_r (fun x hx=>?_) h1
    obtain ⟨i,hi,hib,rfl⟩:=mem_take_get hx
    have hb1:b - 1<l.length:=by omega
    have hl:=h2 l[b - 1] (by omega) (List.getElem?_eq_getElem hb1)
    have hm:=srt_get hs (i:=i) (j:=b - 1) hb1 (by omega)
    simp only [ltU,decide_eq_false_iff_not] at hl hm ⊢
    omega
  rw [List.take_append_drop] at e
  rw [e]
  simp
theorem sorting_loop {t:Test} {n:Int} (hlen:t.Cases.length≤500) {E:Int→List TestCase→Option (List (List ByteArray) × Int)}:∀ (r:List TestCase) (k v:Nat) (acc:List TestCase),t.Cases.drop v=r→v≤t.Cases.length→Srt ltU acc→acc.length=v→r.length<k →
    smithyardref10_Shards.l9 E k t n acc (v:Int)=E n (r.foldl (fun acc x=>mrg ltU acc [x]) acc):=by
  intro r
  induction r with
  | nil =>
    intro k v acc h1 h2 _ _ h6
    obtain ⟨k,rfl⟩:∃ m,k=m+1:=⟨k - 1,by omega⟩
    have hv:t.Cases.length≤v:=List.drop_eq_nil_iff.1 h1
    rw [smithyardref10_Shards.l9,decide_eq_false (by omega)]
    rfl
  | cons c r ih =>
    intro k v acc h1 h2 h3 h4 h6
    simp only [List.length_cons] at h6
    obtain ⟨k,rfl⟩:∃ m,k=m+1:=⟨k - 1,by omega⟩
    have hv:v<t.Cases.length:=by
      rcases Nat.lt_or_ge v t.Cases.length with h | h
      · exact h
      · rw [List.drop_eq_nil_of_le h] at h1; cases h1
    rw [List.drop_eq_getElem_cons hv] at h1
    injection h1 with g1 g2
    have hw:w64 ((v:Int)+1)=((v+1:Nat):Int):=by rw [w64_id (by omega) (by omega)]; omega
    rw [smithyardref10_Shards.l9,decide_eq_true (by omega),at_nat hv,g1]
    simp only [cond_true,Option.bind_some]
    obtain ⟨b,b1,b2,b3,b4⟩:=ins_loop (t:=t) (n:=n) (v30:=(v:Int)) (E:=smithyardref10_Shards.e10 (smithyardref10_Shards.l9 E k)) (l:=acc) (c:=c) (by omega) acc.length big (Nat.le_refl _) (fun x hx=>by simp at hx) (by unfold big; omega)
    rw [b4]
    unfold smithyardref10_Shards.e10
    have hins:slices_Insert_TestCase.f acc (b:Int) [c]=some (mrg ltU acc [c]):=by
      unfold slices_Insert_TestCase.f
      rw [guard?_true (by rw [decide_eq_true (by omega),decide_eq_true (by omega),decide_eq_true (by simp),room_of (by simp only [List.length_cons,List.length_nil]; omega)]; rfl),Int.toNat_natCast,ins_mrg h3 b1 b2 b3]
    rw [hins]
    simp only [Option.bind_some]
    rw [hw]
    exact ih k (v+1) _ g2 (by omega) (mrg_sorted ltU_swo h3 (by simp)) (by rw [mrg_len]; simp; omega) (by omega)
/-! the least sum -/
theorem least_loop {v7:List TestCase} {out:List (List ByteArray)} {v63:Int} {c:TestCase} {S:List Int} (hl:S.length≤4611686018427387904) {E:List TestCase→List (List ByteArray)→List Int→Int→TestCase→Int→Option (List (List ByteArray) × Int)} :
    ∀ (d k v b:Nat),S.length=v+d→(hb:b<S.length)→(∀ j (hj:j<S.length),j<v→S[b]≤S[j])→(∀ j (hj:j<S.length),j<b→S[b]<S[j])→d<k →
      smithyardref10_Shards.l7 E k v7 out S v63 c (b:Int) (v:Int)=E v7 out S v63 c ((minAt S:Nat):Int):=by
  intro d
  induction d with
  | zero =>
    intro k v b h1 hb h2 h3 h4
    obtain ⟨k,rfl⟩:∃ m,k=m+1:=⟨k - 1,by omega⟩
    have hpos:1≤S.length:=by omega
    obtain ⟨q1,q2,_⟩:=minAt_spec hpos
    have e:minAt S=b:=by
      have hmin:minL S≤S[b]:=minL_le (List.getElem_mem hb)
      have hle:=h2 (minAt S) q1 (by omega)
      rcases Nat.lt_trichotomy (minAt S) b with h | h | h
      · have:=h3 (minAt S) q1 h
        omega
      · exact h
      · obtain ⟨_,_,q3⟩:=minAt_spec hpos
        obtain ⟨_,_,q4⟩:=List.findIdx?_eq_some_iff_getElem.1 q3
        have:=q4 b h
        have hne:minL S≠S[b]:=by simpa using this
        omega
    rw [smithyardref10_Shards.l7,decide_eq_false (by omega),e]
    rfl
  | succ d ih =>
    intro k v b h1 hb h2 h3 h4
    obtain ⟨k,rfl⟩:∃ m,k=m+1:=⟨k - 1,by omega⟩
    have hv:v<S.length:=by omega
    have hw:w64 ((v:Int)+1)=((v+1:Nat):Int):=by rw [w64_id (by omega) (by omega)]; omega
    rw [smithyardref10_Shards.l7,decide_eq_true (by omega),at_nat hv,at_nat hb]
    simp only [cond_true,Option.bind_some]
    unfold smithyardref10_Shards.j8
    rw [hw]
    by_cases hc:S[v]<S[b]
    · rw [decide_eq_true hc]
      refine ih k (v+1) v (by omega) hv (fun j hj hjv=>?_) (fun j hj hjv=>?_) (by omega)
      · rcases Nat.lt_or_ge j v with h | h
        · have:=h2 j hj h
          omega
        · have:j=v:=by omega
          subst this
          exact Int.le_refl _
      · have:=h2 j hj hjv
        omega
    · rw [decide_eq_false hc]
      refine ih k (v+1) b (by omega) hb (fun j hj hjv=>?_) h3 (by omega)
      rcases Nat.lt_or_ge j v with h | h
      · exact h2 j hj h
      · have:j=v:=by omega
        subst this
        omega
theorem shard_loopR {g:ByteArray→Int} {y4:List TestCase} (h500:y4.length≤500) (hg:∀ c∈y4,g c.Name=c.Seconds) (hs:∀ c∈y4,0≤c.Seconds∧c.Seconds≤100000) {E:List (List ByteArray)→Option (List (List ByteArray) × Int)} :
    ∀ (l:List TestCase) (k v:Nat) (out:List (List ByteArray)),y4.drop v=l→v≤y4.length→1≤out.length→out.length≤100→(∀ x∈out,x.length≤v∧0≤gsum g x∧gsum g x≤(v:Int)*100000)→l.length<k →
      smithyardref10_Shards.l5 E k y4 out (out.map (gsum g)) (v:Int)=E (l.foldl (stepO g) out):=by
  intro l
  induction l with
  | nil =>
    intro k v out h1 h2 h3 h4 h5 h6
    obtain ⟨k,rfl⟩:∃ m,k=m+1:=⟨k - 1,by omega⟩
    have hv:y4.length≤v:=List.drop_eq_nil_iff.1 h1
    rw [smithyardref10_Shards.l5,decide_eq_false (by omega)]
    rfl
  | cons c l ih =>
    intro k v out h1 h2 h3 h4 h5 h6
    simp only [List.length_cons] at h6
    obtain ⟨k,rfl⟩:∃ m,k=m+1:=⟨k - 1,by omega⟩
    have hv:v<y4.length:=by
      rcases Nat.lt_or_ge v y4.length with h | h
      · exact h
      · rw [List.drop_eq_nil_of_le h] at h1; cases h1
    rw [List.drop_eq_getElem_cons hv] at h1
    injection h1 with g1 g2
    have hm:=List.getElem_mem hv
    rw [g1] at hm
    have hw:w64 ((v:Int)+1)=((v+1:Nat):Int):=by rw [w64_id (by omega) (by omega)]; omega
    obtain ⟨a1,a2,a3⟩:=stepO_at g h3 c
    obtain ⟨b1,b2⟩:=hs c hm
    obtain ⟨c1,c2,c3⟩:=h5 _ (List.getElem_mem a1)
    have hml:0<(out.map (gsum g)).length:=by simp; omega
    have hat:at? (out.map (gsum g)) ((minAt (out.map (gsum g)):Nat):Int)=some (minL (out.map (gsum g))):=by
      have hlt:minAt (out.map (gsum g))<(out.map (gsum g)).length:=by simpa using a1
      rw [at_nat hlt,List.getElem_map,a3]
    rw [a3] at c2 c3
    rw [smithyardref10_Shards.l5,decide_eq_true (by omega),at_nat hv,g1]
    simp only [cond_true,Option.bind_some]
    have e0:=least_loop (v7:=y4) (out:=out) (v63:=(v:Int)) (c:=c) (S:=out.map (gsum g)) (by simp; omega) (E:=smithyardref10_Shards.e6 (smithyardref10_Shards.l5 E k)) (out.map (gsum g)).length big 0 0 (by omega) hml (fun j hj hj0=>by omega) (fun j hj hj0=>by omega) (by simp; unfold big; omega)
    rw [show ((0:Nat):Int)=0 from rfl] at e0
    rw [e0]
    unfold smithyardref10_Shards.e6
    rw [at_nat a1,hat]
    simp only [Option.bind_some]
    rw [guard?_true (room_of (by omega)),hw,w64_id (by omega) (by omega)]
    have e1:List.set out ((minAt (out.map (gsum g)):Nat):Int).toNat (out[minAt (out.map (gsum g))]++[c.Name])=stepO g out c:=by rw [Int.toNat_natCast]; exact a2.symm
    have e2:(out.map (gsum g)).set ((minAt (out.map (gsum g)):Nat):Int).toNat (minL (out.map (gsum g))+c.Seconds)=(stepO g out c).map (gsum g):=by rw [Int.toNat_natCast]; exact (stepO_sums g h3 (hg c hm)).symm
    rw [e1,e2]
    refine (ih k (v+1) (stepO g out c) g2 (by omega) (by rw [stepO_len]; exact h3) (by rw [stepO_len]; exact h4) (fun x hx=>?_) (by omega)).trans rfl
    rw [a2] at hx
    rcases List.mem_or_eq_of_mem_set hx with hx | rfl
    · obtain ⟨d1,d2,d3⟩:=h5 x hx
      push_cast
      exact ⟨by omega,d2,by omega⟩
    · rw [gsum_snoc,a3,hg c hm]
      simp only [List.length_append,List.length_cons,List.length_nil]
      push_cast
      exact ⟨by omega,by omega,by omega⟩
theorem sort_loopR {o0:List (List ByteArray)} (h:o0.length≤4611686018427387904) (hl:∀ x∈o0,x.length<4611686018427387904):∀ (d k v:Nat) (o:List (List ByteArray)),o0.length=v+d→o=(o0.take v).map sortF++o0.drop v→d<k →
    smithyardref10_Shards.l4 smithyardref10_Shards.e3 k o0 o (v:Int)=some (o0.map sortF,0):=by
  intro d
  induction d with
  | zero =>
    intro k v o h1 h2 h3
    obtain ⟨k,rfl⟩:∃ m,k=m+1:=⟨k - 1,by omega⟩
    rw [smithyardref10_Shards.l4,decide_eq_false (by omega),h2,List.take_of_length_le (by omega),List.drop_eq_nil_of_le (by omega),List.append_nil]
    rfl
  | succ d ih =>
    intro k v o h1 h2 h3
    obtain ⟨k,rfl⟩:∃ m,k=m+1:=⟨k - 1,by omega⟩
    have hv:v<o0.length:=by omega
    have hlv:((o0.take v).map sortF).length=v:=by simp; omega
    have hat:at? o (v:Int)=some o0[v]:=by
      rw [h2,List.drop_eq_getElem_cons hv]
      exact at_app (by rw [hlv])
    have hw:w64 ((v:Int)+1)=((v+1:Nat):Int):=by rw [w64_id (by omega) (by omega)]; omega
    have hsf:slices_Sort_string.f o0[v]=some (sortF o0[v]):=by
      unfold slices_Sort_string.f
      rw [guard?_true (decide_eq_true (hl _ (List.getElem_mem hv)))]
      rfl
    rw [smithyardref10_Shards.l4,decide_eq_true (by omega),hat]
    simp only [cond_true,Option.bind_some]
    rw [hsf]
    simp only [Option.bind_some]
    rw [hw]
    refine ih k (v+1) _ (by omega) ?_ (by omega)
    rw [h2,Int.toNat_natCast,List.drop_eq_getElem_cons hv,List.set_append_right _ _ (by omega),hlv,Nat.sub_self,List.set_cons_zero,List.take_succ_eq_append_getElem hv,List.map_append]
    simp
theorem shards_ref {t:Test} (h:smallT t) (hnm:t.Name.size<4294967281) (n:Int):smithyardref10_Shards.f t n=shardsS t n:=by
  unfold smithyardref10_Shards.f shardsS
  rw [tst_ref h hnm]
  obtain ⟨f,hf⟩:=tst_some t
  rw [hf]
  simp only [Option.bind_some]
  cases h0:f != 0
  · have hz:f=0:=by simpa using h0
    subst hz
    have ok:=tst_ok hf
    simp only [cond_false,withinR,Option.bind_some]
    cases h1:inR 1 100 n
    · rfl
    · simp only [Bool.not_true,cond_false]
      have hn:1≤n∧n≤100:=by unfold inR at h1; simpa using h1
      have hl:=ok.len
      have e2:=sorting_loop (t:=t) (n:=n) hl (E:=smithyardref10_Shards.e1) t.Cases big 0 [] rfl (by omega) (by simp) rfl (by unfold big; omega)
      rw [show ((0:Nat):Int)=0 from rfl] at e2
      rw [e2]
      show smithyardref10_Shards.e1 n (stab ltU t.Cases)=_
      have hp:(stab ltU t.Cases).Perm t.Cases:=stab_perm _
      have hsl:(stab ltU t.Cases).length=t.Cases.length:=hp.length_eq
      unfold smithyardref10_Shards.e1
      rw [guard?_true (by rw [decide_eq_true (by omega),room_of (by omega)]; rfl),guard?_true (by rw [decide_eq_true (by omega),room_of (by omega)]; rfl)]
      have e0:List.replicate n.toNat (0:Int)=(List.replicate n.toNat ([]:List ByteArray)).map (gsum (secM t)):=by rw [List.map_replicate]; rfl
      have e1:=shard_loopR (g:=secM t) (y4:=stab ltU t.Cases) (by omega) (fun c hc=>(secM_at ok (hp.mem_iff.1 hc)).1) (fun c hc=>ok.sec c (hp.mem_iff.1 hc)) (E:=smithyardref10_Shards.e2) (stab ltU t.Cases) big 0 (List.replicate n.toNat []) rfl (by omega) (by simp; omega) (by simp; omega) (fun x hx=>by
        rw [List.mem_replicate] at hx
        rw [hx.2]
        exact ⟨by simp,by simp [gsum,sumZ],by simp [gsum,sumZ]⟩) (by unfold big; omega)
      rw [show ((0:Nat):Int)=0 from rfl] at e1
      rw [e0]
      refine e1.trans ?_
      unfold smithyardref10_Shards.e2
      obtain ⟨k1,k2⟩:=fold_names (secM t) (stab ltU t.Cases) (List.replicate n.toNat []) (by simp; omega)
      have k3:((stab ltU t.Cases).foldl (stepO (secM t)) (List.replicate n.toNat [])).length≤100:=by rw [k1]; simp; omega
      refine sort_loopR (by omega) (fun x hx=>?_) _ big 0 _ (Nat.zero_add _).symm (by simp) (by unfold big; omega)
      have h1:x.length≤((stab ltU t.Cases).foldl (stepO (secM t)) (List.replicate n.toNat [])).flatten.length:=(List.sublist_flatten_of_mem hx).length_le
      rw [k2.length_eq] at h1
      simp at h1
      omega
  · simp only [cond_true]
end Go.Proofs.YtedkdnhhohcocaaDoor
