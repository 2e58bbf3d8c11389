/- slices.SortStableFunc: merging in place by halves, and the whole. -/
import Derived.Test.YtkjilepjblffeaaDoorPStab
set_option linter.unusedVariables false
set_option linter.unusedSimpArgs false
namespace Go.Proofs.YtkjilepjblffeaaDoor
open Go Go.Proofs.YtkjilepjblffeaaDoor.Kit
theorem bif_true' {α:Type} {c:Bool} {a b:α} (h:c=true):(bif c then a else b)=a:=by rw [h]; rfl
theorem bif_false' {α:Type} {c:Bool} {a b:α} (h:c=false):(bif c then a else b)=b:=by rw [h]; rfl
theorem two_dec {p q:Prop} [Decidable p] [Decidable q]:(bif decide p then (some (decide q)) else (some false))=some (decide (p∧q)):=by
  by_cases hp:p <;> by_cases hq:q <;> simp [hp,hq]
theorem sm_halves {rec_:List Blob→Int→Int→Int→Option (List Blob)} {A L1 R1 L2 R2 B:List Blob} {a m b s mid:Nat} (ha:a=A.length) (hs:s=A.length+L1.length) (hmid:mid=A.length+L1.length+R1.length) (hm:m=A.length+L1.length+L2.length)
    (hb:b=A.length+L1.length+R1.length+L2.length+R2.length) (hmb:mid=(a+b) / 2) (hN:b≤cap60)
    (r1:L1≠[]→R1≠[]→rec_ (A++(L1++(R1++(L2++(R2++B))))) (a:Int) (s:Int) (mid:Int)=some (A++(mrg ltU L1 R1++(L2++(R2++B)))))
    (r2:L2≠[]→R2≠[]→rec_ (A++(mrg ltU L1 R1++(L2++(R2++B)))) (mid:Int) ((mid+L2.length:Nat):Int) (b:Int)=some (A++(mrg ltU L1 R1++(mrg ltU L2 R2++B)))) :
    slices_symMergeCmpFunc_Blob.j9 rec_ (a:Int) (m:Int) (b:Int) (s:Int) (A++(L1++(R1++(L2++(R2++B)))))=some (A++(mrg ltU L1 R1++(mrg ltU L2 R2++B))):=by
  have hN':b≤1152921504606846976:=hN
  have wm:w64 (iShr .u64 (IntKind.wrap .u64 (w64 ((a:Int)+(b:Int)))) 1)=(mid:Int):=by rw [halfN (by omega) (by omega),hmb]
  have we:w64 ((w64 ((mid:Int)+(m:Int))) - (s:Int))=((mid+L2.length:Nat):Int):=by rw [w64_id (n:=(mid:Int)+(m:Int)) (by omega) (by omega),w64_id (by omega) (by omega)]; omega
  have j10:slices_symMergeCmpFunc_Blob.j10 rec_ (a:Int) (m:Int) (b:Int) (s:Int) (A++(mrg ltU L1 R1++(L2++(R2++B))))=some (A++(mrg ltU L1 R1++(mrg ltU L2 R2++B))):=by
    unfold slices_symMergeCmpFunc_Blob.j10
    rw [wm,we,two_dec]
    simp only [Option.bind_some]
    by_cases hL:L2=[]
    · subst hL
      rw [decide_eq_false (by simp),nil_mrg]
      rfl
    · by_cases hR:R2=[]
      · subst hR
        simp only [List.length_nil] at hb
        rw [decide_eq_false (by omega),mrg_nil]
        rfl
      · have:=List.length_pos_iff.2 hL
        have:=List.length_pos_iff.2 hR
        rw [decide_eq_true (by omega)]
        simp only [cond_true,r2 hL hR,Option.bind_some]
        rfl
  unfold slices_symMergeCmpFunc_Blob.j9
  rw [wm,two_dec]
  simp only [Option.bind_some]
  by_cases hL:L1=[]
  · subst hL
    simp only [List.length_nil] at hs
    rw [decide_eq_false (by omega)]
    simp only [cond_false,List.nil_append]
    rw [nil_mrg] at j10 ⊢
    exact j10
  · by_cases hR:R1=[]
    · subst hR
      simp only [List.length_nil] at hmid
      rw [decide_eq_false (by omega)]
      simp only [cond_false,List.nil_append]
      rw [mrg_nil] at j10 ⊢
      exact j10
    · have:=List.length_pos_iff.2 hL
      have:=List.length_pos_iff.2 hR
      rw [decide_eq_true (by omega)]
      simp only [cond_true,r1 hL hR,Option.bind_some]
      exact j10
theorem sm:∀ (s k:Nat) (A L R B:List Blob),L.length+R.length≤s→s<k→L≠[]→R≠[]→Srt ltU L→Srt ltU R→(A++(L++(R++B))).length≤cap60 →
    slices_symMergeCmpFunc_Blob.fk k (A++(L++(R++B))) (A.length:Int) ((A.length+L.length:Nat):Int) ((A.length+L.length+R.length:Nat):Int)=some (A++(mrg ltU L R++B))
  | 0,k,A,L,R,B,h1,h2,h3,_,_,_,_=>by have:=List.length_pos_iff.2 h3; omega
  | s+1,k,A,L,R,B,h1,h2,h3,h4,h5,h6,hN=>by
    obtain ⟨k,rfl⟩:∃ m,k=m+1:=⟨k - 1,by omega⟩
    have hN':(A++(L++(R++B))).length≤1152921504606846976:=hN
    simp only [List.length_append] at hN'
    have hl:=List.length_pos_iff.2 h3
    have hr:=List.length_pos_iff.2 h4
    have w1:w64 (((A.length+L.length:Nat):Int) - (A.length:Int))=(L.length:Int):=by rw [w64_id (by omega) (by omega)]; omega
    have w2:w64 (((A.length+L.length+R.length:Nat):Int) - ((A.length+L.length:Nat):Int))=(R.length:Int):=by rw [w64_id (by omega) (by omega)]; omega
    rw [slices_symMergeCmpFunc_Blob.fk]
    unfold slices_symMergeCmpFunc_Blob.g
    rw [w1,w2]
    by_cases hL1:L.length=1
    · obtain ⟨x,rfl⟩:∃ x,L=[x]:=List.length_eq_one_iff.1 hL1
      rw [bif_true' (by simp)]
      exact sm_left h6 hN
    · rw [bif_false' (beq_eq_false_iff_ne.2 (by omega))]
      by_cases hR1:R.length=1
      · obtain ⟨y,rfl⟩:∃ y,R=[y]:=List.length_eq_one_iff.1 hR1
        rw [bif_true' (by simp)]
        exact sm_right h5 hN
      · rw [bif_false' (beq_eq_false_iff_ne.2 (by omega))]
        obtain ⟨a,ha⟩:∃ a,a=A.length:=⟨_,rfl⟩
        obtain ⟨m,hm⟩:∃ m,m=A.length+L.length:=⟨_,rfl⟩
        obtain ⟨b,hb⟩:∃ b,b=A.length+L.length+R.length:=⟨_,rfl⟩
        obtain ⟨mid,hmid⟩:∃ mid,mid=(a+b) / 2:=⟨_,rfl⟩
        rw [← hb,← hm,← ha]
        have wm:w64 (iShr .u64 (IntKind.wrap .u64 (w64 ((a:Int)+(b:Int)))) 1)=(mid:Int):=by rw [halfN (by omega) (by omega),hmid]
        -- the search, from lo up to lo + n
        have search:∀ (lo n:Nat),a≤lo→lo+n≤m→lo+n≤mid→mid+m≤lo+b→((lo=a∧lo+n=m)∨(lo+b=mid+m∧lo+n=mid)) →
            slices_symMergeCmpFunc_Blob.j7 (slices_symMergeCmpFunc_Blob.fk k) (A++(L++(R++B))) (a:Int) (m:Int) (b:Int) (lo:Int) ((lo+n:Nat):Int)=some (A++(mrg ltU L R++B)):=by
          intro lo n q1 q2 q3 q4 q5
          have hLat:∀ c,lo≤c→c<lo+n→c - a<L.length:=fun c c1 c2=>by omega
          have hRat:∀ c,lo≤c→c<lo+n→mid - 1 - c<R.length:=fun c c1 c2=>by omega
          obtain ⟨p,p1,p2,p3,p4⟩:=mono_split (fun c=>match L[c - a]?,R[mid - 1 - c]? with | some x,some y=>!ltU y x | _,_=>false) lo n (fun i j i0 hij hj h=>by
            have a1:=hLat i i0 (by omega)
            have a2:=hRat i i0 (by omega)
            have a3:=hLat j (by omega) hj
            have a4:=hRat j (by omega) hj
            rw [List.getElem?_eq_getElem a3,List.getElem?_eq_getElem a4] at h
            rw [List.getElem?_eq_getElem a1,List.getElem?_eq_getElem a2]
            simp only [Bool.not_eq_true'] at h ⊢
            have g1:=srt_get h5 a3 (show i - a≤j - a by omega)
            have g2:=srt_get h6 a2 (show mid - 1 - j≤mid - 1 - i by omega)
            exact ltU_swo.neg _ _ _ (ltU_swo.neg _ _ _ g2 h) g1)
          have hdata:∀ c,∀ (c1:lo≤c) (c2:c<lo+n),at? (A++(L++(R++B))) (c:Int)=some (L[c - a]'(hLat c c1 c2)):=by
            intro c c1 c2
            have a1:=hLat c c1 c2
            rw [at_nat (by simp only [List.length_append]; omega)]
            congr 1
            rw [List.getElem_append_right (by omega),List.getElem_append_left (by omega)]
            congr 1
            omega
          have hdatb:∀ c,∀ (c1:lo≤c) (c2:c<lo+n),at? (A++(L++(R++B))) ((mid+m - 1 - c:Nat):Int)=some (R[mid - 1 - c]'(hRat c c1 c2)):=by
            intro c c1 c2
            have a1:=hRat c c1 c2
            rw [at_nat (by simp only [List.length_append]; omega)]
            congr 1
            rw [List.getElem_append_right (by omega),List.getElem_append_right (by omega),List.getElem_append_left (by omega)]
            congr 1
            omega
          unfold slices_symMergeCmpFunc_Blob.j7
          rw [bsN (L:=fun k' i j=>slices_symMergeCmpFunc_Blob.l12 (slices_symMergeCmpFunc_Blob.e8 (slices_symMergeCmpFunc_Blob.fk k)) k' (A++(L++(R++B))) (a:Int) (m:Int) (b:Int) i j) (E:=fun i=>slices_symMergeCmpFunc_Blob.e8 (slices_symMergeCmpFunc_Blob.fk k) (A++(L++(R++B))) (a:Int) (m:Int) (b:Int) i) (p:=p) p1 p2 ?_ ?_ ?_ (by unfold big; omega)]
          · -- behind the search
            obtain ⟨L1,hL1⟩:∃ L1,L1=L.take (p - a):=⟨_,rfl⟩
            obtain ⟨L2,hL2⟩:∃ L2,L2=L.drop (p - a):=⟨_,rfl⟩
            obtain ⟨R1,hR1⟩:∃ R1,R1=R.take (mid - p):=⟨_,rfl⟩
            obtain ⟨R2,hR2⟩:∃ R2,R2=R.drop (mid - p):=⟨_,rfl⟩
            have eL:L=L1++L2:=by rw [hL1,hL2,List.take_append_drop]
            have eR:R=R1++R2:=by rw [hR1,hR2,List.take_append_drop]
            have lL1:L1.length=p - a:=by rw [hL1,List.length_take]; omega
            have lR1:R1.length=mid - p:=by rw [hR1,List.length_take]; omega
            have lL2:L2.length=m - p:=by rw [hL2,List.length_drop]; omega
            have lR2:R2.length=b - (mid+m - p):=by rw [hR2,List.length_drop]; omega
            have c1:∀ x∈L2,∀ y∈R1,ltU y x=true:=by
              intro x hx y hy
              rw [hL2] at hx
              rw [hR1] at hy
              obtain ⟨i,hi,hi2,rfl⟩:=mem_drop_get hx
              obtain ⟨j,hj,hj2,rfl⟩:=mem_take_get hy
              have hp:p<lo+n:=by omega
              have:=p4 p (Nat.le_refl _) hp
              rw [List.getElem?_eq_getElem (hLat p p1 hp),List.getElem?_eq_getElem (hRat p p1 hp)] at this
              simp only [Bool.not_eq_false'] at this
              have g1:=srt_get h5 hi (show p - a≤i by omega)
              have g2:=srt_get h6 (hRat p p1 hp) (show j≤mid - 1 - p by omega)
              exact ltU_swo.lt_of_lt_le (ltU_swo.lt_of_le_lt g2 this) g1
            have c2:∀ x∈L1,∀ y∈R2,ltU y x=false:=by
              intro x hx y hy
              rw [hL1] at hx
              rw [hR2] at hy
              obtain ⟨i,hi,hi2,rfl⟩:=mem_take_get hx
              obtain ⟨j,hj,hj2,rfl⟩:=mem_drop_get hy
              have hp:lo≤p - 1∧p - 1<p:=by omega
              have:=p3 (p - 1) hp.1 hp.2
              rw [List.getElem?_eq_getElem (hLat (p - 1) hp.1 (by omega)),List.getElem?_eq_getElem (hRat (p - 1) hp.1 (by omega))] at this
              simp only [Bool.not_eq_true'] at this
              have g1:=srt_get h5 (hLat (p - 1) hp.1 (by omega)) (show i≤p - 1 - a by omega)
              have g2:=srt_get h6 hj (show mid - 1 - (p - 1)≤j by omega)
              exact ltU_swo.neg _ _ _ g2 (ltU_swo.neg _ _ _ this g1)
            have s1:=List.pairwise_append.1 (eL ▸ h5)
            have s2:=List.pairwise_append.1 (eR ▸ h6)
            have hmg:=mrg_split c1 c2
            rw [← eL,← eR] at hmg
            rw [hmg,List.append_assoc]
            have eN:(A++(L1++(R1++(L2++(R2++B))))).length≤cap60:=by
              simp only [List.length_append]
              unfold cap60
              omega
            have hlen1:=mrg_len (lt:=ltU) L1 R1
            have fin:=sm_halves (rec_:=slices_symMergeCmpFunc_Blob.fk k) (A:=A) (L1:=L1) (R1:=R1) (L2:=L2) (R2:=R2) (B:=B) (a:=a) (m:=m) (b:=b) (s:=p) (mid:=mid) ha (by omega) (by omega) (by omega) (by omega) hmid (by unfold cap60; omega)
              (fun g1 g2=>by
                have:=sm s k A L1 R1 (L2++(R2++B)) (by omega) (by omega) g1 g2 s1.1 s2.1 eN
                rw [← ha,show a+L1.length=p by omega,show p+R1.length=mid by omega] at this
                exact this)
              (fun g1 g2=>by
                have:=sm s k (A++mrg ltU L1 R1) L2 R2 B (by omega) (by omega) g1 g2 s1.2.1 s2.2.1 (by simp only [List.length_append,hlen1]; unfold cap60; omega)
                rw [List.length_append,hlen1,show A.length+(L1.length+R1.length)=mid by omega,show mid+L2.length+R2.length=b by omega] at this
                simp only [List.append_assoc] at this
                exact this)
            unfold slices_symMergeCmpFunc_Blob.e8
            have we:w64 ((w64 ((mid:Int)+(m:Int))) - (p:Int))=((mid+m - p:Nat):Int):=by rw [w64_id (n:=(mid:Int)+(m:Int)) (by omega) (by omega),w64_id (by omega) (by omega)]; omega
            rw [wm,we,two_dec]
            simp only [Option.bind_some]
            have e0:A++(L++(R++B))=(A++L1)++(L2++(R1++(R2++B))):=by rw [eL,eR]; simp
            have e1:A++(L1++(R1++(L2++(R2++B))))=(A++L1)++(R1++(L2++(R2++B))):=by simp
            by_cases hc:p<m∧m<mid+m - p
            · rw [decide_eq_true (by omega)]
              have hrot:=rot_list (A:=A++L1) (X:=L2) (Y:=R1) (B:=R2++B) (by intro h; rw [h] at lL2; simp at lL2; omega) (by intro h; rw [h] at lR1; simp at lR1; omega) (by rw [← e0]; exact hN)
              rw [List.length_append,show A.length+L1.length=p by omega,show p+L2.length=m by omega,show m+R1.length=mid+m - p by omega] at hrot
              simp only [cond_true]
              rw [e0,hrot]
              simp only [Option.bind_some]
              rw [← e1]
              exact fin
            · rw [decide_eq_false (by omega)]
              simp only [cond_false]
              have:A++(L++(R++B))=A++(L1++(R1++(L2++(R2++B)))):=by
                rw [e0,e1]
                congr 1
                rcases (by omega:m - p=0∨mid - p=0) with h | h
                · rw [List.length_eq_zero_iff.1 (by omega:L2.length=0)]
                  simp
                · rw [List.length_eq_zero_iff.1 (by omega:R1.length=0)]
                  simp
              rw [this]
              exact fin
          · intro k' i j i0 hij hj hp
            have b1:lo≤(i+j) / 2:=by omega
            have b2:(i+j) / 2<lo+n:=by omega
            obtain ⟨c,hc1,hc2⟩:=cmpU (R[mid - 1 - (i+j) / 2]'(hRat _ b1 b2)) (L[(i+j) / 2 - a]'(hLat _ b1 b2))
            have hlt:ltU (R[mid - 1 - (i+j) / 2]'(hRat _ b1 b2)) (L[(i+j) / 2 - a]'(hLat _ b1 b2))=false:=by
              have:=p3 _ b1 hp
              rw [List.getElem?_eq_getElem (hLat _ b1 b2),List.getElem?_eq_getElem (hRat _ b1 b2)] at this
              simpa using this
            have wi:w64 ((w64 ((w64 ((mid:Int)+(m:Int))) - 1)) - (((i+j) / 2:Nat):Int))=((mid+m - 1 - (i+j) / 2:Nat):Int):=by
              rw [w64_id (n:=(mid:Int)+(m:Int)) (by omega) (by omega),w64_id (n:=(mid:Int)+(m:Int) - 1) (by omega) (by omega),w64_id (by omega) (by omega)]
              omega
            simp only [slices_symMergeCmpFunc_Blob.l12]
            rw [decide_eq_true (by omega),wm,halfN (by omega) (by omega),wi,hdatb _ b1 b2,hdata _ b1 b2]
            simp only [cond_true,Option.bind_some,hc1,hc2,hlt,Bool.not_false]
            rw [show w64 ((((i+j) / 2:Nat):Int)+1)=(((i+j) / 2+1:Nat):Int) by rw [w64_id (by omega) (by omega)]; omega]
          · intro k' i j i0 hij hj hp
            have b1:lo≤(i+j) / 2:=by omega
            have b2:(i+j) / 2<lo+n:=by omega
            obtain ⟨c,hc1,hc2⟩:=cmpU (R[mid - 1 - (i+j) / 2]'(hRat _ b1 b2)) (L[(i+j) / 2 - a]'(hLat _ b1 b2))
            have hlt:ltU (R[mid - 1 - (i+j) / 2]'(hRat _ b1 b2)) (L[(i+j) / 2 - a]'(hLat _ b1 b2))=true:=by
              have:=p4 _ hp b2
              rw [List.getElem?_eq_getElem (hLat _ b1 b2),List.getElem?_eq_getElem (hRat _ b1 b2)] at this
              simpa using this
            have wi:w64 ((w64 ((w64 ((mid:Int)+(m:Int))) - 1)) - (((i+j) / 2:Nat):Int))=((mid+m - 1 - (i+j) / 2:Nat):Int):=by
              rw [w64_id (n:=(mid:Int)+(m:Int)) (by omega) (by omega),w64_id (n:=(mid:Int)+(m:Int) - 1) (by omega) (by omega),w64_id (by omega) (by omega)]
              omega
            simp only [slices_symMergeCmpFunc_Blob.l12]
            rw [decide_eq_true (by omega),wm,halfN (by omega) (by omega),wi,hdatb _ b1 b2,hdata _ b1 b2]
            simp only [cond_true,Option.bind_some,hc1,hc2,hlt,Bool.not_true,cond_false]
          · intro k' i
            simp only [slices_symMergeCmpFunc_Blob.l12]
            rw [decide_eq_false (by omega)]
            rfl
        rw [wm]
        by_cases hc:mid<m
        · rw [decide_eq_true (by omega)]
          simp only [cond_true]
          have wl:w64 ((w64 ((mid:Int)+(m:Int))) - (b:Int))=((mid+m - b:Nat):Int):=by rw [w64_id (n:=(mid:Int)+(m:Int)) (by omega) (by omega),w64_id (by omega) (by omega)]; omega
          rw [wl]
          have:=search (mid+m - b) (b - m) (by omega) (by omega) (by omega) (by omega) (by omega)
          rw [show mid+m - b+(b - m)=mid by omega] at this
          exact this
        · rw [decide_eq_false (by omega)]
          simp only [cond_false]
          have:=search a L.length (by omega) (by omega) (by omega) (by omega) (by omega)
          rw [show a+L.length=m by omega] at this
          exact this
end Go.Proofs.YtkjilepjblffeaaDoor
