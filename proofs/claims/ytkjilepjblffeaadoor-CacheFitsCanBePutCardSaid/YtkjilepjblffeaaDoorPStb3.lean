/- slices.SortStableFunc: blocks that are sorted, merged in pairs until one is left. -/
import Derived.Test.YtkjilepjblffeaaDoorPStb2
set_option linter.unusedVariables false
set_option linter.unusedSimpArgs false
namespace Go.Proofs.YtkjilepjblffeaaDoor
open Go Go.Proofs.YtkjilepjblffeaaDoor.Kit
inductive Chk (bs:Nat):List Blob→List Blob→Prop
  | last (l:List Blob) (h:l.length≤bs):Chk bs l (stab ltU l)
  | step (l1 l2 d2:List Blob) (h:l1.length=bs) (k:Chk bs l2 d2):Chk bs (l1++l2) (stab ltU l1++d2)
theorem Chk.len {bs:Nat} {l d:List Blob} (h:Chk bs l d):d.length=l.length:=by
  induction h with
  | last l h=>exact stab_len ltU_swo l
  | step l1 l2 d2 h k ih=>rw [List.length_append,List.length_append,stab_len ltU_swo,ih]
theorem Chk.small {bs:Nat} {l d:List Blob} (h:Chk bs l d) (hl:l.length≤bs):d=stab ltU l:=by
  cases h with
  | last l h=>rfl
  | step l1 l2 d2 h k =>
    rw [List.length_append] at hl
    have h0:l2=[]:=List.length_eq_zero_iff.1 (by omega)
    subst h0
    have:=k.len
    have h1:d2=[]:=List.length_eq_zero_iff.1 (by rw [this]; rfl)
    subst h1
    simp
theorem Chk.parts {bs:Nat} {l d:List Blob} (h:Chk bs l d) (hl:bs<l.length):∃ l1 l2 d2,l=l1++l2∧d=stab ltU l1++d2∧l1.length=bs∧Chk bs l2 d2:=by
  cases h with
  | last l h=>omega
  | step l1 l2 d2 h k=>exact ⟨l1,l2,d2,rfl,rfl,h,k⟩
theorem mrg_stab (l1 l2:List Blob):mrg ltU (stab ltU l1) (stab ltU l2)=stab ltU (l1++l2):=(stab_append ltU_swo l1 l2).symm
theorem sm_call {A l1 l2 B:List Blob} {a m b:Int} (ha:a=(A.length:Int)) (hm:m=((A.length+l1.length:Nat):Int)) (hb:b=((A.length+l1.length+l2.length:Nat):Int)) (h1:l1≠[]) (h2:l2≠[]) (hN:A.length+l1.length+l2.length+B.length≤cap60) :
    slices_symMergeCmpFunc_Blob.f (A++(stab ltU l1++(stab ltU l2++B))) a m b=some (A++(stab ltU (l1++l2)++B)):=by
  have hl1:=stab_len ltU_swo l1
  have hl2:=stab_len ltU_swo l2
  unfold cap60 at hN
  have p1:=List.length_pos_iff.2 h1
  have p2:=List.length_pos_iff.2 h2
  have:=sm (l1.length+l2.length) big A (stab ltU l1) (stab ltU l2) B (by omega) (by unfold big; omega) (by intro h; rw [h] at hl1; simp at hl1; omega) (by intro h; rw [h] at hl2; simp at hl2; omega) (stab_sorted ltU_swo l1) (stab_sorted ltU_swo l2) (by simp only [List.length_append,hl1,hl2]; unfold cap60; omega)
  rw [hl1,hl2,mrg_stab,← ha,← hm,← hb] at this
  exact this
theorem blocks_loop {n:Int}:∀ (f k:Nat) (A l:List Blob),l.length≤f→f<k→A.length+l.length≤cap60→n=((A.length+l.length:Nat):Int) →
    ∃ d,Chk 20 l d∧slices_stableCmpFunc_Blob.l6 slices_stableCmpFunc_Blob.e1 k n (A++l) (A.length:Int) ((A.length+20:Nat):Int)=slices_stableCmpFunc_Blob.l2 big n (A++d) 20
  | f,k,A,l,h1,h2,hN,hn=>by
    obtain ⟨k,rfl⟩:∃ m,k=m+1:=⟨k - 1,by omega⟩
    have hN':A.length+l.length≤1152921504606846976:=hN
    rw [slices_stableCmpFunc_Blob.l6]
    by_cases hb:20≤l.length
    · rw [decide_eq_true (by omega)]
      simp only [cond_true]
      have e0:l=l.take 20++l.drop 20:=(List.take_append_drop 20 l).symm
      have ht:(l.take 20).length=20:=by rw [List.length_take]; omega
      have hd:(l.drop 20).length=l.length - 20:=by rw [List.length_drop]
      have hi:=ins_list (A:=A) (X:=l.take 20) (B:=l.drop 20) (by rw [ht]; unfold cap60; omega)
      rw [← e0,ht] at hi
      rw [hi]
      simp only [Option.bind_some]
      have w1:w64 (((A.length+20:Nat):Int)+20)=((A.length+20+20:Nat):Int):=by rw [w64_id (by omega) (by omega)]; omega
      rw [w1]
      have hs:=stab_len ltU_swo (l.take 20)
      obtain ⟨f',rfl⟩:∃ f',f=f'+1:=⟨f - 1,by omega⟩
      obtain ⟨d,d1,d2⟩:=blocks_loop (n:=n) f' k (A++stab ltU (l.take 20)) (l.drop 20) (by omega) (by omega) (by rw [List.length_append,hs,ht,hd]; unfold cap60; omega) (by rw [List.length_append,hs,ht,hd,hn]; omega)
      rw [List.length_append,hs,ht,List.append_assoc] at d2
      refine ⟨stab ltU (l.take 20)++d,?_,by rw [d2,List.append_assoc]⟩
      have:=Chk.step (l.take 20) (l.drop 20) d ht d1
      rwa [← e0] at this
    · rw [decide_eq_false (by omega)]
      simp only [cond_false]
      unfold slices_stableCmpFunc_Blob.e1
      have hi:=ins_list (A:=A) (X:=l) (B:=[]) hN
      rw [List.append_nil,List.append_nil] at hi
      rw [hn,hi]
      exact ⟨stab ltU l,.last l (by omega),rfl⟩
theorem pass_loop {j4:Int→List Blob→Int→Option (List Blob)} {n:Int} {bs:Nat} (hbs:0<bs) (hbs2:bs≤cap60):∀ (f k:Nat) (A l d:List Blob),l.length≤f→f<k→A.length+l.length≤cap60→n=((A.length+l.length:Nat):Int)→Chk bs l d →
    ∃ d',Chk (bs*2) l d'∧slices_stableCmpFunc_Blob.l5 (slices_stableCmpFunc_Blob.e3 j4) k n bs (A++d) (A.length:Int) ((A.length+2*bs:Nat):Int)=slices_stableCmpFunc_Blob.j4 j4 n bs (A++d')
  | f,k,A,l,d,h1,h2,hN,hn,hc=>by
    obtain ⟨k,rfl⟩:∃ m,k=m+1:=⟨k - 1,by omega⟩
    have hN':A.length+l.length≤1152921504606846976:=hN
    have hbs':bs≤1152921504606846976:=hbs2
    rw [slices_stableCmpFunc_Blob.l5]
    have w1:w64 ((A.length:Int)+(bs:Int))=((A.length+bs:Nat):Int):=by rw [w64_id (by omega) (by omega)]; omega
    by_cases hb:2*bs≤l.length
    · rw [decide_eq_true (by omega)]
      simp only [cond_true,w1]
      obtain ⟨l1,l2,d2,rfl,rfl,e1,c2⟩:=hc.parts (by omega)
      rw [List.length_append] at hb hN' h1 hN hn
      have hp:∃ l3 l4 d4,l2=l3++l4∧d2=stab ltU l3++d4∧l3.length=bs∧Chk bs l4 d4:=by
        by_cases hlt:bs<l2.length
        · exact c2.parts hlt
        · exact ⟨l2,[],[],by simp,by rw [c2.small (by omega)]; simp,by omega,by have:=Chk.last (bs:=bs) [] (by simp); simpa [stab] using this⟩
      obtain ⟨l3,l4,d4,rfl,rfl,e3,c4⟩:=hp
      rw [List.length_append] at hb hN' h1 hN hn
      have hl4:=c4.len
      have hsm:=sm_call (A:=A) (l1:=l1) (l2:=l3) (B:=d4) (a:=(A.length:Int)) (m:=((A.length+bs:Nat):Int)) (b:=((A.length+2*bs:Nat):Int)) rfl (by rw [e1]) (by rw [e1,e3]; omega) (by intro h; rw [h] at e1; simp at e1; omega) (by intro h; rw [h] at e3; simp at e3; omega) (by rw [hl4]; unfold cap60; omega)
      rw [hsm]
      simp only [Option.bind_some]
      have w2:w64 (2*(bs:Int))=((2*bs:Nat):Int):=by rw [w64_id (by omega) (by omega)]; omega
      have w3:w64 (((A.length+2*bs:Nat):Int)+((2*bs:Nat):Int))=((A.length+2*bs+2*bs:Nat):Int):=by rw [w64_id (by omega) (by omega)]; omega
      rw [w2,w3]
      have hs:=stab_len ltU_swo (l1++l3)
      rw [List.length_append,e1,e3] at hs
      obtain ⟨f',rfl⟩:∃ f',f=f'+1:=⟨f - 1,by omega⟩
      obtain ⟨d',g1,g2⟩:=pass_loop (j4:=j4) (n:=n) hbs hbs2 f' k (A++stab ltU (l1++l3)) l4 d4 (by omega) (by omega) (by rw [List.length_append,hs]; unfold cap60; omega) (by rw [List.length_append,hs,hn]; omega) c4
      rw [List.length_append,hs,List.append_assoc,show A.length+(bs+bs)=A.length+2*bs by omega] at g2
      refine ⟨stab ltU (l1++l3)++d',?_,by rw [g2,List.append_assoc]⟩
      have:=Chk.step (bs:=bs*2) (l1++l3) l4 d' (by rw [List.length_append]; omega) g1
      rwa [List.append_assoc] at this
    · rw [decide_eq_false (by omega)]
      simp only [cond_false]
      unfold slices_stableCmpFunc_Blob.e3
      rw [w1]
      by_cases hm:bs<l.length
      · rw [decide_eq_true (by omega)]
        simp only [cond_true]
        obtain ⟨l1,l2,d2,rfl,rfl,e1,c2⟩:=hc.parts hm
        rw [List.length_append] at hb hN' h1 hN hn hm
        have hd2:=c2.small (by omega)
        subst hd2
        have hsm:=sm_call (A:=A) (l1:=l1) (l2:=l2) (B:=[]) (a:=(A.length:Int)) (m:=((A.length+bs:Nat):Int)) (b:=n) rfl (by rw [e1]) (by rw [hn]; omega) (by intro h; rw [h] at e1; simp at e1; omega) (by intro h; rw [h] at hm; simp at hm; omega) (by simp; unfold cap60; omega)
        rw [List.append_nil,List.append_nil] at hsm
        rw [hsm]
        exact ⟨stab ltU (l1++l2),.last _ (by rw [List.length_append]; omega),rfl⟩
      · rw [decide_eq_false (by omega)]
        simp only [cond_false]
        have hd:=hc.small (by omega)
        subst hd
        exact ⟨stab ltU l,.last _ (by omega),rfl⟩
theorem passes {n:Int}:∀ (f k:Nat) (l d:List Blob) (bs:Nat),l.length - bs≤f→f<k→0<bs→bs≤2*l.length+40→l.length≤288230376151711744→n=(l.length:Int)→Chk bs l d→slices_stableCmpFunc_Blob.l2 k n d bs=some (stab ltU l)
  | f,k,l,d,bs,h1,h2,hbs,hb2,hN,hn,hc=>by
    obtain ⟨k,rfl⟩:∃ m,k=m+1:=⟨k - 1,by omega⟩
    rw [slices_stableCmpFunc_Blob.l2]
    by_cases hb:bs<l.length
    · rw [decide_eq_true (by omega)]
      simp only [cond_true]
      have w1:w64 (2*(bs:Int))=((2*bs:Nat):Int):=by rw [w64_id (by omega) (by omega)]; omega
      rw [w1]
      obtain ⟨d',g1,g2⟩:=pass_loop (j4:=slices_stableCmpFunc_Blob.l2 k) (n:=n) hbs (by unfold cap60; omega) l.length big [] l d (Nat.le_refl _) (by unfold big; omega) (by simp; unfold cap60; omega) (by rw [hn]; simp) hc
      simp only [List.nil_append,List.length_nil,Nat.zero_add] at g2
      rw [show ((0:Nat):Int)=0 from rfl] at g2
      rw [g2]
      unfold slices_stableCmpFunc_Blob.j4
      have w2:w64 ((bs:Int)*2)=((bs*2:Nat):Int):=by rw [w64_id (by omega) (by omega)]; omega
      rw [w2]
      obtain ⟨f',rfl⟩:∃ f',f=f'+1:=⟨f - 1,by omega⟩
      exact passes f' k l d' (bs*2) (by omega) (by omega) (by omega) (by omega) hN hn g1
    · rw [decide_eq_false (by omega)]
      simp only [cond_false]
      rw [hc.small (by omega)]
theorem sortStable_prog {l:List Blob} (h:l.length≤288230376151711744):slices_SortStableFunc_Blob.f l=some (stab ltU l):=by
  unfold slices_SortStableFunc_Blob.f slices_stableCmpFunc_Blob.f
  obtain ⟨d,d1,d2⟩:=blocks_loop (n:=(l.length:Int)) l.length big [] l (Nat.le_refl _) (by unfold big; omega) (by simp; unfold cap60; omega) (by simp)
  simp only [List.nil_append,List.length_nil,Nat.zero_add] at d2
  have e0:slices_stableCmpFunc_Blob.l6 slices_stableCmpFunc_Blob.e1 big (l.length:Int) l 0 20=slices_stableCmpFunc_Blob.l2 big (l.length:Int) d 20:=d2
  rw [e0]
  have:=passes (n:=(l.length:Int)) l.length big l d 20 (by omega) (by unfold big; omega) (by omega) (by omega) h rfl d1
  rw [show ((20:Nat):Int)=20 from rfl] at this
  rw [this]
  rfl
end Go.Proofs.YtkjilepjblffeaaDoor
