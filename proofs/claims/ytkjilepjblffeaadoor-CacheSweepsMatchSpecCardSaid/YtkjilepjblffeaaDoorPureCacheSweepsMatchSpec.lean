/- CacheSweepsMatchSpec over plain data: what is swept and what is shrunk is the same, with all errors. -/
import Derived.Test.YtkjilepjblffeaaDoorPRef7W
import Derived.Test.YtkjilepjblffeaaDoorPureSCacheSweepsMatchSpec
set_option linter.unusedVariables false
set_option linter.unusedSimpArgs false
namespace Go.Proofs.YtkjilepjblffeaaDoor
open Go Go.Proofs.YtkjilepjblffeaaDoor.Kit
theorem fit_of {c:Cache} (h:fitCache c):Fit c:=by
  obtain ⟨-,-,⟨h3,h3'⟩,⟨h4,h4'⟩⟩:=h
  exact fit_raw h3 (fun x hx=>(h3' x hx).1) h4 (fun x hx=>⟨(h4' x hx).1,(h4' x hx).2.1.1,(h4' x hx).2.1.2⟩)
theorem small_zero:smallCache zeroC:=⟨⟨by simp [zeroC],fun x hx=>by cases hx⟩,⟨by simp [zeroC],fun x hx=>by cases hx⟩⟩
theorem small_sub {c:Cache} (h:smallCache c) {r l:Int} {bl:List Blob} {es:List Entry} (hb:bl.length≤c.Blobs.length∧∀ x∈bl,x∈c.Blobs) (he:es.length≤c.Entries.length∧∀ x∈es,x∈c.Entries):smallCache ⟨r,l,bl,es⟩ :=
  ⟨⟨Nat.le_trans hb.1 h.1.1,fun x hx=>h.1.2 x (hb.2 x hx)⟩,⟨Nat.le_trans he.1 h.2.1,fun x hx=>h.2.2 x (he.2 x hx)⟩⟩
theorem sweptS_some {c:Cache} (h:Fit c) (roots:List ByteArray) (t:Int):∃ r,sweptS c roots t=some r∧smallCache r.1∧r.2.1.length≤140737488355328:=by
  unfold sweptS
  obtain ⟨f,e1,e2,_⟩:=checkAtS_cases c t
  rw [e1]
  simp only [Option.bind_some]
  cases h0:f != 0
  · have hd:∃ g,digestsS roots 3000=some g:=by
      unfold digestsS
      cases decide ((3000:Int)<(roots.length:Int))
      · exact refsS_some roots
      · exact ⟨_,rfl⟩
    obtain ⟨g,hg⟩:=hd
    rw [hg]
    simp only [cond_false,Option.bind_some]
    cases h1:g != 0
    · have hfb:=h.fb
      refine ⟨_,rfl,small_sub h.small ⟨List.length_filter_le _ _,fun x hx=>(List.mem_filter.1 hx).1⟩ ⟨List.length_filter_le _ _,fun x hx=>(List.mem_filter.1 hx).1⟩,?_⟩
      simp only [goneS,List.length_map]
      exact Nat.le_trans (List.length_filter_le _ _) (by omega)
    · exact ⟨_,rfl,small_zero,by simp⟩
  · exact ⟨_,rfl,small_zero,by simp⟩
theorem shrunkS_some {c:Cache} (h:Fit c) (room t:Int):∃ r,shrunkS c room t=some r∧smallCache r.1∧r.2.1.length≤140737488355328:=by
  unfold shrunkS
  obtain ⟨f,e1,e2,_⟩:=checkAtS_cases c t
  rw [e1]
  simp only [Option.bind_some]
  cases h0:f != 0
  · simp only [cond_false]
    cases hr:inR 0 1000000000 room
    · exact ⟨_,rfl,small_zero,by simp⟩
    · simp only [Bool.not_true,cond_false]
      cases hc:(clearS c room t).2.1
      · exact ⟨_,rfl,small_zero,by simp⟩
      · have hfb:=h.fb
        have h2:(clearS c room t).2.2.Blobs.length≤c.Blobs.length∧∀ x∈(clearS c room t).2.2.Blobs,x∈c.Blobs:=by
          unfold clearS
          cases decide (sumI (leavingS c t)<sumI c.Blobs - room)
          · exact ⟨List.length_filter_le _ _,fun x hx=>(List.mem_filter.1 hx).1⟩
          · exact ⟨Nat.le_refl _,fun x hx=>hx⟩
        refine ⟨_,rfl,small_sub h.small h2 ⟨Nat.le_refl _,fun x hx=>hx⟩,?_⟩
        have h3:(clearS c room t).1.length≤c.Blobs.length:=by
          unfold clearS
          cases decide (sumI (leavingS c t)<sumI c.Blobs - room)
          · obtain ⟨r,hr2⟩:=goN_prefix (leavingS c t) (sumI c.Blobs - room)
            have h4:(goneL c room t).length+r.length=(leavingS c t).length:=by rw [hr2,List.length_append]; rfl
            have:=leaving_len c t
            show (goneD c room t).length≤_
            unfold goneD
            rw [List.length_map]
            omega
          · exact Nat.zero_le _
        exact Nat.le_trans h3 (by omega)
  · exact ⟨_,rfl,small_zero,by simp⟩
theorem CacheSweepsMatchSpec_pure:CacheSweepsMatchSpec_Pure:=by
  intro c roots room t hc hroots hroom ht
  have hf:=fit_of hc
  obtain ⟨hrs,hrl⟩:=strs_raw hroots.1 hroots.2
  unfold smithyardlaw7_CacheSweepsMatchSpec.f
  obtain ⟨r,hr,hr2,hr3⟩:=sweptS_some hf roots t
  obtain ⟨q,hq,hq2,hq3⟩:=shrunkS_some hf room t
  have hcl:slices_Clone_string.f roots=some roots:=slices_Clone_string_id hrl
  have e1:smithyardref7_Swept.f (⟨c.Room,c.Lease,c.Blobs,c.Entries⟩:Cache) roots t=some r:=(sweptR hf hrs).trans hr
  have e2:smithyardref7_Shrunk.f (⟨c.Room,c.Lease,c.Blobs,c.Entries⟩:Cache) room t=some q:=(shrunkR hf).trans hq
  have e3:smithyardref7_Same.f (⟨r.1.Room,r.1.Lease,r.1.Blobs,r.1.Entries⟩:Cache) (⟨r.1.Room,r.1.Lease,r.1.Blobs,r.1.Entries⟩:Cache)=some true:=same_self hr2
  have e4:smithyardref7_Same.f (⟨q.1.Room,q.1.Lease,q.1.Blobs,q.1.Entries⟩:Cache) (⟨q.1.Room,q.1.Lease,q.1.Blobs,q.1.Entries⟩:Cache)=some true:=same_self hq2
  have e5:smithyardref7_Same.f c (⟨c.Room,c.Lease,c.Blobs,c.Entries⟩:Cache)=some true:=same_self hf.small
  rw [copy_id hf.fb hf.fe hf.fr]
  simp only [Option.bind_some,hcl,swept_prog hf hrs,hr,e1,e3,Bool.not_true,cond_false,slices_Equal_string_self (show r.2.1.length≤4611686018427387904 by omega),bne_self_eq_false,shrunk_prog hf,hq,e2,e4,cond_true,slices_Equal_string_self (show q.2.1.length≤4611686018427387904 by omega),beq_self_eq_true,e5,slices_Equal_string_self (show roots.length≤4611686018427387904 by omega),awake7]
end Go.Proofs.YtkjilepjblffeaaDoor
