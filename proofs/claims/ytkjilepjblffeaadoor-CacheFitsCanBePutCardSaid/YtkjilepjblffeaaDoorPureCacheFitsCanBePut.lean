/- CacheFitsCanBePut over plain data: what fits can be put, and what goes then is what would go next. -/
import Derived.Test.YtkjilepjblffeaaDoorPLaw7
import Derived.Test.YtkjilepjblffeaaDoorPureSCacheFitsCanBePut
set_option linter.unusedVariables false
set_option linter.unusedSimpArgs false
namespace Go.Proofs.YtkjilepjblffeaaDoor
open Go Go.Proofs.YtkjilepjblffeaaDoor.Kit
theorem fit_of {c:Cache} (h:fitCache c):Fit c:=by
  obtain ⟨-,-,⟨h3,h3'⟩,⟨h4,h4'⟩⟩:=h
  exact fit_raw h3 (fun x hx=>(h3' x hx).1) h4 (fun x hx=>⟨(h4' x hx).1,(h4' x hx).2.1.1,(h4' x hx).2.1.2⟩)
theorem doS1_cases (c:Cache) (dig:ByteArray) (size t:Int):∃ r,doS1 c dig size t=some r∧((r.2.2≠0∧r.2.1.Done=false)∨(r.2.2=0∧r.2.1=(putS c dig size t).1∧(putS c dig size t).2.1=0)):=by
  unfold doS1
  obtain ⟨f,e1⟩:=cacheS_some c
  rw [e1]
  simp only [Option.bind_some]
  cases h0:f != 0
  · cases h1:eventS1 dig size t != 0
    · cases h2:decide (t<newestS c)
      · cases h3:(putS c dig size t).2.1 != 0
        · exact ⟨_,rfl,.inr ⟨rfl,rfl,by simpa using h3⟩⟩
        · exact ⟨_,rfl,.inl ⟨by simpa using h3,rfl⟩⟩
      · exact ⟨_,rfl,.inl ⟨by simp,rfl⟩⟩
    · exact ⟨_,rfl,.inl ⟨by simpa using h1,rfl⟩⟩
  · exact ⟨_,rfl,.inl ⟨by simpa using h0,rfl⟩⟩
theorem CacheFitsCanBePut_pure:CacheFitsCanBePut_Pure:=by
  intro c dig size t hc hdig hsize ht
  have hf:=fit_of hc
  unfold smithyardlaw7_CacheFitsCanBePut.f
  rw [fits_prog hf]
  unfold fitsS
  obtain ⟨f,k1,k2,k3⟩:=checkAtS_cases c t
  rw [k1]
  simp only [Option.bind_some]
  cases h0:f != 0
  · have hz:f=0:=by simpa using h0
    have ok:=cacheS_ok (k2 hz).1
    subst hz
    have hbl:=ok.bl
    have hlen:=leaving_len c t
    simp only [cond_false]
    cases hr:inR 0 100000000 size
    · simp only [Bool.not_false,cond_true,Option.bind_some,awake7]
      rfl
    · simp only [Bool.not_true,cond_false,Option.bind_some,bne_self_eq_false]
      rw [do1_prog hf]
      obtain ⟨r,e,hcase⟩:=doS1_cases c dig size t
      rw [e]
      obtain ⟨y,b,eb,hb,_⟩:=blob_law (c:=c) (by omega) dig
      simp only [Option.bind_some,eb]
      rcases hcase with ⟨q1,q2⟩ | ⟨q1,q2,q3⟩
      · have q1':(r.2.2 != 0)=true:=by simpa using q1
        have q1'':(r.2.2 == 0)=false:=by simpa using q1
        have hc1:(bif b then some true else some (r.2.2 != 0))=some true:=by rw [q1']; cases b <;> rfl
        simp only [hc1,Option.bind_some,cond_true,q1'',cond_false,q2,Bool.not_false,awake7]
      · rw [q1,q2]
        cases hbb:b
        · simp only [cond_false,bne_self_eq_false,Option.bind_some]
          have hno:c.Blobs.any (fun x=>sEq x.Digest dig)=false:=by rw [← hbb,hb]; rfl
          rw [next_prog hf]
          unfold nextS
          rw [k1]
          simp only [Option.bind_some,bne_self_eq_false,cond_false,beq_self_eq_true,cond_true]
          have hput:putS c dig size t=(bif !(clearS c (c.Room - size) t).2.1 then (noA,0,(clearS c (c.Room - size) t).2.2) else
            bif decide (3000≤((clearS c (c.Room - size) t).2.2.Blobs.length:Int)) then (noA,16,(clearS c (c.Room - size) t).2.2) else
            (⟨true,[],(clearS c (c.Room - size) t).1⟩,0,⟨c.Room,c.Lease,insAt (clearS c (c.Room - size) t).2.2.Blobs (placeOf (fun x:Blob=>x.Digest) (clearS c (c.Room - size) t).2.2.Blobs dig) ⟨dig,size,t,t+c.Lease,0⟩,c.Entries⟩)):=by
            unfold putS
            rw [hno]
            rfl
          cases hcv:decide (sumI (leavingS c t)<sumI c.Blobs - (c.Room - size))
          · have hcl:clearS c (c.Room - size) t=(goneD c (c.Room - size) t,true,dropC c (goneD c (c.Room - size) t)):=by unfold clearS; rw [hcv]; rfl
            have hd:decide (sumI c.Blobs+size - c.Room≤sumI (leavingS c t))=true:=by
              have:=of_decide_eq_false hcv
              exact decide_eq_true (by omega)
            rw [hd]
            rw [hcl] at hput
            simp only [Bool.not_true,cond_false] at hput
            cases hq:decide (3000≤((dropC c (goneD c (c.Room - size) t)).Blobs.length:Int))
            · rw [hq] at hput
              simp only [cond_false] at hput
              rw [hput]
              obtain ⟨w,hw⟩:=goN_prefix (leavingS c t) (sumI c.Blobs - (c.Room - size))
              have hpre:(leavingS c t).map (fun b=>b.Digest)=goneD c (c.Room - size) t++w.map (fun b=>b.Digest):=by
                unfold goneD goneL
                rw [← List.map_append,← hw]
              have hlen2:(goneD c (c.Room - size) t).length≤((leavingS c t).map (fun b=>b.Digest)).length:=by rw [hpre,List.length_append]; omega
              have htk:((leavingS c t).map (fun b=>b.Digest)).take (goneD c (c.Room - size) t).length=goneD c (c.Room - size) t:=by rw [hpre,List.take_left]
              rw [List.length_map] at hlen2
              have hcnd:(decide ((0:Int)≤((goneD c (c.Room - size) t).length:Int))&&decide (((goneD c (c.Room - size) t).length:Int)≤((((leavingS c t).map (fun b=>b.Digest)).length:Nat):Int)))=true:=by
                rw [List.length_map]
                simp
                omega
              simp only [beq_self_eq_true,cond_true]
              rw [decide_eq_true (show ((goneD c (c.Room - size) t).length:Int)≤(((leavingS c t).map (fun b=>b.Digest)).length:Int) by rw [List.length_map]; omega)]
              simp only [cond_true,guard?_true hcnd,Int.toNat_natCast,htk]
              rw [slices_Equal_string_self (by omega)]
              simp only [Option.bind_some,cond_true,awake7]
              rw [decide_eq_true (show (0:Int)≤((goneD c (c.Room - size) t).length:Int) by omega)]
              rfl
            · rw [hq] at hput
              simp only [cond_true] at hput
              rw [hput] at q3
              exact absurd q3 (by simp)
          · have hcl:clearS c (c.Room - size) t=([],false,c):=by unfold clearS; rw [hcv]; rfl
            have hd:decide (sumI c.Blobs+size - c.Room≤sumI (leavingS c t))=false:=by
              have:=of_decide_eq_true hcv
              exact decide_eq_false (by omega)
            rw [hd]
            rw [hcl] at hput
            simp only [Bool.not_false,cond_true] at hput
            rw [hput]
            simp only [noA,beq_self_eq_true,cond_true,List.length_nil]
            have hs:=slices_Equal_string_self (show ([]:List ByteArray).length≤4611686018427387904 by simp)
            simp [guard?,hs,awake7]
        · simp only [cond_true,Option.bind_some,beq_self_eq_true,awake7]
  · simp only [cond_true,Option.bind_some,h0,Bool.not_false,awake7]
end Go.Proofs.YtkjilepjblffeaaDoor
