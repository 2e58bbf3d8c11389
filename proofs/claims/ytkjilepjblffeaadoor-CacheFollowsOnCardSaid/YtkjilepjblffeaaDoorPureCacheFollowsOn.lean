/- CacheFollowsOn over plain data: events can be followed in two parts. -/
import Derived.Test.YtkjilepjblffeaaDoorPAns
import Derived.Test.YtkjilepjblffeaaDoorPureSCacheFollowsOn
set_option linter.unusedVariables false
set_option linter.unusedSimpArgs false
namespace Go.Proofs.YtkjilepjblffeaaDoor
open Go Go.Proofs.YtkjilepjblffeaaDoor.Kit
theorem fit_of {c:Cache} (h:fitCache c):Fit c:=by
  obtain ⟨-,-,⟨h3,h3'⟩,⟨h4,h4'⟩⟩:=h
  exact fit_raw h3 (fun x hx=>(h3' x hx).1) h4 (fun x hx=>⟨(h4' x hx).1,(h4' x hx).2.1.1,(h4' x hx).2.1.2⟩)
theorem concat_ev {l m:List CacheEvent} (h:(l.length+m.length)*80≤140737490452480):slices_Concat_CacheEvent.f [l,m]=some (l++m):=by
  obtain ⟨k,hk⟩:∃ k,big=k+3:=⟨big - 3,by unfold big; omega⟩
  have w1:w64 (0+(l.length:Int))=(l.length:Int):=by rw [Int.zero_add]; exact w64_id (by omega) (by omega)
  have w2:w64 ((l.length:Int)+(m.length:Int))=((l.length+m.length:Nat):Int):=by rw [w64_id (by omega) (by omega)]; omega
  have i1:w64 ((0:Int)+1)=1:=w64_id (by omega) (by omega)
  have i2:w64 ((1:Int)+1)=2:=w64_id (by omega) (by omega)
  have a0:at? [l,m] 0=some l:=rfl
  have a1:at? [l,m] 1=some m:=rfl
  have d0:decide ((0:Int)<(([l,m].length:Nat):Int))=true:=rfl
  have d1:decide ((1:Int)<(([l,m].length:Nat):Int))=true:=rfl
  have d2:decide ((2:Int)<(([l,m].length:Nat):Int))=false:=rfl
  have n1:decide ((l.length:Int)<0)=false:=decide_eq_false (by omega)
  have n2:decide (((l.length+m.length:Nat):Int)<0)=false:=decide_eq_false (by omega)
  have hg:slices_Grow_CacheEvent.f [] ((l.length+m.length:Nat):Int)=some []:=by
    unfold slices_Grow_CacheEvent.f
    rw [guard?_true]
    rw [decide_eq_true (by omega),Int.toNat_natCast,room_of (by omega)]
    rfl
  have h2:slices_Concat_CacheEvent.l3 slices_Concat_CacheEvent.e2 big [l,m] [] 0=some (l++m):=by
    rw [hk,slices_Concat_CacheEvent.l3,d0,a0]
    simp only [cond_true,Option.bind_some,i1,List.nil_append,List.length_nil]
    rw [guard?_true (room_of (by omega)),slices_Concat_CacheEvent.l3,d1,a1]
    simp only [cond_true,Option.bind_some,i2]
    rw [guard?_true (room_of (by omega)),slices_Concat_CacheEvent.l3,d2]
    rfl
  have h1:slices_Concat_CacheEvent.e1 [l,m] ((l.length+m.length:Nat):Int)=some (l++m):=by
    unfold slices_Concat_CacheEvent.e1
    rw [hg]
    exact h2
  unfold slices_Concat_CacheEvent.f
  rw [hk,slices_Concat_CacheEvent.l4,d0,a0]
  simp only [cond_true,Option.bind_some,w1,n1,cond_false,slices_Concat_CacheEvent.j5,i1]
  rw [slices_Concat_CacheEvent.l4,d1,a1]
  simp only [cond_true,Option.bind_some,w2,n2,cond_false,slices_Concat_CacheEvent.j5,i2]
  rw [slices_Concat_CacheEvent.l4,d2]
  exact h1
theorem concat_an {l m:List CacheAnswer} (h:(l.length+m.length)*56≤140737490452480):slices_Concat_CacheAnswer.f [l,m]=some (l++m):=by
  obtain ⟨k,hk⟩:∃ k,big=k+3:=⟨big - 3,by unfold big; omega⟩
  have w1:w64 (0+(l.length:Int))=(l.length:Int):=by rw [Int.zero_add]; exact w64_id (by omega) (by omega)
  have w2:w64 ((l.length:Int)+(m.length:Int))=((l.length+m.length:Nat):Int):=by rw [w64_id (by omega) (by omega)]; omega
  have i1:w64 ((0:Int)+1)=1:=w64_id (by omega) (by omega)
  have i2:w64 ((1:Int)+1)=2:=w64_id (by omega) (by omega)
  have a0:at? [l,m] 0=some l:=rfl
  have a1:at? [l,m] 1=some m:=rfl
  have d0:decide ((0:Int)<(([l,m].length:Nat):Int))=true:=rfl
  have d1:decide ((1:Int)<(([l,m].length:Nat):Int))=true:=rfl
  have d2:decide ((2:Int)<(([l,m].length:Nat):Int))=false:=rfl
  have n1:decide ((l.length:Int)<0)=false:=decide_eq_false (by omega)
  have n2:decide (((l.length+m.length:Nat):Int)<0)=false:=decide_eq_false (by omega)
  have hg:slices_Grow_CacheAnswer.f [] ((l.length+m.length:Nat):Int)=some []:=by
    unfold slices_Grow_CacheAnswer.f
    rw [guard?_true]
    rw [decide_eq_true (by omega),Int.toNat_natCast,room_of (by omega)]
    rfl
  have h2:slices_Concat_CacheAnswer.l3 slices_Concat_CacheAnswer.e2 big [l,m] [] 0=some (l++m):=by
    rw [hk,slices_Concat_CacheAnswer.l3,d0,a0]
    simp only [cond_true,Option.bind_some,i1,List.nil_append,List.length_nil]
    rw [guard?_true (room_of (by omega)),slices_Concat_CacheAnswer.l3,d1,a1]
    simp only [cond_true,Option.bind_some,i2]
    rw [guard?_true (room_of (by omega)),slices_Concat_CacheAnswer.l3,d2]
    rfl
  have h1:slices_Concat_CacheAnswer.e1 [l,m] ((l.length+m.length:Nat):Int)=some (l++m):=by
    unfold slices_Concat_CacheAnswer.e1
    rw [hg]
    exact h2
  unfold slices_Concat_CacheAnswer.f
  rw [hk,slices_Concat_CacheAnswer.l4,d0,a0]
  simp only [cond_true,Option.bind_some,w1,n1,cond_false,slices_Concat_CacheAnswer.j5,i1]
  rw [slices_Concat_CacheAnswer.l4,d1,a1]
  simp only [cond_true,Option.bind_some,w2,n2,cond_false,slices_Concat_CacheAnswer.j5,i2]
  rw [slices_Concat_CacheAnswer.l4,d2]
  exact h1
theorem CacheFollowsOn_pure:CacheFollowsOn_Pure:=by
  intro c l m hc hl hm
  have hf:=fit_of hc
  have hsl:∀ e∈l,smallStrs e.Digests:=fun e he=>(strs_raw (hl.2 e he).2.2.2.1.1 (hl.2 e he).2.2.2.1.2).1
  have hsm:∀ e∈m,smallStrs e.Digests:=fun e he=>(strs_raw (hm.2 e he).2.2.2.1.1 (hm.2 e he).2.2.2.1.2).1
  have hsa:∀ e∈l++m,smallStrs e.Digests:=fun e he=>(List.mem_append.1 he).elim (hsl e) (hsm e)
  have hml:=hm.1
  simp only [reachBytes] at hml
  unfold smithyardlaw7_CacheFollowsOn.f
  rw [followF_prog hf hsl]
  rcases followF_cases c l with ⟨f,hf0,q⟩ | ⟨ok,hlen,hz,ok1,q⟩
  · rw [q]
    have:(f != 0)=true:=by simpa using hf0
    simp only [Option.bind_some,this,cond_true,awake7]
    rfl
  rw [q]
  simp only [Option.bind_some,bne_self_eq_false,cond_false]
  have e1:cache_Follow.f (⟨(followS l c []).1.Room,(followS l c []).1.Lease,(followS l c []).1.Blobs,(followS l c []).1.Entries⟩:Cache) m=followF (followS l c []).1 m:=followF_prog ok1.fit hsm
  have e2:=concat_ev (l:=l) (m:=m) (by omega)
  have hw:w64 ((l.length:Int)+(m.length:Int))=((l++m).length:Int):=by rw [w64_id (by omega) (by omega),List.length_append]; omega
  have hlA:=follow_len l c []
  have hsA:=follow_small l c [] ok (fun a ha=>by cases ha)
  have happ:=follow_app l m c []
  rw [e1,e2,hw]
  have hbz:((followS l c []).2.1 != 0)=false:=by rw [hz]; rfl
  rw [hbz,cond_false,follow_acc m] at happ
  simp only [Option.bind_some]
  rw [followF_prog hf hsa]
  generalize (followS l c [])=r at *
  cases hbig:decide (3000<((l++m).length:Int))
  · have hmm:m.length≤3000:=by
      have:=of_decide_eq_false hbig
      rw [List.length_append] at this
      omega
    have q5:followF c (l++m)=bif (followS m r.1 []).2.1 != 0 then some ((⟨0,0,[],[]⟩:Cache),[],(followS m r.1 []).2.1) else some ((followS m r.1 []).1,r.2.2++(followS m r.1 []).2.2,0):=by
      unfold followF
      rw [ok.check,happ]
      simp only [Option.bind_some,bne_self_eq_false,cond_false,hbig]
    have q3:followF r.1 m=bif (followS m r.1 []).2.1 != 0 then some ((⟨0,0,[],[]⟩:Cache),[],(followS m r.1 []).2.1) else some ((followS m r.1 []).1,(followS m r.1 []).2.2,0):=by
      unfold followF
      rw [ok1.check]
      simp only [Option.bind_some,bne_self_eq_false,cond_false]
      rw [decide_eq_false (by omega)]
      rfl
    rw [q5,q3]
    have hlB:=follow_len m r.1 []
    have hsB:=follow_small m r.1 [] ok1 (fun a ha=>by cases ha)
    cases hx:(followS m r.1 []).2.1 != 0
    · have ok2:=((follow_peak m r.1 [] 0 ok1).2.2 (by simpa using hx)).1
      generalize (followS m r.1 [])=x at *
      have e7:smithyardref7_Same.f (⟨x.1.Room,x.1.Lease,x.1.Blobs,x.1.Entries⟩:Cache) (⟨x.1.Room,x.1.Lease,x.1.Blobs,x.1.Entries⟩:Cache)=some true:=same_self (c:=x.1) ok2.fit.small
      simp only [List.length_nil] at hlA hlB
      have e8:=concat_an (l:=r.2.2) (m:=x.2.2) (by omega)
      have e9:=sameAns_self (l:=r.2.2++x.2.2) (by rw [List.length_append]; omega) (fun a ha=>(List.mem_append.1 ha).elim (hsA a) (hsB a))
      simp only [cond_false,Option.bind_some,bne_self_eq_false,e7,cond_true,e8,e9,awake7]
    · simp only [cond_true,Option.bind_some,hx,beq_self_eq_true,awake7]
      rfl
  · have q5:followF c (l++m)=some ((⟨0,0,[],[]⟩:Cache),[],2):=by
      unfold followF
      rw [ok.check]
      simp only [Option.bind_some,bne_self_eq_false,cond_false,hbig,cond_true]
    rw [q5]
    rcases followF_cases r.1 m with ⟨f,hf0,q3⟩ | ⟨_,_,_,_,q3⟩
    · rw [q3]
      simp only [Option.bind_some,cond_true,beq_self_eq_true,awake7]
    · rw [q3]
      simp only [Option.bind_some,cond_true,beq_self_eq_true,awake7]
end Go.Proofs.YtkjilepjblffeaaDoor
