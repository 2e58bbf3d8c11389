/- Caches: looking up blobs and entries as the laws do; the put event, and what it keeps. -/
import Derived.Test.YtjdnnkdhajhdkaaGreatDoorPDo
set_option linter.unusedVariables false
set_option linter.unusedSimpArgs false
namespace Go.Proofs.YtjdnnkdhajhdkaaGreatDoor
open Go Go.Proofs.YtjdnnkdhajhdkaaGreatDoor.Kit
def hasK {α:Type} (key:α→ByteArray) (l:List α) (d:ByteArray):Bool:=l.any (fun x=>sEq (key x) d)
end Go.Proofs.YtjdnnkdhajhdkaaGreatDoor

namespace Go.Proofs.YtjdnnkdhajhdkaaGreatDoor
open Go Go.Proofs.YtjdnnkdhajhdkaaGreatDoor.Kit
theorem fold_le {α:Type} {u:α→Int} {t:Int}:∀ (l:List α) (a:Int),l.foldl (fun n x=>max2 n (u x)) a≤t↔a≤t∧∀ x∈l,u x≤t
  | [],a=>by simp
  | x::l,a=>by
    rw [List.foldl_cons,fold_le l]
    have:max2 a (u x)≤t↔a≤t∧u x≤t:=by
      unfold max2
      by_cases h:u x > a
      · rw [if_pos h]; omega
      · rw [if_neg h]; omega
    rw [this]
    simp only [List.mem_cons,forall_eq_or_imp]
    exact and_assoc
theorem newest_le {c:Cache} {t:Int}:newestS c≤t↔(0≤t∧∀ x∈c.Blobs,x.Used≤t)∧∀ x∈c.Entries,x.Used≤t:=by
  unfold newestS
  rw [fold_le,fold_le]
theorem ins_perm {α:Type} (l:List α) (p:Nat) (x:α):(insAt l p x).Perm (x::l):=by
  unfold insAt
  have h:(l.take p++[x]++l.drop p).Perm (x::(l.take p++l.drop p)):=by
    rw [List.append_assoc]
    exact List.perm_middle
  rw [List.take_append_drop] at h
  exact h
theorem touch_size (t lease:Int) (a3 a4:Bool) (ds:List ByteArray):∀ (l:List Blob) (s:Int),sumW s (touchL t lease a3 a4 ds l)=sumW s l
  | [],s=>rfl
  | x::l,s=>by
    have e:(bif memB ds x.Digest then touchB t lease a3 a4 x else x).Size=x.Size:=by cases memB ds x.Digest <;> rfl
    show sumW (w64 (s+(bif memB ds x.Digest then touchB t lease a3 a4 x else x).Size)) (touchL t lease a3 a4 ds l)=sumW (w64 (s+x.Size)) l
    rw [e]
    exact touch_size t lease a3 a4 ds l _
theorem ok_touch {c:Cache} (ok:OkCache c) {t:Int} (ht0:0≤t) (ht1:t≤1000000000) (a3 a4:Bool) (ds:List ByteArray):OkCache ⟨c.Room,c.Lease,touchL t c.Lease a3 a4 ds c.Blobs,c.Entries⟩:=by
  have hl0:=ok.lease0
  have hl1:=ok.lease1
  refine ⟨ok.room0,ok.room1,hl0,hl1,by simp only [touchL,List.length_map]; exact ok.bl,fun x hx=>?_,?_,?_,ok.el,ok.ee,ok.es⟩
  · obtain ⟨y,hy,rfl⟩:=List.mem_map.1 hx
    obtain ⟨b1,b2,b3,b4,b5,b6,b7,b8,b9⟩:=ok.be y hy
    cases memB ds y.Digest
    · exact ⟨b1,b2,b3,b4,b5,b6,b7,b8,b9⟩
    · refine ⟨b1,b2,b3,?_,?_,?_,?_,b8,b9⟩
      · simp only [cond_true,touchB]; cases a3 <;> simp only [cond_true,cond_false] <;> omega
      · simp only [cond_true,touchB]; cases a3 <;> simp only [cond_true,cond_false] <;> omega
      · simp only [cond_true,touchB]; cases a4 <;> simp only [cond_true,cond_false,max2]
        · omega
        · split <;> omega
      · simp only [cond_true,touchB]; cases a4 <;> simp only [cond_true,cond_false,max2]
        · omega
        · split <;> omega
  · exact map_srt (fun y=>by cases memB ds y.Digest <;> rfl) ok.bs
  · simp only
    rw [touch_size]
    exact ok.sum
theorem touch_has (t lease:Int) (a3 a4:Bool) (ds:List ByteArray) (d:ByteArray):∀ (l:List Blob),(touchL t lease a3 a4 ds l).any (fun x=>sEq x.Digest d)=l.any (fun x=>sEq x.Digest d)
  | []=>rfl
  | x::l=>by
    have e:(bif memB ds x.Digest then touchB t lease a3 a4 x else x).Digest=x.Digest:=by cases memB ds x.Digest <;> rfl
    have ih:=touch_has t lease a3 a4 ds d l
    unfold touchL at ih ⊢
    rw [List.map_cons,List.any_cons,List.any_cons,e,ih]
theorem touch_newest {c:Cache} {t:Int} (h:newestS c≤t) (a4:Bool) (ds:List ByteArray):newestS ⟨c.Room,c.Lease,touchL t c.Lease true a4 ds c.Blobs,c.Entries⟩≤t:=by
  obtain ⟨⟨h0,h1⟩,h2⟩:=newest_le.1 h
  refine newest_le.2 ⟨⟨h0,fun x hx=>?_⟩,h2⟩
  obtain ⟨y,hy,rfl⟩:=List.mem_map.1 hx
  have:=h1 y hy
  cases memB ds y.Digest
  · exact this
  · exact Int.le_refl t
theorem put_ok {c:Cache} (ok:OkCache c) {dig:ByteArray} {size t:Int} (hd:isDigB dig=true) (hs0:0≤size) (hs1:size≤100000000) (ht0:0≤t) (ht1:t≤1000000000) (hn:newestS c≤t) (h0:(putS c dig size t).2.1=0) :
    OkCache (putS c dig size t).2.2∧newestS (putS c dig size t).2.2≤t∧((putS c dig size t).2.2.Blobs.any (fun x=>sEq x.Digest dig))=(putS c dig size t).1.Done∧((putS c dig size t).1.Done=false→(putS c dig size t).2.2=c∧(putS c dig size t).1.Gone=[]):=by
  have hl0:=ok.lease0
  have hl1:=ok.lease1
  have hr0:=ok.room0
  have hr1:=ok.room1
  cases ha:c.Blobs.any (fun x=>sEq x.Digest dig)
  · cases hcv:decide (sumI (leavingS c t)<sumI c.Blobs - (c.Room - size))
    · have hcl:clearS c (c.Room - size) t=(goneD c (c.Room - size) t,true,dropC c (goneD c (c.Room - size) t)):=by unfold clearS; rw [hcv]; rfl
      have hput:putS c dig size t=(bif decide (3000≤((dropC c (goneD c (c.Room - size) t)).Blobs.length:Int)) then (noA,16,dropC c (goneD c (c.Room - size) t)) else
            (⟨true,[],goneD c (c.Room - size) t⟩,0,⟨c.Room,c.Lease,insAt (dropC c (goneD c (c.Room - size) t)).Blobs (placeOf (fun x:Blob=>x.Digest) (dropC c (goneD c (c.Room - size) t)).Blobs dig) ⟨dig,size,t,t+c.Lease,0⟩,c.Entries⟩)):=by
        unfold putS
        rw [ha,hcl]
        rfl
      cases hq:decide (3000≤((dropC c (goneD c (c.Room - size) t)).Blobs.length:Int))
      · rw [hq] at hput
        simp only [cond_false] at hput
        rw [hput]
        have hlt:(dropC c (goneD c (c.Room - size) t)).Blobs.length<3000:=by have:=of_decide_eq_false hq; omega
        have hgs:=goN_sum (leavingS c t) (sumI c.Blobs - (c.Room - size)) (by have:=of_decide_eq_false hcv; omega) (fun x hx=>(leaving_sz ok.sz t x hx).1)
        have hds:=drop_sum ok.bs (c.Room - size) t
        unfold goneL at hds
        have hsub:∀ x∈(dropC c (goneD c (c.Room - size) t)).Blobs,x∈c.Blobs:=fun x hx=>(List.mem_filter.1 hx).1
        have hsrt:(dropC c (goneD c (c.Room - size) t)).Blobs.Pairwise (fun a b=>sLt a.Digest b.Digest=true):=ok.bs.filter _
        generalize (dropC c (goneD c (c.Room - size) t)).Blobs=bl at *
        have hno:bl.any (fun y=>sEq y.Digest dig)=false:=by
          rw [List.any_eq_false]
          intro x hx hc
          rw [List.any_eq_true.2 ⟨x,hsub x hx,hc⟩] at ha
          cases ha
        have hbe:∀ x∈insAt bl (placeOf (fun x:Blob=>x.Digest) bl dig) (⟨dig,size,t,t+c.Lease,0⟩:Blob),okBlob x:=by
          intro x hx
          rcases ins_mem hx with rfl | hx
          · exact ⟨hd,hs0,hs1,ht0,ht1,by simp only; omega,by simp only; omega,by simp,by simp⟩
          · exact ok.be x (hsub x hx)
        refine ⟨⟨hr0,hr1,hl0,hl1,by simp only [ins_len]; omega,hbe,ins_srt (key:=fun x:Blob=>x.Digest) (x:=(⟨dig,size,t,t+c.Lease,0⟩:Blob)) hsrt hno,?_,ok.el,ok.ee,ok.es⟩,?_,?_,fun h=>by cases h⟩
        · simp only
          rw [sumW_eq _ 0 (fun x hx=>⟨(hbe x hx).2.1,(hbe x hx).2.2.1⟩) (by omega) (by rw [ins_len]; omega),sumI_perm (ins_perm bl _ _)]
          simp only [_root_.Go.Proofs.YtjdnnkdhajhdkaaGreatDoor.sumI]
          omega
        · obtain ⟨⟨n0,n1⟩,n2⟩:=newest_le.1 hn
          refine newest_le.2 ⟨⟨n0,fun x hx=>?_⟩,n2⟩
          rcases ins_mem hx with rfl | hx
          · exact Int.le_refl t
          · exact n1 x (hsub x hx)
        · simp only
          refine List.any_eq_true.2 ⟨(⟨dig,size,t,t+c.Lease,0⟩:Blob),(ins_perm bl _ _).mem_iff.2 (by simp),sEq_self _⟩
      · rw [hq] at hput
        simp only [cond_true] at hput
        rw [hput] at h0
        exact absurd h0 (by simp)
    · have hcl:clearS c (c.Room - size) t=([],false,c):=by unfold clearS; rw [hcv]; rfl
      have hput:putS c dig size t=(noA,0,c):=by
        unfold putS
        rw [ha,hcl]
        rfl
      rw [hput]
      exact ⟨ok,hn,ha,fun _=>⟨rfl,rfl⟩⟩
  · obtain ⟨y,hy,hym,hye,hyg⟩:=placeOf_get (key:=fun y:Blob=>y.Digest) ok.bs ha
    cases hz:y.Size != size
    · have hput:putS c dig size t=(⟨true,[],[]⟩,0,⟨c.Room,c.Lease,touchL t c.Lease true true [dig] c.Blobs,c.Entries⟩):=by
        unfold putS
        rw [ha,cond_true,hyg]
        simp only [hz,cond_false]
      rw [hput]
      refine ⟨ok_touch ok ht0 ht1 true true [dig],touch_newest hn true [dig],?_,fun h=>by cases h⟩
      simp only
      rw [touch_has]
      exact ha
    · have hput:(putS c dig size t).2.1=12:=by
        unfold putS
        rw [ha,cond_true,hyg]
        simp only [hz,cond_true]
      rw [hput] at h0
      exact absurd h0 (by decide)
end Go.Proofs.YtjdnnkdhajhdkaaGreatDoor
