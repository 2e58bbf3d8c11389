/- Caches: looking up blobs and entries as the laws do; the put event, and what it keeps. -/
import Derived.Test.YtiecpfnjmlidbaaGreatDoorPDo
set_option linter.unusedVariables false
set_option linter.unusedSimpArgs false
namespace Go.Proofs.YtiecpfnjmlidbaaGreatDoor
open Go Go.Proofs.YtiecpfnjmlidbaaGreatDoor.Kit
def cT6 {α:Type} (key:α→ByteArray) (l:List α) (d:ByteArray):Bool:=l.any (fun x=>p4 (key x) d)
end Go.Proofs.YtiecpfnjmlidbaaGreatDoor

namespace Go.Proofs.YtiecpfnjmlidbaaGreatDoor
open Go Go.Proofs.YtiecpfnjmlidbaaGreatDoor.Kit
theorem bT0 {α:Type} {u:α→Int} {t:Int}:∀ (l:List α) (a:Int),l.foldl (fun n x=>max2 n (u x)) a≤t↔a≤t∧∀ x∈l,u x≤t
  | [],a=>by simp
  | x::l,a=>by
    rw [List.foldl_cons,bT0 l]
    have:max2 a (u x)≤t↔a≤t∧u x≤t:=by
      unfold max2
      by_cases h:u x > a
      · rw [if_pos h]; omega
      · rw [if_neg h]; omega
    rw [this]
    simp only [List.mem_cons,forall_eq_or_imp]
    exact and_assoc
theorem aH3 {c:Cache} {t:Int}:ab1 c≤t↔(0≤t∧∀ x∈c.U,x.Used≤t)∧∀ x∈c.Entries,x.Used≤t:=by
  unfold ab1
  rw [bT0,bT0]
theorem cp0 {α:Type} (l:List α) (p:Nat) (x:α):(aq7 l p x).Perm (x::l):=by
  unfold aq7
  have h:(l.take p++[x]++l.drop p).Perm (x::(l.take p++l.drop p)):=by
    rw [List.append_assoc]
    exact List.perm_middle
  rw [List.take_append_drop] at h
  exact h
theorem cp1 (t ag7:Int) (a3 a4:Bool) (ds:List ByteArray):∀ (l:List Blob) (s:Int),Z2 s (P9 t ag7 a3 a4 ds l)=Z2 s l
  | [],s=>rfl
  | x::l,s=>by
    have e:(bif Q2 ds x.b7 then ag6 t ag7 a3 a4 x else x).j4=x.j4:=by cases Q2 ds x.b7 <;> rfl
    show Z2 (c5 (s+(bif Q2 ds x.b7 then ag6 t ag7 a3 a4 x else x).j4)) (P9 t ag7 a3 a4 ds l)=Z2 (c5 (s+x.j4)) l
    rw [e]
    exact cp1 t ag7 a3 a4 ds l _
theorem bi1 {c:Cache} (ok:N5 c) {t:Int} (V9:0≤t) (A9:t≤1000000000) (a3 a4:Bool) (ds:List ByteArray):N5 ⟨c.Room,c.c4,P9 t c.c4 a3 a4 ds c.U,c.Entries⟩:=by
  have hl0:=ok.ay9
  have hl1:=ok.az0
  refine ⟨ok.aW3,ok.aW4,hl0,hl1,by simp only [P9,List.length_map]; exact ok.bl,fun x hx=>?_,?_,?_,ok.el,ok.ee,ok.es⟩
  · obtain ⟨y,hy,rfl⟩:=List.mem_map.1 hx
    obtain ⟨b1,b2,b3,b4,b5,bE9,bF0,bc1,b9⟩:=ok.be y hy
    cases Q2 ds y.b7
    · exact ⟨b1,b2,b3,b4,b5,bE9,bF0,bc1,b9⟩
    · refine ⟨b1,b2,b3,?_,?_,?_,?_,bc1,b9⟩
      · simp only [cond_true,ag6]; cases a3 <;> simp only [cond_true,cond_false] <;> omega
      · simp only [cond_true,ag6]; cases a3 <;> simp only [cond_true,cond_false] <;> omega
      · simp only [cond_true,ag6]; cases a4 <;> simp only [cond_true,cond_false,max2]
        · omega
        · split <;> omega
      · simp only [cond_true,ag6]; cases a4 <;> simp only [cond_true,cond_false,max2]
        · omega
        · split <;> omega
  · exact bb8 (fun y=>by cases Q2 ds y.b7 <;> rfl) ok.bs
  · simp only
    rw [cp1]
    exact ok.sum
theorem bS6 (t ag7:Int) (a3 a4:Bool) (ds:List ByteArray) (d:ByteArray):∀ (l:List Blob),(P9 t ag7 a3 a4 ds l).any (fun x=>p4 x.b7 d)=l.any (fun x=>p4 x.b7 d)
  | []=>rfl
  | x::l=>by
    have e:(bif Q2 ds x.b7 then ag6 t ag7 a3 a4 x else x).b7=x.b7:=by cases Q2 ds x.b7 <;> rfl
    have ih:=bS6 t ag7 a3 a4 ds d l
    unfold P9 at ih ⊢
    rw [List.map_cons,List.any_cons,List.any_cons,e,ih]
theorem cV4 {c:Cache} {t:Int} (h:ab1 c≤t) (a4:Bool) (ds:List ByteArray):ab1 ⟨c.Room,c.c4,P9 t c.c4 true a4 ds c.U,c.Entries⟩≤t:=by
  obtain ⟨⟨h0,h1⟩,h2⟩:=aH3.1 h
  refine aH3.2 ⟨⟨h0,fun x hx=>?_⟩,h2⟩
  obtain ⟨y,hy,rfl⟩:=List.mem_map.1 hx
  have:=h1 y hy
  cases Q2 ds y.b7
  · exact this
  · exact Int.le_refl t
theorem cS5 {c:Cache} (ok:N5 c) {Q3:ByteArray} {size t:Int} (hd:Q8 Q3=true) (hs0:0≤size) (hs1:size≤100000000) (V9:0≤t) (A9:t≤1000000000) (hn:ab1 c≤t) (h0:(ab8 c Q3 size t).2.1=0) :
    N5 (ab8 c Q3 size t).2.2∧ab1 (ab8 c Q3 size t).2.2≤t∧((ab8 c Q3 size t).2.2.U.any (fun x=>p4 x.b7 Q3))=(ab8 c Q3 size t).1.x8∧((ab8 c Q3 size t).1.x8=false→(ab8 c Q3 size t).2.2=c∧(ab8 c Q3 size t).1.x4=[]):=by
  have hl0:=ok.ay9
  have hl1:=ok.az0
  have hr0:=ok.aW3
  have I0:=ok.aW4
  cases ha:c.U.any (fun x=>p4 x.b7 Q3)
  · cases hcv:decide (D8 (W7 c t)<D8 c.U - (c.Room - size))
    · have hcl:N3 c (c.Room - size) t=(af5 c (c.Room - size) t,true,aH4 c (af5 c (c.Room - size) t)):=by unfold N3; rw [hcv]; rfl
      have hput:ab8 c Q3 size t=(bif decide (3000≤((aH4 c (af5 c (c.Room - size) t)).U.length:Int)) then (noA,16,aH4 c (af5 c (c.Room - size) t)) else
            (⟨true,[],af5 c (c.Room - size) t⟩,0,⟨c.Room,c.c4,aq7 (aH4 c (af5 c (c.Room - size) t)).U (placeOf (fun x:Blob=>x.b7) (aH4 c (af5 c (c.Room - size) t)).U Q3) ⟨Q3,size,t,t+c.c4,0⟩,c.Entries⟩)):=by
        unfold ab8
        rw [ha,hcl]
        rfl
      cases hq:decide (3000≤((aH4 c (af5 c (c.Room - size) t)).U.length:Int))
      · rw [hq] at hput
        simp only [cond_false] at hput
        rw [hput]
        have hlt:(aH4 c (af5 c (c.Room - size) t)).U.length<3000:=by have:=of_decide_eq_false hq; omega
        have hgs:=cp2 (W7 c t) (D8 c.U - (c.Room - size)) (by have:=of_decide_eq_false hcv; omega) (fun x hx=>(cp3 ok.sz t x hx).1)
        have hds:=cV5 ok.bs (c.Room - size) t
        unfold aS4 at hds
        have hsub:∀ x∈(aH4 c (af5 c (c.Room - size) t)).U,x∈c.U:=fun x hx=>(List.mem_filter.1 hx).1
        have cV6:(aH4 c (af5 c (c.Room - size) t)).U.Pairwise (fun a b=>x9 a.b7 b.b7=true):=ok.bs.filter _
        generalize (aH4 c (af5 c (c.Room - size) t)).U=bl at *
        have hno:bl.any (fun y=>p4 y.b7 Q3)=false:=by
          rw [List.any_eq_false]
          intro x hx hc
          rw [List.any_eq_true.2 ⟨x,hsub x hx,hc⟩] at ha
          cases ha
        have hbe:∀ x∈aq7 bl (placeOf (fun x:Blob=>x.b7) bl Q3) (⟨Q3,size,t,t+c.c4,0⟩:Blob),bh4 x:=by
          intro x hx
          rcases bF3 hx with rfl | hx
          · exact ⟨hd,hs0,hs1,V9,A9,by simp only; omega,by simp only; omega,by simp,by simp⟩
          · exact ok.be x (hsub x hx)
        refine ⟨⟨hr0,I0,hl0,hl1,by simp only [bF2]; omega,hbe,co0 (key:=fun x:Blob=>x.b7) (x:=(⟨Q3,size,t,t+c.c4,0⟩:Blob)) cV6 hno,?_,ok.el,ok.ee,ok.es⟩,?_,?_,fun h=>by cases h⟩
        · simp only
          rw [bh5 _ 0 (fun x hx=>⟨(hbe x hx).2.1,(hbe x hx).2.2.1⟩) (by omega) (by rw [bF2]; omega),bT2 (cp0 bl _ _)]
          simp only [_root_.Go.Proofs.YtiecpfnjmlidbaaGreatDoor.D8]
          omega
        · obtain ⟨⟨n0,n1⟩,n2⟩:=aH3.1 hn
          refine aH3.2 ⟨⟨n0,fun x hx=>?_⟩,n2⟩
          rcases bF3 hx with rfl | hx
          · exact Int.le_refl t
          · exact n1 x (hsub x hx)
        · simp only
          refine List.any_eq_true.2 ⟨(⟨Q3,size,t,t+c.c4,0⟩:Blob),(cp0 bl _ _).mem_iff.2 (by simp),aO8 _⟩
      · rw [hq] at hput
        simp only [cond_true] at hput
        rw [hput] at h0
        exact absurd h0 (by simp)
    · have hcl:N3 c (c.Room - size) t=([],false,c):=by unfold N3; rw [hcv]; rfl
      have hput:ab8 c Q3 size t=(noA,0,c):=by
        unfold ab8
        rw [ha,hcl]
        rfl
      rw [hput]
      exact ⟨ok,hn,ha,fun _=>⟨rfl,rfl⟩⟩
  · obtain ⟨y,hy,hym,hye,X2⟩:=aH2 (key:=fun y:Blob=>y.b7) ok.bs ha
    cases hz:y.j4 != size
    · have hput:ab8 c Q3 size t=(⟨true,[],[]⟩,0,⟨c.Room,c.c4,P9 t c.c4 true true [Q3] c.U,c.Entries⟩):=by
        unfold ab8
        rw [ha,cond_true,X2]
        simp only [hz,cond_false]
      rw [hput]
      refine ⟨bi1 ok V9 A9 true true [Q3],cV4 hn true [Q3],?_,fun h=>by cases h⟩
      simp only
      rw [bS6]
      exact ha
    · have hput:(ab8 c Q3 size t).2.1=12:=by
        unfold ab8
        rw [ha,cond_true,X2]
        simp only [hz,cond_true]
      rw [hput] at h0
      exact absurd h0 (by decide)
end Go.Proofs.YtiecpfnjmlidbaaGreatDoor
