/- Caches: what is leased beyond an event's moment stays, and its lease does not shrink. -/
import Derived.Test.YtkjilepjblffeaaDoorPFol
set_option linter.unusedVariables false
set_option linter.unusedSimpArgs false
namespace Go.Proofs.YtkjilepjblffeaaDoor
open Go Go.Proofs.YtkjilepjblffeaaDoor.Kit
def UpC (c c':Cache) (t:Int):Prop:=∀ x∈c.Blobs,t<x.Until→∃ y∈c'.Blobs,y.Digest=x.Digest∧x.Until≤y.Until
theorem up_map {c:Cache} {f:Blob→Blob} (h1:∀ x,(f x).Digest=x.Digest) (h2:∀ x,x.Until≤(f x).Until) (r l:Int) (es:List Entry) (t:Int):UpC c ⟨r,l,c.Blobs.map f,es⟩ t :=
  fun x hx _=>⟨f x,List.mem_map.2 ⟨x,hx,rfl⟩,h1 x,h2 x⟩
theorem up_same (c:Cache) (t r l:Int) (es:List Entry):UpC c ⟨r,l,c.Blobs,es⟩ t:=fun x hx _=>⟨x,hx,rfl,Int.le_refl _⟩
theorem touchB_until (t l:Int) (a3 a4:Bool) (y:Blob):y.Until≤(touchB t l a3 a4 y).Until:=by
  cases a4
  · exact Int.le_refl _
  · show y.Until≤max2 y.Until (t+l)
    unfold max2
    split <;> omega
theorem up_touch (c:Cache) (t l t':Int) (a3 a4:Bool) (ds:List ByteArray) (es:List Entry):UpC c ⟨c.Room,c.Lease,touchL t l a3 a4 ds c.Blobs,es⟩ t' :=
  up_map (f:=fun y=>bif memB ds y.Digest then touchB t l a3 a4 y else y) (fun x=>by cases memB ds x.Digest <;> rfl) (fun x=>by
    cases memB ds x.Digest
    · exact Int.le_refl _
    · exact touchB_until t l a3 a4 x) _ _ es t'
theorem up_pin (c:Cache) (d:ByteArray) (k t':Int) (es:List Entry):UpC c ⟨c.Room,c.Lease,pinL d k c.Blobs,es⟩ t' :=
  up_map (f:=fun y=>bif sEq y.Digest d then pinB k y else y) (fun x=>by cases sEq x.Digest d <;> rfl) (fun x=>by cases sEq x.Digest d <;> exact Int.le_refl _) _ _ es t'
theorem up_filter {c:Cache} {p:Blob→Bool} {t:Int} (h:∀ x∈c.Blobs,t<x.Until→p x=true) (r l:Int) (es:List Entry):UpC c ⟨r,l,c.Blobs.filter p,es⟩ t :=
  fun x hx hu=>⟨x,List.mem_filter.2 ⟨hx,h x hx hu⟩,rfl,Int.le_refl _⟩
theorem up_ins {c:Cache} {bl:List Blob} {t r l:Int} {es es':List Entry} {p:Nat} {z:Blob} (h:UpC c ⟨r,l,bl,es⟩ t):UpC c ⟨r,l,insAt bl p z,es'⟩ t:=fun x hx hu=>by
  obtain ⟨y,h1,h2⟩:=h x hx hu
  exact ⟨y,(ins_perm bl p z).mem_iff.2 (by simp only [List.mem_cons]; exact .inr h1),h2⟩
theorem held_until {x:Blob} {t:Int} (h:t<x.Until):heldB x t=true:=by
  unfold heldB
  rw [decide_eq_true h,Bool.or_true]
theorem put_up {c:Cache} (ok:OkCache c) (dig:ByteArray) (size t:Int) (h0:(putS c dig size t).2.1=0):UpC c (putS c dig size t).2.2 t:=by
  cases ha:c.Blobs.any (fun x=>sEq x.Digest dig)
  · cases hcv:decide (sumI (leavingS c t)<sumI c.Blobs - (c.Room - size))
    · have hcl:clearS c (c.Room - size) t=(goneD c (c.Room - size) t,true,dropC c (goneD c (c.Room - size) t)):=by unfold clearS; rw [hcv]; rfl
      have hput:putS c dig size t=(bif decide (3000≤((dropC c (goneD c (c.Room - size) t)).Blobs.length:Int)) then (noA,16,dropC c (goneD c (c.Room - size) t)) else
            (⟨true,[],goneD c (c.Room - size) t⟩,0,⟨c.Room,c.Lease,insAt (dropC c (goneD c (c.Room - size) t)).Blobs (placeOf (fun x:Blob=>x.Digest) (dropC c (goneD c (c.Room - size) t)).Blobs dig) ⟨dig,size,t,t+c.Lease,0⟩,c.Entries⟩)):=by
        unfold putS
        rw [ha,hcl]
        rfl
      cases hq:decide (3000≤((dropC c (goneD c (c.Room - size) t)).Blobs.length:Int))
      · rw [hq] at hput
        simp only [cond_false] at hput
        rw [hput]
        refine up_ins (es:=c.Entries) (up_filter (fun x hx hh=>?_) _ _ _)
        cases hm:memB (goneD c (c.Room - size) t) x.Digest
        · rfl
        · have:=(goneL_mem ((memD_iff ok.bs hx).1 hm)).2
          rw [held_until hh] at this
          cases this
      · rw [hq] at hput
        simp only [cond_true] at hput
        rw [hput] at h0
        exact absurd h0 (by simp)
    · have hcl:clearS c (c.Room - size) t=([],false,c):=by unfold clearS; rw [hcv]; rfl
      have hput:putS c dig size t=(noA,0,c):=by
        unfold putS
        rw [ha,hcl]
        rfl
      rw [hput]
      exact up_same c t c.Room c.Lease c.Entries
  · obtain ⟨y,hy,hym,hye,hyg⟩:=placeOf_get (key:=fun y:Blob=>y.Digest) ok.bs ha
    cases hz:y.Size != size
    · have hput:putS c dig size t=(⟨true,[],[]⟩,0,⟨c.Room,c.Lease,touchL t c.Lease true true [dig] c.Blobs,c.Entries⟩):=by
        unfold putS
        rw [ha,cond_true,hyg]
        simp only [hz,cond_false]
      rw [hput]
      exact up_touch _ _ _ _ _ _ _ _
    · have hput:(putS c dig size t).2.1=12:=by
        unfold putS
        rw [ha,cond_true,hyg]
        simp only [hz,cond_true]
      rw [hput] at h0
      exact absurd h0 (by decide)
theorem doK_up {c:Cache} (ok:OkCache c) (e:CacheEvent) (h0:(doK c e).2.1=0):UpC c (doK c e).2.2 e.At:=by
  have same:UpC c c e.At:=up_same c e.At c.Room c.Lease c.Entries
  unfold doK at h0 ⊢
  cases k1:e.Kind == 1
  · cases k2:e.Kind == 2
    · cases k3:e.Kind == 3
      · cases k4:(e.Kind == 4||e.Kind == 5)
        · cases k6:e.Kind == 6
          · cases k7:e.Kind == 7
            · simp only [cond_false]
              unfold dropS
              rcases getB_cases ok.bs e.Digest with ⟨g1,g2⟩ | ⟨y,g1,g2,g3,g4,g5,g6⟩
              · rw [g1]
                exact same
              · rw [g1]
                simp only
                cases hh:heldB y e.At
                · refine up_filter (fun x hx hx2=>?_) _ _ _
                  cases hm:memB [e.Digest] x.Digest
                  · rfl
                  · have hd:x.Digest=e.Digest:=by have:=memB_iff.1 hm; simpa using this
                    have:=key_inj (key:=fun x:Blob=>x.Digest) ok.bs x hx y g4 (hd.trans g5.symm)
                    subst this
                    rw [held_until hx2] at hh
                    cases hh
                · exact same
            · simp only [cond_false,cond_true]
              unfold searchS
              rcases getE_cases ok.es e.Key with ⟨g1,g2⟩ | ⟨x,g1,g2,g3,g4,g5,g6⟩
              · rw [g1]
                exact same
              · rw [g1]
                simp only
                cases decide (0<((missingS c x.Refs).length:Int))
                · exact up_touch _ _ _ _ _ _ _ _
                · exact up_same c e.At _ _ _
          · simp only [cond_false,cond_true]
            unfold storeS
            cases decide (0<((missingS c e.Digests).length:Int))
            · cases c.Entries.any (fun x=>sEq x.Key e.Key)
              · exact up_touch _ _ _ _ _ _ _ _
              · exact up_touch _ _ _ _ _ _ _ _
            · exact same
        · simp only [cond_false,cond_true]
          unfold pinS
          rcases getB_cases ok.bs e.Digest with ⟨g1,g2⟩ | ⟨y,g1,g2,g3,g4,g5,g6⟩
          · rw [g1]
            exact same
          · rw [g1]
            simp only
            cases e.Kind == 5
            · cases decide (3000≤y.Pins)
              · exact up_pin _ _ _ _ _
              · exact same
            · cases y.Pins == 0
              · exact up_pin _ _ _ _ _
              · exact same
      · exact up_touch _ _ _ _ _ _ _ _
    · exact up_touch _ _ _ _ _ _ _ _
  · rw [k1] at h0
    exact put_up ok e.Digest e.Size e.At h0
def Lsd (c:Cache) (T:Int) (d:ByteArray):Prop:=∃ x∈c.Blobs,x.Digest=d∧T≤x.Until
theorem follow_leased {T:Int} {d:ByteArray}:∀ (l:List CacheEvent) (c:Cache) (s:List CacheAnswer),OkCache c→(∀ e∈l,e.At<T)→Lsd c T d→(followS l c s).2.1=0→Lsd (followS l c s).1 T d
  | [],c,s,_,_,h,_=>h
  | e::l,c,s,ok,hl,h,h0=>by
    unfold followS at h0 ⊢
    cases hz:(dE c e).2.1 != 0
    · rw [hz] at h0
      simp only [cond_false] at h0 ⊢
      obtain ⟨k1,k2,k3,k4,k5⟩:=dE_ok ok (by simpa using hz)
      refine follow_leased l _ _ k1 (fun x hx=>hl x (by simp [hx])) ?_ h0
      obtain ⟨x,x1,x2,x3⟩:=h
      have hat:=hl e (by simp)
      have hz0:(dE c e).2.1=0:=by simpa using hz
      rw [k4] at hz0 ⊢
      obtain ⟨y,y1,y2,y3⟩:=doK_up ok e hz0 x x1 (by omega)
      exact ⟨y,y1,y2.trans x2,by omega⟩
    · rw [hz] at h0
      simp only [cond_true] at h0
      rw [h0] at hz
      simp at hz
end Go.Proofs.YtkjilepjblffeaaDoor
