/- Caches: what is missing and broken; copies and comparisons of caches. -/
import Derived.Test.YtiecpfnjmlidbaaGreatDoorPC7
set_option linter.unusedVariables false
set_option linter.unusedSimpArgs false
namespace Go.Proofs.YtiecpfnjmlidbaaGreatDoor
open Go Go.Proofs.YtiecpfnjmlidbaaGreatDoor.Kit
def bh4 (x:Blob):Prop:=Q8 x.b7=true∧0≤x.j4∧x.j4≤100000000∧0≤x.Used∧x.Used≤1000000000∧0≤x.u6∧x.u6≤1001000000∧0≤x.q4∧x.q4≤3000
def bD6 (l:List ByteArray):Prop:=(∀ x∈l,Q8 x=true)∧l.Pairwise (fun a b=>x9 a b=true)
def bb6 (x:Entry):Prop:=Q8 x.Key=true∧x.Refs.length≤200∧bD6 x.Refs∧0≤x.Used∧x.Used≤1000000000
structure N5 (c:Cache):Prop where
  aW3:0≤c.Room
  aW4:c.Room≤1000000000
  ay9:0≤c.c4
  az0:c.c4≤1000000
  bl:c.U.length≤3000
  be:∀ x∈c.U,bh4 x
  bs:c.U.Pairwise (fun a b=>x9 a.b7 b.b7=true)
  sum:Z2 0 c.U≤c.Room
  el:c.Entries.length≤1000
  ee:∀ x∈c.Entries,bb6 x
  es:c.Entries.Pairwise (fun a b=>x9 a.Key b.Key=true)
theorem cm4 {l:List ByteArray} (h:aV9 l=some 0):bD6 l:=by
  unfold aV9 at h
  have h1:=bD8 (P:=fun x=>Q8 x=true) (fun p x k hk=>by
    unfold bp3 at hk
    cases ha:Q8 x <;> cases hb:au6 (fun y=>x9 x y||p4 x y) p <;> simp [ha,hb] at hk
    exact ⟨hk,rfl⟩) l none h
  have h2:=bD9 (key:=id) (fun p x k hk=>by
    unfold bp3 at hk
    cases ha:Q8 x <;> cases hb:au6 (fun y=>x9 x y||p4 x y) p <;> simp [ha,hb] at hk
    exact ⟨hk,hb⟩) l none h
  exact ⟨h1.2,h2.2.2⟩
theorem cQ2 {l:List Blob} {room:Int} (h:aO5 l room=some 0):l.length≤3000∧(∀ x∈l,bh4 x)∧l.Pairwise (fun a b=>x9 a.b7 b.b7=true)∧Z2 0 l≤room:=by
  unfold aO5 at h
  cases hc:decide (3000<(l.length:Int))
  · rw [hc] at h
    simp only [cond_false] at h
    have h1:=bD8 (P:=bh4) (fun p x k hk=>by
      unfold aK3 at hk
      cases ha:Q8 x.b7 <;> cases hb:aS2 x <;> cases hp:au6 (fun y=>x9 x.b7 y.b7||p4 x.b7 y.b7) p <;> simp [ha,hb,hp] at hk
      refine ⟨hk,ha,?_⟩
      simp [aS2,M8] at hb
      omega) l none h
    have h2:=bD9 (key:=fun x:Blob=>x.b7) (fun p x k hk=>by
      unfold aK3 at hk
      cases ha:Q8 x.b7 <;> cases hb:aS2 x <;> cases hp:au6 (fun y=>x9 x.b7 y.b7||p4 x.b7 y.b7) p <;> simp [ha,hb,hp] at hk
      exact ⟨hk,rfl⟩) l none h
    refine ⟨?_,h1.2,h2.2.2,?_⟩
    · simp at hc
      omega
    · have:=h1.1
      unfold bh1 at this
      cases hr:decide (room<Z2 0 l)
      · simp at hr
        omega
      · rw [hr] at this
        simp at this
  · rw [hc] at h
    simp at h
theorem cQ3 {l:List Entry} (h:aO6 l=some 0):l.length≤1000∧(∀ x∈l,bb6 x)∧l.Pairwise (fun a b=>x9 a.Key b.Key=true):=by
  unfold aO6 at h
  cases hc:decide (1000<(l.length:Int))
  · rw [hc] at h
    simp only [cond_false] at h
    have hB:∀ (p:Option Entry) (x:Entry) (k:Option Int),aW1 p x k=some 0→k=some 0∧bb6 x∧au6 (fun y=>x9 x.Key y.Key||p4 x.Key y.Key) p=false:=fun p x k hk=>by
      unfold aW1 ay8 at hk
      obtain ⟨r,hr⟩:=bR5 x.Refs
      rw [hr] at hk
      cases ha:Q8 x.Key
      · simp [ha] at hk
      · cases hb:decide (200<(x.Refs.length:Int))
        · simp only [ha,hb,Bool.not_true,cond_false,Option.bind_some] at hk
          cases hr0:r != 0
          · have I0:r=0:=by simpa using hr0
            subst I0
            cases hu:M8 0 1000000000 x.Used
            · simp [hu] at hk
            · cases hp:au6 (fun y=>x9 x.Key y.Key||p4 x.Key y.Key) p
              · simp only [hu,hp,bne_self_eq_false,Bool.not_true,cond_false] at hk
                simp at hb
                simp [M8] at hu
                exact ⟨hk,⟨ha,by omega,cm4 hr,hu.1,hu.2⟩,rfl⟩
              · simp [hu,hp] at hk
          · rw [hr0] at hk
            simp at hk
            subst hk
            simp at hr0
        · simp [ha,hb] at hk
    have h1:=bD8 (P:=bb6) (fun p x k hk=>⟨(hB p x k hk).1,(hB p x k hk).2.1⟩) l none h
    have h2:=bD9 (key:=fun x:Entry=>x.Key) (fun p x k hk=>⟨(hB p x k hk).1,(hB p x k hk).2.2⟩) l none h
    refine ⟨?_,h1.2,h2.2.2⟩
    simp at hc
    omega
  · rw [hc] at h
    simp at h
theorem cm5 {c:Cache} (h:aK4 c=some 0):N5 c:=by
  unfold aK4 at h
  cases hr:(!M8 0 1000000000 c.Room||!M8 0 1000000 c.c4)
  · rw [hr] at h
    simp only [cond_false] at h
    obtain ⟨f,hf,h⟩:=Option.bind_eq_some_iff.1 h
    cases h0:f != 0
    · have hf0:f=0:=by simpa using h0
      subst hf0
      simp only [bne_self_eq_false,cond_false] at h
      obtain ⟨b1,b2,b3,b4⟩:=cQ2 hf
      obtain ⟨e1,e2,S7⟩:=cQ3 h
      simp [M8] at hr
      exact ⟨by omega,by omega,by omega,by omega,b1,b2,b3,b4,e1,e2,S7⟩
    · rw [h0] at h
      simp at h
      subst h
      simp at h0
  · rw [hr] at h
    simp at h
theorem bh7 {c:Cache} (h:am6 c) (hs:c.U.Pairwise (fun a b=>x9 a.b7 b.b7=true)) (d:ByteArray):aE1.f c d=some (((placeOf (fun x:Blob=>x.b7) c.U d:Nat):Int),c.U.any (fun x=>p4 x.b7 d)):=by
  unfold aE1.f ai2.f
  have e:=bsearch (xs:=c.U) (c:=fun x=>x9 x.b7 d) (E:=ai2.e1 c.U d) (L:=fun k i j=>ai2.l2 ai2.e1 k c.U d i j) (p:=placeOf (fun x:Blob=>x.b7) c.U d) h.1.1 (aO7 _ _)
    (fun n hn hp=>bh3 (key:=fun x:Blob=>x.b7) c.U d n hn hp) (fun n hn hp=>bp5 (key:=fun x:Blob=>x.b7) c.U d hs n hn hp) (fun k i j=>by
      simp only [ai2.l2]
      congr 1
      refine aS1 (fun x _=>?_)
      show (bif decide (Lib.compareBytes x.b7.data.toList d.data.toList<0) then _ else _)=_
      rw [cl9])
  rw [e]
  unfold ai2.e1
  have hf:=bD2 (key:=fun x:Blob=>x.b7) c.U d hs
  have hle:=aO7 (key:=fun x:Blob=>x.b7) c.U d
  generalize placeOf (fun x:Blob=>x.b7) c.U d=p at *
  by_cases hp:p<c.U.length
  · rw [List.getElem?_eq_getElem hp] at hf
    have hat:o7 c.U (p:Int)=some c.U[p]:=by simp [o7,hp]
    rw [decide_eq_true (show (p:Int)<(c.U.length:Int) by omega),hat]
    simp only [cond_true,Option.bind_some,bp7.f,strings_Compare.f,cm0]
    rw [← hf]
  · rw [List.getElem?_eq_none (by omega)] at hf
    rw [decide_eq_false (show ¬ (p:Int)<(c.U.length:Int) by omega),← hf]
    rfl
def hasB (c:Cache) (d:ByteArray):Bool:=c.U.any (fun x=>p4 x.b7 d)
def S6 (c:Cache) (l:List ByteArray):List ByteArray:=l.filter (fun d=>!hasB c d)
theorem bS0 {c:Cache} (h:am6 c) (hs:c.U.Pairwise (fun a b=>x9 a.b7 b.b7=true)) {l:List ByteArray} (hl:l.length*16≤140737490452480):U8.f c l=some (S6 c l):=by
  unfold U8.f
  rw [as3 (xs:=l) (L:=fun k s v=>U8.l2 U8.e1 k c l s v) (body:=fun _ x s f=>bif !hasB c x then G5 (room s.length 1 16) (f (s++[id x])) else f s) (e:=fun s=>some s) (by omega) (fun k s v=>by
    simp only [U8.l2,U8.j3,bh7 h hs,Option.bind_some]
    rfl) []]
  rw [aW5 l 0 [] (by simp; omega)]
  simp [S6]
theorem cQ4 {c:Cache} (h:am6 c) (d:ByteArray):∃ r,V8.f c d=some r∧decide (r<0)=!hasB c d:=by
  unfold V8.f
  have hb:c.U.length≤4611686018427387904:=by have:=h.1.1; omega
  rw [as3 (S:=Unit) (L:=fun k _ v=>V8.l2 V8.e1 k c d v) (body:=fun v x s f=>bif p4 x.b7 d then some v else f s) (e:=fun _=>some (-1)) hb (fun k s v=>rfl) (),bh8 c.U 0]
  exact ⟨_,rfl,cQ5 (c:=fun x:Blob=>p4 x.b7 d) c.U⟩
theorem bS1 {c:Cache} (h:am6 c) {l:List ByteArray} (hl:l.length*16≤140737490452480):U9.f c l=some (S6 c l):=by
  unfold U9.f
  rw [as3 (xs:=l) (L:=fun k s v=>U9.l2 U9.e1 k c l s v) (body:=fun _ x s f=>bif !hasB c x then G5 (room s.length 1 16) (f (s++[id x])) else f s) (e:=fun s=>some s) (by omega) (fun k s v=>by
    simp only [U9.l2,U9.j3]
    congr 1
    refine bR4 (fun x hat hx=>?_)
    obtain ⟨r,hr,hr2⟩:=cQ4 h x
    simp only [hr,Option.bind_some,hr2,hat]
    rfl) []]
  rw [aW5 l 0 [] (by simp; omega)]
  simp [S6]
theorem cQ6 {c:Cache} (hb:c.U.length*48≤140737490452480) (he:c.Entries.length*48≤140737490452480) (hr:∀ x∈c.Entries,x.Refs.length*16≤140737490452480):al0.f c=some c:=by
  unfold al0.f
  rw [bS2 hb]
  simp only [Option.bind_some]
  rw [as3 (xs:=c.Entries) (L:=fun k s v=>al0.l2 al0.e1 k c c.U s v) (body:=fun _ x s f=>bif (fun _=>true) x then G5 (room s.length 1 48) (f (s++[id x])) else f s) (e:=fun s=>some (⟨c.Room,c.c4,c.U,s⟩:Cache)) (by omega) (fun k s v=>by
    simp only [al0.l2]
    congr 1
    refine aS1 (fun x hx=>?_)
    rw [bE0 (hr x hx)]
    rfl) []]
  rw [aW5 c.Entries 0 [] (by simp; omega)]
  have:∀ l:List Entry,l.filter (fun _=>true)=l:=fun l=>by simp
  simp [this]
theorem bC4 {l:List ByteArray} (h:l.length≤4611686018427387904):ai3.f l l=some true:=by
  unfold ai3.f
  rw [bne_self_eq_false]
  refine cQ7 (L:=fun k v=>ai3.l2 ai3.e1 k l l v) h (fun k v=>rfl) (fun x _=>?_)
  simp [p4]
theorem bS3 {c:Cache} (h:am6 c):P0.f c c=some true:=by
  have hl:c.Entries.length≤4611686018427387904:=by have:=h.2.1; omega
  have hb:c.U.length≤4611686018427387904:=by have:=h.1.1; omega
  unfold P0.f
  simp only [bne_self_eq_false,cond_false,Option.bind_some]
  have h3:P0.e1 c c=some true:=by
    unfold P0.e1
    refine bo9 (L:=fun k v=>P0.l3 P0.e2 k c c v) hl (fun k v h0 h1=>?_) (fun k=>?_)
    · obtain ⟨hn,hat⟩:=bg8 (xs:=c.Entries) h0 h1
      have hr:=(h.2.2 _ (List.getElem_mem hn)).2.1
      simp only [P0.l3,decide_eq_true h1,cond_true,hat,Option.bind_some,aO8,Bool.not_true,cond_false,bne_self_eq_false,bC4 (show _≤4611686018427387904 from Nat.le_trans hr (by omega))]
      rw [B7 (by omega) (by omega)]
    · simp only [P0.l3,decide_eq_false (Int.lt_irrefl _),cond_false]
      rfl
  refine bo9 (L:=fun k v=>P0.l4 P0.e1 k c c v) hb (fun k v h0 h1=>?_) (fun k=>?_)
  · obtain ⟨hn,hat⟩:=bg8 (xs:=c.U) h0 h1
    simp only [P0.l4,decide_eq_true h1,cond_true,hat,Option.bind_some,aO8,beq_self_eq_true,Bool.and_self,Bool.not_true,cond_false]
    rw [B7 (by omega) (by omega)]
  · simp only [P0.l4,decide_eq_false (Int.lt_irrefl _),cond_false]
    exact h3
end Go.Proofs.YtiecpfnjmlidbaaGreatDoor
