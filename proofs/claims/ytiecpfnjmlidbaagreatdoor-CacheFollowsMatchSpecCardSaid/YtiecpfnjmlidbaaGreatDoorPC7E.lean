/- Caches: entries, what is whole; sweeping; what comes in fits. -/
import Derived.Test.YtiecpfnjmlidbaaGreatDoorPC7S
import GoSem.ClaimJoined
set_option linter.unusedVariables false
set_option linter.unusedSimpArgs false
namespace Go.Proofs.YtiecpfnjmlidbaaGreatDoor
open Go Go.Proofs.YtiecpfnjmlidbaaGreatDoor.Kit
theorem bR6 {c:Cache} (h:am6 c) (hs:c.Entries.Pairwise (fun a b=>x9 a.Key b.Key=true)) (d:ByteArray):aW2.f c d=some (((placeOf (fun x:Entry=>x.Key) c.Entries d:Nat):Int),c.Entries.any (fun x=>p4 x.Key d)):=by
  unfold aW2.f ai1.f
  have e:=bsearch (xs:=c.Entries) (c:=fun x=>x9 x.Key d) (E:=ai1.e1 c.Entries d) (L:=fun k i j=>ai1.l2 ai1.e1 k c.Entries d i j) (p:=placeOf (fun x:Entry=>x.Key) c.Entries d) h.2.1 (aO7 _ _)
    (fun n hn hp=>bh3 (key:=fun x:Entry=>x.Key) c.Entries d n hn hp) (fun n hn hp=>bp5 (key:=fun x:Entry=>x.Key) c.Entries d hs n hn hp) (fun k i j=>by
      simp only [ai1.l2]
      congr 1
      refine aS1 (fun x _=>?_)
      show (bif decide (Lib.compareBytes x.Key.data.toList d.data.toList<0) then _ else _)=_
      rw [cl9])
  rw [e]
  unfold ai1.e1
  have hf:=bD2 (key:=fun x:Entry=>x.Key) c.Entries d hs
  have hle:=aO7 (key:=fun x:Entry=>x.Key) c.Entries d
  generalize placeOf (fun x:Entry=>x.Key) c.Entries d=p at *
  by_cases hp:p<c.Entries.length
  · rw [List.getElem?_eq_getElem hp] at hf
    have hat:o7 c.Entries (p:Int)=some c.Entries[p]:=by simp [o7,hp]
    rw [decide_eq_true (show (p:Int)<(c.Entries.length:Int) by omega),hat]
    simp only [cond_true,Option.bind_some,bp6.f,strings_Compare.f,cm0]
    rw [← hf]
  · rw [List.getElem?_eq_none (by omega)] at hf
    rw [decide_eq_false (show ¬ (p:Int)<(c.Entries.length:Int) by omega),← hf]
    rfl
theorem aH2 {α:Type} {key:α→ByteArray} {l:List α} {d:ByteArray} (hs:l.Pairwise (fun a b=>x9 (key a) (key b)=true)) (h:l.any (fun x=>p4 (key x) d)=true):∃ x,o7 l ((placeOf key l d:Nat):Int)=some x∧x∈l∧p4 (key x) d=true∧l[placeOf key l d]? = some x:=by
  have hf:=bD2 (key:=key) l d hs
  rw [h] at hf
  split at hf
  · rename_i x hx
    exact ⟨x,by simp [o7,hx],List.mem_of_getElem? hx,hf,hx⟩
  · cases hf
theorem key_inj {α:Type} {key:α→ByteArray}:∀ {l:List α},l.Pairwise (fun a b=>x9 (key a) (key b)=true)→∀ x∈l,∀ y∈l,key x=key y→x=y
  | [],_,x,hx,_,_,_=>by cases hx
  | a::l,hs,x,hx,y,hy,he=>by
    obtain ⟨h1,h2⟩:=List.pairwise_cons.1 hs
    rcases List.mem_cons.1 hx with rfl | hx' <;> rcases List.mem_cons.1 hy with rfl | hy'
    · rfl
    · have:=h1 y hy'
      rw [he,bb5] at this
      cases this
    · have:=h1 x hx'
      rw [he,bb5] at this
      cases this
    · exact key_inj h2 x hx' y hy' he
structure Fit (c:Cache):Prop where
  small:am6 c
  fb:c.U.length*48≤140737490452480
  fe:c.Entries.length*48≤140737490452480
  fr:∀ x∈c.Entries,x.Refs.length*16≤140737490452480
theorem bR7 {s:ByteArray} (h:Q8 s=true):s.size=16:=by
  simp [Q8] at h
  exact h.1
theorem N5.fit {c:Cache} (h:N5 c):Fit c:=by
  refine ⟨⟨⟨by have:=h.bl; omega,fun x hx=>?_⟩,⟨by have:=h.el; omega,fun x hx=>?_⟩⟩,by have:=h.bl; omega,by have:=h.el; omega,fun x hx=>?_⟩
  · rw [bR7 (h.be x hx).1]
    omega
  · obtain ⟨k1,k2,k3,_⟩:=h.ee x hx
    refine ⟨by rw [bR7 k1]; omega,⟨by omega,fun y hy=>by rw [bR7 (k3.1 y hy)]; omega⟩⟩
  · have:=(h.ee x hx).2.1
    omega
theorem bR8 {a b:ByteArray} (h:x9 a b=true):(x9 b a||p4 b a)=false:=by
  have h1:x9 b a=false:=by
    cases hc:x9 b a
    · rfl
    · have:=bD4 h hc
      rw [bb5] at this
      cases this
  have h2:p4 b a=false:=by
    cases hc:p4 b a
    · rfl
    · rw [as4.1 hc,bb5] at h
      cases h
  rw [h1,h2]
  rfl
theorem bD5 {α:Type} {key:α→ByteArray} {Q:α→Prop} {B:Option α→α→Option Int→Option Int} {k0:Option Int} (hB:∀ p x k,Q x→au6 (fun y=>x9 (key x) (key y)||p4 (key x) (key y)) p=false→B p x k=k) :
    ∀ (l:List α) (p:Option α),(∀ x∈l,Q x)→l.Pairwise (fun a b=>x9 (key a) (key b)=true)→(∀ y,p=some y→∀ x∈l,x9 (key y) (key x)=true)→ao8 B k0 p l=k0
  | [],_,_,_,_=>rfl
  | x::l,p,hq,hs,hp=>by
    obtain ⟨h1,h2⟩:=List.pairwise_cons.1 hs
    show B p x (ao8 B k0 (some x) l)=k0
    rw [hB p x _ (hq x (by simp)) ?_]
    · exact bD5 hB l (some x) (fun y hy=>hq y (by simp [hy])) h2 (fun y hy z hz=>by injection hy with hy; subst hy; exact h1 z hz)
    · cases p with
      | none=>rfl
      | some y=>exact bR8 (hp y rfl x (by simp))
theorem cP6 {l:List ByteArray} (h:bD6 l):aV9 l=some 0 :=
  bD5 (key:=id) (Q:=fun x=>Q8 x=true) (fun p x k h1 h2=>by
    unfold bp3
    simp only [id] at h2
    simp [h1,h2]) l none h.1 h.2 (fun y hy=>by cases hy)
theorem cP7 {l:List Blob} {room:Int} (h1:l.length≤3000) (h2:∀ x∈l,bh4 x) (h3:l.Pairwise (fun a b=>x9 a.b7 b.b7=true)) (h4:Z2 0 l≤room):aO5 l room=some 0:=by
  unfold aO5
  rw [decide_eq_false (by omega)]
  simp only [cond_false]
  rw [bD5 (key:=fun x:Blob=>x.b7) (Q:=bh4) (fun p x k q1 ae2=>by
    unfold aK3
    have hE:aS2 x=false:=by
      obtain ⟨a1,a2,a3,a4,a5,a6,a7,a8,a9⟩:=q1
      simp [aS2,M8]
      omega
    rw [q1.1,hE,ae2]
    rfl) l none h2 h3 (fun y hy=>by cases hy)]
  unfold bh1
  rw [decide_eq_false (by omega)]
  rfl
theorem cP8 {l:List Entry} (h1:l.length≤1000) (h2:∀ x∈l,bb6 x) (h3:l.Pairwise (fun a b=>x9 a.Key b.Key=true)):aO6 l=some 0:=by
  unfold aO6
  rw [decide_eq_false (by omega)]
  simp only [cond_false]
  exact bD5 (key:=fun x:Entry=>x.Key) (Q:=bb6) (fun p x k q1 ae2=>by
    obtain ⟨a1,a2,a3,a4,a5⟩:=q1
    unfold aW1 ay8
    have hu:M8 0 1000000000 x.Used=true:=by simp [M8]; omega
    rw [a1,decide_eq_false (by omega),cP6 a3,hu,ae2]
    rfl) l none h2 h3 (fun y hy=>by cases hy)
theorem N5.check {c:Cache} (h:N5 c):aK4 c=some 0:=by
  unfold aK4
  have h1:M8 0 1000000000 c.Room=true:=by have:=h.aW3; have:=h.aW4; simp [M8]; omega
  have h2:M8 0 1000000 c.c4=true:=by have:=h.ay9; have:=h.az0; simp [M8]; omega
  rw [h1,h2,cP7 h.bl h.be h.bs h.sum,cP8 h.el h.ee h.es]
  rfl
def D8:List Blob→Int
  | []=>0
  | x::l=>x.j4+D8 l
theorem bh5:∀ (l:List Blob) (s:Int),(∀ x∈l,0≤x.j4∧x.j4≤100000000)→0≤s→s+(l.length:Int)*100000000≤4611686018427387904→Z2 s l=s+D8 l
  | [],s,_,_,_=>by simp [Z2,D8]
  | x::l,s,h,h0,h1=>by
    obtain ⟨a,b⟩:=h x (by simp)
    simp only [List.length_cons] at h1
    simp only [Z2,D8]
    rw [B7 (by omega) (by omega),bh5 l (s+x.j4) (fun y hy=>h y (by simp [hy])) (by omega) (by push_cast at h1; omega)]
    omega
theorem N5.D8 {c:Cache} (h:N5 c):Z2 0 c.U=D8 c.U:=by
  rw [bh5 c.U 0 (fun x hx=>⟨(h.be x hx).2.1,(h.be x hx).2.2.1⟩) (by omega) (by have:=h.bl; omega)]
  omega
theorem bR9:∀ (l:List Blob),(∀ x∈l,0≤x.j4)→0≤D8 l
  | [],_=>by simp [D8]
  | x::l,h=>by have:=h x (by simp); have:=bR9 l (fun y hy=>h y (by simp [hy])); simp only [D8]; omega
theorem cm1 (p:Blob→Bool):∀ (l:List Blob),(∀ x∈l,0≤x.j4)→D8 (l.filter p)≤D8 l
  | [],_=>by simp [D8]
  | x::l,h=>by
    have h0:=h x (by simp)
    have:=cm1 p l (fun y hy=>h y (by simp [hy]))
    rw [List.filter_cons]
    split <;> simp only [D8] <;> omega
theorem cP9 {c:Cache} (h:N5 c) (p:Blob→Bool) (q:Entry→Bool):N5 ⟨c.Room,c.c4,c.U.filter p,c.Entries.filter q⟩:=by
  have hz:∀ x∈c.U,0≤x.j4:=fun x hx=>(h.be x hx).2.1
  refine ⟨h.aW3,h.aW4,h.ay9,h.az0,Nat.le_trans (List.length_filter_le _ _) h.bl,fun x hx=>h.be x (List.mem_filter.1 hx).1,h.bs.filter p,?_,Nat.le_trans (List.length_filter_le _ _) h.el,fun x hx=>h.ee x (List.mem_filter.1 hx).1,h.es.filter q⟩
  show Z2 0 (c.U.filter p)≤c.Room
  rw [bh5 (c.U.filter p) 0 (fun x hx=>by have:=h.be x (List.mem_filter.1 hx).1; exact ⟨this.2.1,this.2.2.1⟩) (by omega) (by have:=h.bl; have:=List.length_filter_le p c.U; omega)]
  have:=cm1 p c.U hz
  have:=h.D8
  have:=h.sum
  omega
end Go.Proofs.YtiecpfnjmlidbaaGreatDoor

namespace Go.Proofs.YtiecpfnjmlidbaaGreatDoor
open Go Go.Proofs.YtiecpfnjmlidbaaGreatDoor.Kit
theorem cQ0 {l:List ByteArray} {d:ByteArray}:Q2 l d=true↔d∈l:=by simp [Q2]
theorem cm2 {c:Cache} {l:List ByteArray}:(S6 c l).isEmpty=true↔∀ d∈l,hasB c d=true:=by
  unfold S6
  rw [List.isEmpty_iff,List.filter_eq_nil_iff]
  simp
end Go.Proofs.YtiecpfnjmlidbaaGreatDoor

namespace Go.Proofs.YtiecpfnjmlidbaaGreatDoor
open Go Go.Proofs.YtiecpfnjmlidbaaGreatDoor.Kit
theorem cQ1 {c:Cache} (h3:c.U.length*48≤reachBytes) (h3':∀ x∈c.U,x.b7.size≤reachBytes) (h4:c.Entries.length*48≤reachBytes)
    (h4':∀ x∈c.Entries,x.Key.size≤reachBytes∧x.Refs.length*16≤reachBytes∧∀ y∈x.Refs,y.size≤reachBytes):Fit c:=by
  simp only [reachBytes] at *
  refine ⟨⟨⟨by omega,fun x hx=>?_⟩,⟨by omega,fun x hx=>?_⟩⟩,by omega,by omega,fun x hx=>?_⟩
  · have:=h3' x hx
    omega
  · obtain ⟨k1,k2,k3⟩:=h4' x hx
    exact ⟨by omega,by omega,fun y hy=>by have:=k3 y hy; omega⟩
  · obtain ⟨k1,k2,k3⟩:=h4' x hx
    omega
theorem cm3 {l:List ByteArray} (h:l.length*16≤reachBytes) (h':∀ x∈l,x.size≤reachBytes):as2 l∧l.length*16≤140737490452480:=by
  simp only [reachBytes] at *
  exact ⟨⟨by omega,fun x hx=>by have:=h' x hx; omega⟩,by omega⟩
end Go.Proofs.YtiecpfnjmlidbaaGreatDoor
