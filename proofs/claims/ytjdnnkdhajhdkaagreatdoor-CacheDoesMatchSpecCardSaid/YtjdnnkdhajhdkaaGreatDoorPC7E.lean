/- Caches: entries, what is whole; sweeping; what comes in fits. -/
import Derived.Test.YtjdnnkdhajhdkaaGreatDoorPC7S
import GoSem.ClaimJoined
set_option linter.unusedVariables false
set_option linter.unusedSimpArgs false
namespace Go.Proofs.YtjdnnkdhajhdkaaGreatDoor
open Go Go.Proofs.YtjdnnkdhajhdkaaGreatDoor.Kit
theorem entryAt_prog {c:Cache} (h:smallCache c) (hs:c.Entries.Pairwise (fun a b=>sLt a.Key b.Key=true)) (d:ByteArray):cache_entryAt.f c d=some (((placeOf (fun x:Entry=>x.Key) c.Entries d:Nat):Int),c.Entries.any (fun x=>sEq x.Key d)):=by
  unfold cache_entryAt.f slices_BinarySearchFunc_Entry_string.f
  have e:=bsearch (xs:=c.Entries) (c:=fun x=>sLt x.Key d) (E:=slices_BinarySearchFunc_Entry_string.e1 c.Entries d) (L:=fun k i j=>slices_BinarySearchFunc_Entry_string.l2 slices_BinarySearchFunc_Entry_string.e1 k c.Entries d i j) (p:=placeOf (fun x:Entry=>x.Key) c.Entries d) h.2.1 (placeOf_le _ _)
    (fun n hn hp=>placeOf_lt (key:=fun x:Entry=>x.Key) c.Entries d n hn hp) (fun n hn hp=>placeOf_ge (key:=fun x:Entry=>x.Key) c.Entries d hs n hn hp) (fun k i j=>by
      simp only [slices_BinarySearchFunc_Entry_string.l2]
      congr 1
      refine bind_at (fun x _=>?_)
      show (bif decide (Lib.compareBytes x.Key.data.toList d.data.toList<0) then _ else _)=_
      rw [sCmp_lt])
  rw [e]
  unfold slices_BinarySearchFunc_Entry_string.e1
  have hf:=placeOf_found (key:=fun x:Entry=>x.Key) c.Entries d hs
  have hle:=placeOf_le (key:=fun x:Entry=>x.Key) c.Entries d
  generalize placeOf (fun x:Entry=>x.Key) c.Entries d=p at *
  by_cases hp:p<c.Entries.length
  · rw [List.getElem?_eq_getElem hp] at hf
    have hat:at? c.Entries (p:Int)=some c.Entries[p]:=by simp [at?,hp]
    rw [decide_eq_true (show (p:Int)<(c.Entries.length:Int) by omega),hat]
    simp only [cond_true,Option.bind_some,cache_entryAt_1.f,strings_Compare.f,sCmp_eq]
    rw [← hf]
  · rw [List.getElem?_eq_none (by omega)] at hf
    rw [decide_eq_false (show ¬ (p:Int)<(c.Entries.length:Int) by omega),← hf]
    rfl
theorem placeOf_get {α:Type} {key:α→ByteArray} {l:List α} {d:ByteArray} (hs:l.Pairwise (fun a b=>sLt (key a) (key b)=true)) (h:l.any (fun x=>sEq (key x) d)=true):∃ x,at? l ((placeOf key l d:Nat):Int)=some x∧x∈l∧sEq (key x) d=true∧l[placeOf key l d]? = some x:=by
  have hf:=placeOf_found (key:=key) l d hs
  rw [h] at hf
  split at hf
  · rename_i x hx
    exact ⟨x,by simp [at?,hx],List.mem_of_getElem? hx,hf,hx⟩
  · cases hf
theorem key_inj {α:Type} {key:α→ByteArray}:∀ {l:List α},l.Pairwise (fun a b=>sLt (key a) (key b)=true)→∀ x∈l,∀ y∈l,key x=key y→x=y
  | [],_,x,hx,_,_,_=>by cases hx
  | a::l,hs,x,hx,y,hy,he=>by
    obtain ⟨h1,h2⟩:=List.pairwise_cons.1 hs
    rcases List.mem_cons.1 hx with rfl | hx' <;> rcases List.mem_cons.1 hy with rfl | hy'
    · rfl
    · have:=h1 y hy'
      rw [he,sLt_irrefl] at this
      cases this
    · have:=h1 x hx'
      rw [he,sLt_irrefl] at this
      cases this
    · exact key_inj h2 x hx' y hy' he
structure Fit (c:Cache):Prop where
  small:smallCache c
  fb:c.Blobs.length*48≤140737490452480
  fe:c.Entries.length*48≤140737490452480
  fr:∀ x∈c.Entries,x.Refs.length*16≤140737490452480
theorem dig_size {s:ByteArray} (h:isDigB s=true):s.size=16:=by
  simp [isDigB] at h
  exact h.1
theorem OkCache.fit {c:Cache} (h:OkCache c):Fit c:=by
  refine ⟨⟨⟨by have:=h.bl; omega,fun x hx=>?_⟩,⟨by have:=h.el; omega,fun x hx=>?_⟩⟩,by have:=h.bl; omega,by have:=h.el; omega,fun x hx=>?_⟩
  · rw [dig_size (h.be x hx).1]
    omega
  · obtain ⟨k1,k2,k3,_⟩:=h.ee x hx
    refine ⟨by rw [dig_size k1]; omega,⟨by omega,fun y hy=>by rw [dig_size (k3.1 y hy)]; omega⟩⟩
  · have:=(h.ee x hx).2.1
    omega
theorem sLt_flip {a b:ByteArray} (h:sLt a b=true):(sLt b a||sEq b a)=false:=by
  have h1:sLt b a=false:=by
    cases hc:sLt b a
    · rfl
    · have:=sLt_trans h hc
      rw [sLt_irrefl] at this
      cases this
  have h2:sEq b a=false:=by
    cases hc:sEq b a
    · rfl
    · rw [sEq_iff.1 hc,sLt_irrefl] at h
      cases h
  rw [h1,h2]
  rfl
theorem rangeP_ok {α:Type} {key:α→ByteArray} {Q:α→Prop} {B:Option α→α→Option Int→Option Int} {k0:Option Int} (hB:∀ p x k,Q x→prevB (fun y=>sLt (key x) (key y)||sEq (key x) (key y)) p=false→B p x k=k) :
    ∀ (l:List α) (p:Option α),(∀ x∈l,Q x)→l.Pairwise (fun a b=>sLt (key a) (key b)=true)→(∀ y,p=some y→∀ x∈l,sLt (key y) (key x)=true)→rangeP B k0 p l=k0
  | [],_,_,_,_=>rfl
  | x::l,p,hq,hs,hp=>by
    obtain ⟨h1,h2⟩:=List.pairwise_cons.1 hs
    show B p x (rangeP B k0 (some x) l)=k0
    rw [hB p x _ (hq x (by simp)) ?_]
    · exact rangeP_ok hB l (some x) (fun y hy=>hq y (by simp [hy])) h2 (fun y hy z hz=>by injection hy with hy; subst hy; exact h1 z hz)
    · cases p with
      | none=>rfl
      | some y=>exact sLt_flip (hp y rfl x (by simp))
theorem refsS_of {l:List ByteArray} (h:okRefs l):refsS l=some 0 :=
  rangeP_ok (key:=id) (Q:=fun x=>isDigB x=true) (fun p x k h1 h2=>by
    unfold refB
    simp only [id] at h2
    simp [h1,h2]) l none h.1 h.2 (fun y hy=>by cases hy)
theorem blobsS_of {l:List Blob} {room:Int} (h1:l.length≤3000) (h2:∀ x∈l,okBlob x) (h3:l.Pairwise (fun a b=>sLt a.Digest b.Digest=true)) (h4:sumW 0 l≤room):blobsS l room=some 0:=by
  unfold blobsS
  rw [decide_eq_false (by omega)]
  simp only [cond_false]
  rw [rangeP_ok (key:=fun x:Blob=>x.Digest) (Q:=okBlob) (fun p x k q1 q2=>by
    unfold blobB
    have hE:blobE x=false:=by
      obtain ⟨a1,a2,a3,a4,a5,a6,a7,a8,a9⟩:=q1
      simp [blobE,inR]
      omega
    rw [q1.1,hE,q2]
    rfl) l none h2 h3 (fun y hy=>by cases hy)]
  unfold roomE
  rw [decide_eq_false (by omega)]
  rfl
theorem entsS_of {l:List Entry} (h1:l.length≤1000) (h2:∀ x∈l,okEntry x) (h3:l.Pairwise (fun a b=>sLt a.Key b.Key=true)):entsS l=some 0:=by
  unfold entsS
  rw [decide_eq_false (by omega)]
  simp only [cond_false]
  exact rangeP_ok (key:=fun x:Entry=>x.Key) (Q:=okEntry) (fun p x k q1 q2=>by
    obtain ⟨a1,a2,a3,a4,a5⟩:=q1
    unfold entB digestsS
    have hu:inR 0 1000000000 x.Used=true:=by simp [inR]; omega
    rw [a1,decide_eq_false (by omega),refsS_of a3,hu,q2]
    rfl) l none h2 h3 (fun y hy=>by cases hy)
theorem OkCache.check {c:Cache} (h:OkCache c):cacheS c=some 0:=by
  unfold cacheS
  have h1:inR 0 1000000000 c.Room=true:=by have:=h.room0; have:=h.room1; simp [inR]; omega
  have h2:inR 0 1000000 c.Lease=true:=by have:=h.lease0; have:=h.lease1; simp [inR]; omega
  rw [h1,h2,blobsS_of h.bl h.be h.bs h.sum,entsS_of h.el h.ee h.es]
  rfl
def sumI:List Blob→Int
  | []=>0
  | x::l=>x.Size+sumI l
theorem sumW_eq:∀ (l:List Blob) (s:Int),(∀ x∈l,0≤x.Size∧x.Size≤100000000)→0≤s→s+(l.length:Int)*100000000≤4611686018427387904→sumW s l=s+sumI l
  | [],s,_,_,_=>by simp [sumW,sumI]
  | x::l,s,h,h0,h1=>by
    obtain ⟨a,b⟩:=h x (by simp)
    simp only [List.length_cons] at h1
    simp only [sumW,sumI]
    rw [w64_id (by omega) (by omega),sumW_eq l (s+x.Size) (fun y hy=>h y (by simp [hy])) (by omega) (by push_cast at h1; omega)]
    omega
theorem OkCache.sumI {c:Cache} (h:OkCache c):sumW 0 c.Blobs=sumI c.Blobs:=by
  rw [sumW_eq c.Blobs 0 (fun x hx=>⟨(h.be x hx).2.1,(h.be x hx).2.2.1⟩) (by omega) (by have:=h.bl; omega)]
  omega
theorem sumI_nn:∀ (l:List Blob),(∀ x∈l,0≤x.Size)→0≤sumI l
  | [],_=>by simp [sumI]
  | x::l,h=>by have:=h x (by simp); have:=sumI_nn l (fun y hy=>h y (by simp [hy])); simp only [sumI]; omega
theorem sumI_filter (p:Blob→Bool):∀ (l:List Blob),(∀ x∈l,0≤x.Size)→sumI (l.filter p)≤sumI l
  | [],_=>by simp [sumI]
  | x::l,h=>by
    have h0:=h x (by simp)
    have:=sumI_filter p l (fun y hy=>h y (by simp [hy]))
    rw [List.filter_cons]
    split <;> simp only [sumI] <;> omega
theorem ok_filter {c:Cache} (h:OkCache c) (p:Blob→Bool) (q:Entry→Bool):OkCache ⟨c.Room,c.Lease,c.Blobs.filter p,c.Entries.filter q⟩:=by
  have hz:∀ x∈c.Blobs,0≤x.Size:=fun x hx=>(h.be x hx).2.1
  refine ⟨h.room0,h.room1,h.lease0,h.lease1,Nat.le_trans (List.length_filter_le _ _) h.bl,fun x hx=>h.be x (List.mem_filter.1 hx).1,h.bs.filter p,?_,Nat.le_trans (List.length_filter_le _ _) h.el,fun x hx=>h.ee x (List.mem_filter.1 hx).1,h.es.filter q⟩
  show sumW 0 (c.Blobs.filter p)≤c.Room
  rw [sumW_eq (c.Blobs.filter p) 0 (fun x hx=>by have:=h.be x (List.mem_filter.1 hx).1; exact ⟨this.2.1,this.2.2.1⟩) (by omega) (by have:=h.bl; have:=List.length_filter_le p c.Blobs; omega)]
  have:=sumI_filter p c.Blobs hz
  have:=h.sumI
  have:=h.sum
  omega
end Go.Proofs.YtjdnnkdhajhdkaaGreatDoor

namespace Go.Proofs.YtjdnnkdhajhdkaaGreatDoor
open Go Go.Proofs.YtjdnnkdhajhdkaaGreatDoor.Kit
theorem memB_iff {l:List ByteArray} {d:ByteArray}:memB l d=true↔d∈l:=by simp [memB]
theorem missing_nil {c:Cache} {l:List ByteArray}:(missingS c l).isEmpty=true↔∀ d∈l,hasB c d=true:=by
  unfold missingS
  rw [List.isEmpty_iff,List.filter_eq_nil_iff]
  simp
end Go.Proofs.YtjdnnkdhajhdkaaGreatDoor

namespace Go.Proofs.YtjdnnkdhajhdkaaGreatDoor
open Go Go.Proofs.YtjdnnkdhajhdkaaGreatDoor.Kit
theorem fit_raw {c:Cache} (h3:c.Blobs.length*48≤reachBytes) (h3':∀ x∈c.Blobs,x.Digest.size≤reachBytes) (h4:c.Entries.length*48≤reachBytes)
    (h4':∀ x∈c.Entries,x.Key.size≤reachBytes∧x.Refs.length*16≤reachBytes∧∀ y∈x.Refs,y.size≤reachBytes):Fit c:=by
  simp only [reachBytes] at *
  refine ⟨⟨⟨by omega,fun x hx=>?_⟩,⟨by omega,fun x hx=>?_⟩⟩,by omega,by omega,fun x hx=>?_⟩
  · have:=h3' x hx
    omega
  · obtain ⟨k1,k2,k3⟩:=h4' x hx
    exact ⟨by omega,by omega,fun y hy=>by have:=k3 y hy; omega⟩
  · obtain ⟨k1,k2,k3⟩:=h4' x hx
    omega
theorem strs_raw {l:List ByteArray} (h:l.length*16≤reachBytes) (h':∀ x∈l,x.size≤reachBytes):smallStrs l∧l.length*16≤140737490452480:=by
  simp only [reachBytes] at *
  exact ⟨⟨by omega,fun x hx=>by have:=h' x hx; omega⟩,by omega⟩
end Go.Proofs.YtjdnnkdhajhdkaaGreatDoor
