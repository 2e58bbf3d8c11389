/- Caches: copies, sweeps and drops; lists of digests. -/
import Derived.Test.YtiecpfnjmlidbaaGreatDoorPC7F
import Derived.Test.YtiecpfnjmlidbaaGreatDoorPDel
set_option linter.unusedVariables false
set_option linter.unusedSimpArgs false
namespace Go.Proofs.YtiecpfnjmlidbaaGreatDoor
open Go Go.Proofs.YtiecpfnjmlidbaaGreatDoor.Kit
theorem cm6 {c:Cache} (hb:c.U.length*48≤140737490452480) (he:c.Entries.length*48≤140737490452480) (hr:∀ x∈c.Entries,x.Refs.length*16≤140737490452480):ag5.f c=some c:=by
  unfold ag5.f
  rw [bS2 hb,cQ8 he]
  simp only [Option.bind_some]
  refine bo9 (L:=fun k v=>ag5.l2 ag5.e1 k c c.U c.Entries c.Entries v) (n:=c.Entries.length) (by omega) (fun k v h0 h1=>?_) (fun k=>?_)
  · obtain ⟨hn,hat⟩:=bg8 (xs:=c.Entries) h0 h1
    simp only [ag5.l2,decide_eq_true h1,cond_true,hat,Option.bind_some,bE0 (hr _ (List.getElem_mem hn))]
    rw [B7 (by omega) (by omega)]
    congr 1
    exact List.set_getElem_self hn
  · simp only [ag5.l2,decide_eq_false (Int.lt_irrefl _),cond_false]
    rfl
def ae0 (b:Blob) (t:Int):Bool:=decide (0<b.q4)||decide (t<b.u6)
theorem bS4 (b:Blob) (t:Int):bh9.f b t=some (ae0 b t):=by
  unfold bh9.f ae0
  cases decide (0<b.q4) <;> rfl
theorem cm7 {α:Type} {z:α} (s:List α) (i:Int) (h0:0≤i) (h1:i≤(s.length:Int)):(G5 (decide ((0:Int)≤i)&&decide (i≤((s.length:Nat):Int))) (G5 (decide ((0:Int)≤i)&&decide (i≤((s.length:Nat):Int))) (some ((s.take i.toNat++List.replicate (s.length - i.toNat) z).take i.toNat))))=some (s.take i.toNat):=by
  rw [decide_eq_true h0,decide_eq_true h1]
  simp only [Bool.and_self,G5,cond_true]
  congr 1
  rw [List.take_append_of_le_length (by simp; omega),List.take_take,Nat.min_self]
theorem cQ9 (l:List Blob) (w:List (ByteArray × Bool)) (h:l.length≤4611686018427387904):X1.f l w=some (l.filter (fun b=>!aq3 w b.b7 false)):=by
  unfold X1.f ao9.f
  rw [as3 (xs:=l) (S:=Unit) (L:=fun k _ v=>ao9.l2 ao9.e1 k l w v) (body:=fun v x s f=>bif aq3 w x.b7 false then some v else f s) (e:=fun _=>some (-1)) h (fun k s v=>rfl) (),bh8 l 0]
  exact cm8 (c:=fun b:Blob=>aq3 w b.b7 false) (L:=fun k s i j=>X1.l2 X1.e1 k w s i j) (E:=X1.e1) h (fun k s i j=>by
    simp only [X1.l2,X1.j3,bp8.f,Option.bind_some]) (fun s i h0 h1=>cm7 s i h0 h1)
end Go.Proofs.YtiecpfnjmlidbaaGreatDoor

namespace Go.Proofs.YtiecpfnjmlidbaaGreatDoor
open Go Go.Proofs.YtiecpfnjmlidbaaGreatDoor.Kit
theorem cR0 {α γ β:Type} {g:α→γ} {b:Nat} {E:List γ→Option β} (l:List α) (i:Int) (s:List γ) (h:(s.length+l.length)*b≤140737490452480) :
    au7 (fun _ x s f=>G5 (room s.length 1 b) (f (s++[g x]))) E i l s=E (s++l.map g):=by
  have:=aW5 (c:=fun _=>true) (g:=g) (b:=b) (E:=E) l i s h
  have e:l.filter (fun _=>true)=l:=by simp
  rw [e] at this
  exact this
def Q2 (l:List ByteArray) (d:ByteArray):Bool:=l.any (fun x=>decide (x=d))
theorem cm9:∀ (l:List ByteArray) (m:List (ByteArray × Bool)) (d:ByteArray),aq3 (bE1 m l) d false=(Q2 l d||aq3 m d false)
  | [],m,d=>by simp [bE1,Q2]
  | k::l,m,d=>by
    have ih:=cm9 l (ao5 m k true) d
    unfold bE1 at ih ⊢
    rw [List.foldl_cons,ih,cR1]
    simp only [Q2,List.any_cons]
    cases decide (k=d) <;> simp
theorem cn0 {c:Cache} {l:List ByteArray} (h:l.length≤4611686018427387904) (hb:c.U.length≤4611686018427387904):af3.f c l=some ⟨c.Room,c.c4,c.U.filter (fun b=>!Q2 l b.b7),c.Entries⟩:=by
  unfold af3.f
  rw [as3 (xs:=l) (L:=fun k s v=>af3.l2 af3.e1 k c l s v) (body:=fun _ x s f=>f (ao5 s x true)) (e:=fun s=>af3.e1 c s) h (fun k s v=>rfl) [],bE2 (g:=fun (s:List (ByteArray × Bool)) y=>ao5 s y true) l 0 []]
  unfold af3.e1
  rw [cQ9 _ _ hb]
  have:∀ b:Blob,aq3 (l.foldl (fun (s:List (ByteArray × Bool)) y=>ao5 s y true) []) b.b7 false=Q2 l b.b7:=fun b=>by
    have:=cm9 l [] b.b7
    unfold bE1 at this
    rw [this]
    simp [aq3,ay3]
  simp only [this,Option.bind_some]
end Go.Proofs.YtiecpfnjmlidbaaGreatDoor
