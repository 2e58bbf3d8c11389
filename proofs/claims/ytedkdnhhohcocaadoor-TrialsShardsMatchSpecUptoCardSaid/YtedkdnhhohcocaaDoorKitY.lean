/- Words of our own: lists of strings of the call's own, sorted and made compact by the library. -/
import Derived.Test.YtedkdnhhohcocaaDoorKitX
import Derived.Sort.Grow
import Derived.Sort.EncStr
import Derived.Lib.SlicesCompact
import Derived.Lib.RowBridge
set_option linter.unusedVariables false
namespace Go.Proofs.YtedkdnhhohcocaaDoor.Kit
open Go Go.RowKit Go.Sort

/-! ### 70. Strings as lists of bytes -/
def sortB (xs:List ByteArray):List ByteArray:=((xs.map (fun s=>s.data.toList)).mergeSort fun x y=>decide (x≤y)).map fun l=>⟨l.toArray⟩
theorem sortB_length (xs:List ByteArray):(sortB xs).length=xs.length:=by simp [sortB]
theorem enc_bytes (xs:List ByteArray) (j:Nat) (h:j<xs.length):encStr (xs.map (fun s=>s.data.toList)).toArray[j]! = .string xs[j]:=by
  have hj:j<(xs.map (fun s:ByteArray=>s.data.toList)).toArray.size:=by simpa using h
  rw [getElem!_pos _ j hj]
  simp [encStr]
theorem holds_own {w:World} {b off:Nat} {cells:Array Value} {e:TypeId} {H:Hp} {xs:List ByteArray} (hb:w.heap[b]? = some (.cells cells e (0,0))) (hr:Kd.Rep Kd.string H cells off xs) :
    Holds encStr w b off (xs.map (fun s=>s.data.toList)).toArray:=by
  intro j hj
  have hj':j<xs.length:=by simpa using hj
  refine ⟨?_,by simp [World.frozen?,hb]⟩
  rw [enc_bytes xs j hj']
  obtain ⟨c,hc,hv⟩:=hr j xs[j] (List.getElem?_eq_getElem hj')
  have hc:c=[.string xs[j]]:=hc
  subst hc
  have:=hv 0 _ rfl
  have e1:(Kd.string).sz=1:=rfl
  rw [e1,Nat.mul_one,Nat.add_zero] at this
  exact blk_cell hb this
theorem heap_row {H:Hp} {w0 w:World} {F:List Ch} {b off:Nat} {cells:Array Value} {e:TypeId} (hh:Heap H w0 w (some (b,.cells cells e (0,0))::F)) (ys:List (List UInt8)) (m:Nat) (os:Array Obj) :
    Heap H w0 (grow (putRow encStr (Sort.ahead w m) b off ys.toArray) os) (some (b,.cells (putCells encStr off ys.toArray cells) e (0,0))::F):=by
  have hb:w.heap[b]? = some (.cells cells e (0,0)):=hh.chin 0 rfl
  have hlt:b<w.heap.size:=(Array.getElem?_eq_some_iff.1 hb).1
  have hU:Upd w (putRow encStr (Sort.ahead w m) b off ys.toArray) b (.cells (putCells encStr off ys.toArray cells) e (0,0)) :=
    ⟨rfl,rfl,rfl,by simp [putRow,mapBlock,Sort.ahead],by simp [putRow,mapBlock,Sort.ahead,Array.getElem?_modify,hb,onCells],fun k hk=>by
      have:b≠k:=fun h=>hk h.symm
      simp [putRow,mapBlock,Sort.ahead,Array.getElem?_modify,this]⟩
  have h1:=hh.upd (k:=0) rfl hU
  refine Heap.later h1 ?_
  refine ⟨rfl,rfl,rfl,by simp [grow],fun k hk=>?_⟩
  simp only [grow]
  rw [Array.getElem?_append_left hk]
theorem rep_row {H:Hp} {off:Nat} {cells:Array Value} (ys:List (List UInt8)) (hl:off+ys.length≤cells.size):Kd.Rep Kd.string H (putCells encStr off ys.toArray cells) off (ys.map fun l=>(⟨l.toArray⟩:ByteArray)):=by
  intro i x hx
  have hi:i<ys.length:=by
    have:=(List.getElem?_eq_some_iff.1 hx).1
    simpa using this
  refine ⟨[.string x],rfl,fun j v hv=>?_⟩
  have hj:j=0:=by
    cases j with
    | zero=>rfl
    | succ j=>simp at hv
  subst hj
  simp at hv
  subst hv
  have e1:(Kd.string).sz=1:=rfl
  rw [e1,Nat.mul_one,Nat.add_zero]
  have hk:off+i<cells.size:=by omega
  have hx2:x=⟨ys[i].toArray⟩:=by
    have:=(List.getElem?_eq_some_iff.1 hx).2
    simpa using this.symm
  subst hx2
  simp [putCells,hk,hi,encStr]

/-! ### 71. The sort -/
theorem sort_calls {P:Program} {n:FuncId} {e:TypeId} {H:Hp} {w0:World} {F:List Ch} {A:Option Addr} {c:Nat} {xs:List ByteArray} {ch:Ch}
    (hC:∀ (blk off cap:Nat) (ss:List (List UInt8)) (w:World),Holds encStr w blk off ss.toArray→blk<w.heap.size→ss.length<4611686018427387904 →
      Calls P n #[.slice (some ⟨blk,off,none⟩) ss.length cap] w fun e w'=>e=.returned (.tuple #[])∧∃ n os,w'=grow (putRow encStr (Sort.ahead w n) blk off (ss.mergeSort fun x y=>decide (x≤y)).toArray) os)
    (hN:∀ (p:Option Addr) (cap:Nat) (w:World),Calls P n #[.slice p 0 cap] w fun e w'=>e=.returned (.tuple #[])∧w'=w)
    (ho:SlOwn Kd.string e H A c xs ch) (hx:xs.length<4611686018427387904) :
    CallsH P n #[.slice A xs.length c] H w0 (ch::F) (fun v H' cs=>∃ ch',H=H'∧v=.tuple #[]∧ch'::F=cs∧SlOwn Kd.string e H' A c (sortB xs) ch'):=by
  intro w hh
  rcases ho with ⟨rfl,rfl,rfl⟩ | ⟨b,off,cells,rfl,rfl,k3,k4,k5,k6⟩
  · refine (hN A 0 w).mono ?_
    rintro e w' ⟨rfl,rfl⟩
    exact ⟨_,rfl,H,_,Le.refl H,hh,none,rfl,rfl,rfl,.inl ⟨by simp [sortB],rfl,rfl⟩⟩
  · have hb:w.heap[b]? = some (.cells cells e (0,0)):=hh.chin 0 rfl
    have h:=hC b off c (xs.map (fun s=>s.data.toList)) w (holds_own hb k6) (Array.getElem?_eq_some_iff.1 hb).1 (by simpa using hx)
    rw [List.length_map] at h
    refine h.mono ?_
    rintro e' w' ⟨rfl,m,os,rfl⟩
    have e1:(Kd.string).sz=1:=rfl
    rw [e1,Nat.mul_one] at k5
    have hl:off+((xs.map (fun s:ByteArray=>s.data.toList)).mergeSort fun x y=>decide (x≤y)).length≤cells.size:=by simp; omega
    refine ⟨_,rfl,H,_,Le.refl H,heap_row hh _ m os,_,rfl,rfl,rfl,.inr ⟨b,off,_,rfl,rfl,by rw [sortB_length]; exact k3,k4,?_,rep_row _ hl⟩⟩
    rw [e1,Nat.mul_one]
    simpa [putCells] using k5

/-! ### 72. Compact -/
end Go.Proofs.YtedkdnhhohcocaaDoor.Kit
