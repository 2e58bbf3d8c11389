/- Plain words of our own: lists, numbers and strings as the written functions speak of them. -/
import GoSem.Op.String
import GoSem.Core.View
set_option linter.unusedVariables false
namespace Go.Proofs.YtiecpfnjmlidbaaGreatDoor.Kit
open Go
def bt (s:ByteArray) (i:Int):Int:=if h:i.toNat<s.size then ((s[i.toNat]'h).toNat:Int) else 0
def o7 {α:Type} (xs:List α) (i:Int):Option α:=if 0≤i then xs[i.toNat]? else none
theorem aa2 {α:Type} {xs:List α} {i:Int} {x:α} (h:o7 xs i=some x):0≤i∧i<(xs.length:Int)∧xs[i.toNat]? = some x:=by
  unfold o7 at h
  split at h
  · rename_i h0
    have:=(List.getElem?_eq_some_iff.1 h).1
    exact ⟨h0,by omega,h⟩
  · simp at h
def c5 (n:Int):Int:=IntKind.i64.wrap n
def p4 (a b:ByteArray):Bool:=a.toList == b.toList
def x9 (a b:ByteArray):Bool:=Op.bytesLess a.toList b.toList
def G5 (c:Bool) {α:Type} (x:Option α):Option α:=bif c then x else none
theorem M1 {c:Bool} {α:Type} {x:Option α} {r:α} (h:G5 c x=some r):c=true∧x=some r:=by
  cases c
  · simp [G5] at h
  · exact ⟨rfl,h⟩
theorem bind_some {α β:Type} {x:Option α} {f:α→Option β} {r:β} (h:x.bind f=some r):∃ a,x=some a∧f a=some r:=Option.bind_eq_some_iff.1 h
def max2 (a b:Int):Int:=if b > a then b else a
theorem O6 {p q:Prop} [Decidable p] [Decidable q] (h:(decide p&&decide q)=true):p∧q:=by simpa using h
def room (n m bytes:Nat):Bool:=decide ((n+m)*bytes≤140737490452480)
theorem room_le {n m bytes:Nat} (h:room n m bytes=true):(n+m)*bytes≤140737490452480:=by simpa [room] using h
theorem cG7 {p q r:Prop} [Decidable p] [Decidable q] [Decidable r] (h:(decide p&&(decide q&&decide r))=true):p∧q∧r:=by simpa using h
theorem A5 {α:Type} {c:Bool} {A B:Option α} {r:α} (h:c=true) (e:(bif c then A else B)=some r):A=some r:=by
  rw [h] at e
  exact e
theorem A6 {α:Type} {c:Bool} {A B:Option α} {r:α} (h:c=false) (e:(bif c then A else B)=some r):B=some r:=by
  rw [h] at e
  exact e
theorem y9 (c:Bool):c=true∨c=false:=by cases c <;> simp
/-! Maps as lists of keys and values. -/
def ay3 {κ ν:Type} [DecidableEq κ]:List (κ × ν)→κ→Option ν
  | [],_=>none
  | q::m,k=>if q.1=k then some q.2 else ay3 m k
def ao5 {κ ν:Type} [DecidableEq κ]:List (κ × ν)→κ→ν→List (κ × ν)
  | [],k,v=>[(k,v)]
  | q::m,k,v=>if q.1=k then (k,v)::m else q::ao5 m k v
def aq3 {κ ν:Type} [DecidableEq κ] (m:List (κ × ν)) (k:κ) (z:ν):ν:=(ay3 m k).getD z
def aR5 {κ ν:Type} [DecidableEq κ] (m:List (κ × ν)) (k:κ):Bool:=(ay3 m k).isSome
/-! Whole numbers bit by bit. -/
def F8 (k:IntKind) (a b:Int):Int:=a.fdiv (2 ^ min b.toNat k.bits)
def n8:Nat:=1180591620717411303424
end Go.Proofs.YtiecpfnjmlidbaaGreatDoor.Kit
