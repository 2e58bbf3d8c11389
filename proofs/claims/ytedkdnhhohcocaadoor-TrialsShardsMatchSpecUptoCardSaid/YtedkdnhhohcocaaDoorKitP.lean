/- Plain words of our own: lists, numbers and strings as the written functions speak of them. -/
import GoSem.Op.String
import GoSem.Core.View
set_option linter.unusedVariables false
namespace Go.Proofs.YtedkdnhhohcocaaDoor.Kit
open Go
def bt (s:ByteArray) (i:Int):Int:=if h:i.toNat<s.size then ((s[i.toNat]'h).toNat:Int) else 0
def at? {α:Type} (xs:List α) (i:Int):Option α:=if 0≤i then xs[i.toNat]? else none
theorem at?_some {α:Type} {xs:List α} {i:Int} {x:α} (h:at? xs i=some x):0≤i∧i<(xs.length:Int)∧xs[i.toNat]? = some x:=by
  unfold at? at h
  split at h
  · rename_i h0
    have:=(List.getElem?_eq_some_iff.1 h).1
    exact ⟨h0,by omega,h⟩
  · simp at h
def w64 (n:Int):Int:=IntKind.i64.wrap n
def sEq (a b:ByteArray):Bool:=a.toList == b.toList
def sLt (a b:ByteArray):Bool:=Op.bytesLess a.toList b.toList
def guard? (c:Bool) {α:Type} (x:Option α):Option α:=bif c then x else none
theorem guard?_some {c:Bool} {α:Type} {x:Option α} {r:α} (h:guard? c x=some r):c=true∧x=some r:=by
  cases c
  · simp [guard?] at h
  · exact ⟨rfl,h⟩
theorem bind_some {α β:Type} {x:Option α} {f:α→Option β} {r:β} (h:x.bind f=some r):∃ a,x=some a∧f a=some r:=Option.bind_eq_some_iff.1 h
def max2 (a b:Int):Int:=if b > a then b else a
def min2 (a b:Int):Int:=if b<a then b else a
theorem both_of {p q:Prop} [Decidable p] [Decidable q] (h:(decide p&&decide q)=true):p∧q:=by simpa using h
def room (n m bytes:Nat):Bool:=decide ((n+m)*bytes≤140737490452480)
theorem room_le {n m bytes:Nat} (h:room n m bytes=true):(n+m)*bytes≤140737490452480:=by simpa [room] using h
theorem three_of {p q r:Prop} [Decidable p] [Decidable q] [Decidable r] (h:(decide p&&(decide q&&decide r))=true):p∧q∧r:=by simpa using h
theorem bif_true {α:Type} {c:Bool} {A B:Option α} {r:α} (h:c=true) (e:(bif c then A else B)=some r):A=some r:=by
  rw [h] at e
  exact e
theorem bif_false {α:Type} {c:Bool} {A B:Option α} {r:α} (h:c=false) (e:(bif c then A else B)=some r):B=some r:=by
  rw [h] at e
  exact e
theorem bool_cases (c:Bool):c=true∨c=false:=by cases c <;> simp
/-! Maps as lists of keys and values. -/
def mget {κ ν:Type} [DecidableEq κ]:List (κ × ν)→κ→Option ν
  | [],_=>none
  | q::m,k=>if q.1=k then some q.2 else mget m k
def mput {κ ν:Type} [DecidableEq κ]:List (κ × ν)→κ→ν→List (κ × ν)
  | [],k,v=>[(k,v)]
  | q::m,k,v=>if q.1=k then (k,v)::m else q::mput m k v
def mgetD {κ ν:Type} [DecidableEq κ] (m:List (κ × ν)) (k:κ) (z:ν):ν:=(mget m k).getD z
def mhas {κ ν:Type} [DecidableEq κ] (m:List (κ × ν)) (k:κ):Bool:=(mget m k).isSome
/-! Whole numbers bit by bit. -/
def iShr (k:IntKind) (a b:Int):Int:=a.fdiv (2 ^ min b.toNat k.bits)
def big:Nat:=1180591620717411303424
end Go.Proofs.YtedkdnhhohcocaaDoor.Kit
