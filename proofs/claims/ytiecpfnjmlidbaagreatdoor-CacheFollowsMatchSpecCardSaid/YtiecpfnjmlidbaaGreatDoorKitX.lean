/- The steps of the walk once more, in few letters: what the kernel can check by itself is not written out. -/
import Derived.Test.YtiecpfnjmlidbaaGreatDoorKitV
set_option linter.unusedVariables false
namespace Go.Proofs.YtiecpfnjmlidbaaGreatDoor.Kit
open Go Go.RowKit
def nb:Nat→Nat→List Bool
  | 0,_=>[]
  | n+1,k=>Nat.beq (k % 2) 1::nb n (k / 2)
abbrev iv (n:Int):Value:=.int .i64 n
abbrev pg (g off:Nat):Value:=.pointer (some ⟨g,off,none⟩)
theorem Pk {H:Hp} {w0:World} {cs cs':List Ch} (n:Nat) (idx:List Nat) (h:pick n idx cs=cs':=by rfl) (ok:aJ6 n idx=true:=by kernel_rfl):∀ w,Heap H w0 w cs→Heap H w0 w cs':=fun w hh=>h ▸ hh.pick n idx ok
section
variable {F:Ctx} {S:Value→Hp→List Ch→Prop} {H0 H:Hp} {w0:World} {es:List En} {L:w7} {cs:List Ch} {p:List Nat} {i n:Nat} {T T2:World→Prop} {bs:List Nat} {ls:List Bool}
theorem Rk (j:Nat) (ts:List Nat) (L':w7) (k:c6 F S H0 w0 p es j L' H cs) (h:runK F.P F.N (s9 F.c p) (j - i) i L [] ts=some (L',[]):=by kernel_rfl) (hij:(Nat.ble i j&&Nat.ble j (s9 F.c p).size)=true:=by kernel_rfl):c6 F S H0 w0 p es i L H cs :=
  c6.bf4 j ts h hij (fun _ _=>trivial) k
theorem Rd (j:Nat) (ts:List Nat) (L':w7) (k:b8 F S H0 w0 es L' H cs) (h:runK F.P F.N (s9 F.c p) (j - i) i L [] ts=some (L',[]):=by kernel_rfl) (hij:(Nat.ble i j&&Nat.ble j (s9 F.c p).size)=true:=by kernel_rfl) (hj:Nat.beq (s9 F.c p).size j=true:=by kernel_rfl):c6 F S H0 w0 p es i L H cs :=
  Rk j ts L' (c6.done hj k) h hij
theorem Rv (j:Nat) (ts:List Nat) (vs:List Value) (G8:List Ev) (L':w7) (hold:∀ w,Heap H w0 w cs→V5 w G8) (k:c6 F S H0 w0 p es j L' H cs) (h:runK F.P F.N (s9 F.c p) (j - i) i L vs ts=some (L',G8):=by kernel_rfl) (hij:(Nat.ble i j&&Nat.ble j (s9 F.c p).size)=true:=by kernel_rfl):c6 F S H0 w0 p es i L H cs :=
  c6.bf4 j ts h hij hold k
theorem Rw' (j:Nat) (ts:List Nat) (vs:List Value) (G8:List Ev) (L':w7) (hold:∀ w,Heap H w0 w cs→V5 w G8) (k:b8 F S H0 w0 es L' H cs) (h:runK F.P F.N (s9 F.c p) (j - i) i L vs ts=some (L',G8):=by kernel_rfl) (hij:(Nat.ble i j&&Nat.ble j (s9 F.c p).size)=true:=by kernel_rfl) (hj:Nat.beq (s9 F.c p).size j=true:=by kernel_rfl):c6 F S H0 w0 p es i L H cs :=
  c6.bf4 j ts h hij hold (c6.done hj k)
theorem Dn (k:b8 F S H0 w0 es L H cs) (h:Nat.beq (s9 F.c p).size i=true:=by kernel_rfl):c6 F S H0 w0 p es i L H cs:=c6.done h k
theorem Ra (n:Nat) (p:List Nat) (es':List En) (k:c6 F S H0 w0 p es' 0 L H cs) (h:S4 F.c n es=some (.c p::es'):=by kernel_rfl) (hr:aN1 F.c p=some false:=by kernel_rfl):b8 F S H0 w0 es L H cs:=b8.S4 n h (b8.reg hr k)
theorem Rr (k:c6 F S H0 w0 p es 0 L H cs) (h:aN1 F.c p=some false:=by kernel_rfl):b8 F S H0 w0 (.c p::es) L H cs:=b8.reg h k
theorem Ct (c:Bool) (hb:c=true) (k:b8 F S H0 w0 (.c (p++[0])::es) L H cs) (h:aR3 F.c p L=some (.bool c):=by kernel_rfl):b8 F S H0 w0 (.c p::es) L H cs:=b8.bz6 h hb k
theorem Cf (c:Bool) (hb:c=false) (k:b8 F S H0 w0 (.c (p++[1])::es) L H cs) (h:aR3 F.c p L=some (.bool c):=by kernel_rfl):b8 F S H0 w0 (.c p::es) L H cs:=b8.bz7 h hb k
theorem Kr (ts:List Nat) (L':w7) (k:o5 F S H0 w0 p es T T2 bs n ls L' H cs) (h:keep L ts=some L':=by kernel_rfl):o5 F S H0 w0 p es T T2 bs n ls L H cs:=o5.keep ts h k
theorem Dr (order:List Nat) (m:Nat) (ls':List Bool) (vs:List Value) (G8:List Ev) (L':w7) (hT:∀ w,Heap H w0 w cs→T w) (hT2:∀ w,T w→T2 w) (hold:∀ w,T w→V5 w G8) (k:o5 F S H0 w0 p es T T2 bs m ls' L' H cs)
    (h:aq4 F.P F.N (s9 F.c p) bs true order ls L vs=some (ls',L',G8):=by kernel_rfl) (hsel:Region.noSelect (s9 F.c p)=true:=by kernel_rfl) (hnm:Nat.beq (order.length+m) n=true:=by kernel_rfl):o5 F S H0 w0 p es T T2 bs n ls L H cs :=
  o5.run order hsel hT hT2 h hold hnm k
theorem Dk (order:List Nat) (m:Nat) (ls':List Bool) (vs:List Value) (G8:List Ev) (ts:List Nat) (L':w7) (hT:∀ w,Heap H w0 w cs→T w) (hT2:∀ w,T w→T2 w) (hold:∀ w,T w→V5 w G8) (k:o5 F S H0 w0 p es T T2 bs m ls' L' H cs)
    (h:(aq4 F.P F.N (s9 F.c p) bs true order ls L vs).bind (fun x=>(keep x.2.1 ts).map (fun y=>(x.1,y,x.2.2)))=some (ls',L',G8):=by kernel_rfl) (hsel:Region.noSelect (s9 F.c p)=true:=by kernel_rfl) (hnm:Nat.beq (order.length+m) n=true:=by kernel_rfl):o5 F S H0 w0 p es T T2 bs n ls L H cs:=by
  cases h1:aq4 F.P F.N (s9 F.c p) bs true order ls L vs with
  | none=>rw [h1] at h; cases h
  | some x =>
    obtain ⟨l1,ac5,e1⟩:=x
    rw [h1] at h
    simp only [Option.bind_some] at h
    cases h2:keep ac5 ts with
    | none=>rw [h2] at h; cases h
    | some y =>
      rw [h2] at h
      simp only [Option.map_some,Option.some.injEq,Prod.mk.injEq] at h
      obtain ⟨rfl,rfl,rfl⟩:=h
      exact o5.run order hsel hT hT2 h1 hold hnm (o5.keep ts h2 k)
end
end Go.Proofs.YtiecpfnjmlidbaaGreatDoor.Kit
