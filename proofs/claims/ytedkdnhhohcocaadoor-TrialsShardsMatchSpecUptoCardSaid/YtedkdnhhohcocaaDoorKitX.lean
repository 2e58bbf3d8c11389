/- The steps of the walk once more, in few letters: what the kernel can check by itself is not written out. -/
import Derived.Test.YtedkdnhhohcocaaDoorKitV
set_option linter.unusedVariables false
namespace Go.Proofs.YtedkdnhhohcocaaDoor.Kit
open Go Go.RowKit
def nb:Nat→Nat→List Bool
  | 0,_=>[]
  | n+1,k=>Nat.beq (k % 2) 1::nb n (k / 2)
abbrev iv (n:Int):Value:=.int .i64 n
abbrev pg (g off:Nat):Value:=.pointer (some ⟨g,off,none⟩)
theorem Pk {H:Hp} {w0:World} {cs cs':List Ch} (n:Nat) (idx:List Nat) (h:pick n idx cs=cs':=by rfl) (ok:pickOk n idx=true:=by kernel_rfl):∀ w,Heap H w0 w cs→Heap H w0 w cs':=fun w hh=>h ▸ hh.pick n idx ok
section
variable {F:Ctx} {S:Value→Hp→List Ch→Prop} {H0 H:Hp} {w0:World} {es:List En} {L:Slots} {cs:List Ch} {p:List Nat} {i n:Nat} {T T2:World→Prop} {bs:List Nat} {ls:List Bool}
theorem Rk (j:Nat) (ts:List Nat) (L':Slots) (k:RgH F S H0 w0 p es j L' H cs) (h:runK F.P F.N (opsAt F.c p) (j - i) i L [] ts=some (L',[]):=by kernel_rfl) (hij:(Nat.ble i j&&Nat.ble j (opsAt F.c p).size)=true:=by kernel_rfl):RgH F S H0 w0 p es i L H cs :=
  RgH.runk j ts h hij (fun _ _=>trivial) k
theorem Rd (j:Nat) (ts:List Nat) (L':Slots) (k:RunH F S H0 w0 es L' H cs) (h:runK F.P F.N (opsAt F.c p) (j - i) i L [] ts=some (L',[]):=by kernel_rfl) (hij:(Nat.ble i j&&Nat.ble j (opsAt F.c p).size)=true:=by kernel_rfl) (hj:Nat.beq (opsAt F.c p).size j=true:=by kernel_rfl):RgH F S H0 w0 p es i L H cs :=
  Rk j ts L' (RgH.done hj k) h hij
theorem Rv (j:Nat) (ts:List Nat) (vs:List Value) (evs:List Ev) (L':Slots) (hold:∀ w,Heap H w0 w cs→Hold w evs) (k:RgH F S H0 w0 p es j L' H cs) (h:runK F.P F.N (opsAt F.c p) (j - i) i L vs ts=some (L',evs):=by kernel_rfl) (hij:(Nat.ble i j&&Nat.ble j (opsAt F.c p).size)=true:=by kernel_rfl):RgH F S H0 w0 p es i L H cs :=
  RgH.runk j ts h hij hold k
theorem Rw' (j:Nat) (ts:List Nat) (vs:List Value) (evs:List Ev) (L':Slots) (hold:∀ w,Heap H w0 w cs→Hold w evs) (k:RunH F S H0 w0 es L' H cs) (h:runK F.P F.N (opsAt F.c p) (j - i) i L vs ts=some (L',evs):=by kernel_rfl) (hij:(Nat.ble i j&&Nat.ble j (opsAt F.c p).size)=true:=by kernel_rfl) (hj:Nat.beq (opsAt F.c p).size j=true:=by kernel_rfl):RgH F S H0 w0 p es i L H cs :=
  RgH.runk j ts h hij hold (RgH.done hj k)
theorem Dn (k:RunH F S H0 w0 es L H cs) (h:Nat.beq (opsAt F.c p).size i=true:=by kernel_rfl):RgH F S H0 w0 p es i L H cs:=RgH.done h k
theorem Ra (n:Nat) (p:List Nat) (es':List En) (k:RgH F S H0 w0 p es' 0 L H cs) (h:adm F.c n es=some (.c p::es'):=by kernel_rfl) (hr:isReg F.c p=some false:=by kernel_rfl):RunH F S H0 w0 es L H cs:=RunH.adm n h (RunH.reg hr k)
theorem Rr (k:RgH F S H0 w0 p es 0 L H cs) (h:isReg F.c p=some false:=by kernel_rfl):RunH F S H0 w0 (.c p::es) L H cs:=RunH.reg h k
theorem Ct (c:Bool) (hb:c=true) (k:RunH F S H0 w0 (.c (p++[0])::es) L H cs) (h:evalAt F.c p L=some (.bool c):=by kernel_rfl):RunH F S H0 w0 (.c p::es) L H cs:=RunH.condT h hb k
theorem Cf (c:Bool) (hb:c=false) (k:RunH F S H0 w0 (.c (p++[1])::es) L H cs) (h:evalAt F.c p L=some (.bool c):=by kernel_rfl):RunH F S H0 w0 (.c p::es) L H cs:=RunH.condF h hb k
theorem Kr (ts:List Nat) (L':Slots) (k:DrH F S H0 w0 p es T T2 bs n ls L' H cs) (h:keep L ts=some L':=by kernel_rfl):DrH F S H0 w0 p es T T2 bs n ls L H cs:=DrH.keep ts h k
theorem Dr (order:List Nat) (m:Nat) (ls':List Bool) (vs:List Value) (evs:List Ev) (L':Slots) (hT:∀ w,Heap H w0 w cs→T w) (hT2:∀ w,T w→T2 w) (hold:∀ w,T w→Hold w evs) (k:DrH F S H0 w0 p es T T2 bs m ls' L' H cs)
    (h:runD F.P F.N (opsAt F.c p) bs true order ls L vs=some (ls',L',evs):=by kernel_rfl) (hsel:Region.noSelect (opsAt F.c p)=true:=by kernel_rfl) (hnm:Nat.beq (order.length+m) n=true:=by kernel_rfl):DrH F S H0 w0 p es T T2 bs n ls L H cs :=
  DrH.run order hsel hT hT2 h hold hnm k
end
end Go.Proofs.YtedkdnhhohcocaaDoor.Kit
