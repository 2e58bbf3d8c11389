/- Words of our own: arrays in memory, read and written whole. -/
import Derived.Test.YtacmmbpamfefbaaDoorKitI
import Derived.Laws.Rows
import Derived.Laws.Tables
set_option linter.unusedSimpArgs false
set_option linter.unusedVariables false
set_option linter.unnecessarySimpa false
namespace Go.Proofs.YtacmmbpamfefbaaDoor.Kit
open Go Go.RowKit

/-! ### 25. Arrays -/
section
variable {F:Ctx} {R:Ending→World→Prop} {es es':List En} {L L':Slots} {w:World} {p:List Nat} {i:Nat}
end
theorem Own.pl {α:Type} {d:Kd α} {e:TypeId} {H:Hp} {w:World} {n0 g c:Nat} {xs:List α} (h:Own d e H w n0 (some ⟨g,0,none⟩) c xs):n0≤g∧H g=none:=by
  rcases h with ⟨h,_⟩ | ⟨b,cs,hA,h0,hn,_⟩
  · cases h
  · injection hA with hA
    injection hA with hA
    subst hA
    exact ⟨h0,hn⟩
end Go.Proofs.YtacmmbpamfefbaaDoor.Kit
