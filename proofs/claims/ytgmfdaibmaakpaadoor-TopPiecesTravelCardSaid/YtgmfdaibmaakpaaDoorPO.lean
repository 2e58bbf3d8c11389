/- Plain aids: the order of strings, loops that look back and carry a state, binary search. -/
import Derived.Test.YtgmfdaibmaakpaaDoorPW
import Derived.Lib.Bytealg
set_option linter.unusedVariables false
set_option linter.unusedSimpArgs false
namespace Go.Proofs.YtgmfdaibmaakpaaDoor
open Go Go.Proofs.YtgmfdaibmaakpaaDoor.Kit
theorem at?_get {α:Type} {xs:List α} {v:Int} (h0:0≤v) (h1:v<(xs.length:Int)):∃ (hn:v.toNat<xs.length),at? xs v=some xs[v.toNat]:=⟨by omega,by simp [at?,h0,show v.toNat<xs.length by omega]⟩
end Go.Proofs.YtgmfdaibmaakpaaDoor
