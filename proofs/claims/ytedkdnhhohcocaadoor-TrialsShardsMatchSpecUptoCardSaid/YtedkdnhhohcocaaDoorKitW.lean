/- Words of our own: a global of the library that holds some number, and what the shelf says of strings.Split. -/
import Derived.Test.YtedkdnhhohcocaaDoorKitX
import Derived.Handed
import Derived.HandedShaped
import Derived.Shelf.Vars
import Derived.Shelf.Strings.Split
set_option linter.unusedVariables false
namespace Go.Proofs.YtedkdnhhohcocaaDoor.Kit
open Go Go.RowKit

/-! ### 60. A global that holds some number -/
class GlobI (g:Nat) (w:World):Prop where
  cell:∃ m:Int,w.cell? ⟨g,0,none⟩=some (.int .i64 m)
theorem GlobI.at {g:Nat} {H:Hp} {w0 w:World} {cs:List Ch} [h:GlobI g w0] (hh:Heap H w0 w cs):∃ m:Int,w.cell? ⟨g,0,none⟩=some (.int .i64 m):=by
  obtain ⟨m,hm⟩:=h.cell
  exact ⟨m,(hh.ext.cell (World.block_lt_of_cell? w0 _ hm)).trans hm⟩
theorem GlobI.of {P:Program} {w:World} {g:Nat} {t:TypeId} {zero:Array Value} (h:w.ShapedOpen P) (hg:g<P.globals.size)
    (h0:((begin P (fun _ _=>0) default).world.heap[g]?).bind Obj.row? = some (zero,t)) (hz:zero.size=1)
    (hb:P.buildable t=true) (hc:P.cellTypes P.depth t=some [t]) (hu:P.underlying t=some (.int .i64)):GlobI g w :=
  ⟨cell_of_shapedOpen_int h hg h0 hz hb hc hu⟩

/-! ### 61. A call that hands back a new block of strings -/
theorem split_post {H:Hp} {w0 w:World} {F:List Ch} {xs:List ByteArray} {n:Nat} {e:TypeId} {cells:Array Value} (hh:Heap H w0 w F) (hl:xs.length=n) (hm:n≤maxLen) (hc:cells=(xs.map Value.string).toArray) :
    ∃ H' cs',Le H H'∧Heap H' w0 (w.alloc (.cells cells e (0,0))) cs'∧∃ (A0:Option Addr) (c0:Nat) (ch0:Ch),H'=H∧Value.slice (some ⟨w.heap.size,0,none⟩) n n=.slice A0 xs.length c0∧cs'=ch0::F∧SlOwn Kd.string e H' A0 c0 xs ch0:=by
  subst hl
  refine ⟨H,_,Le.refl H,hh.push (w':=w.alloc (.cells cells e (0,0))) (Ext.push w _) rfl (by show (w.heap.push _)[w.heap.size]? = _; simp),_,_,_,rfl,rfl,rfl,SlOwn.lit ?_ hm (Kd.Rep.scalars hc)⟩
  subst hc
  show xs.length*1=_
  simp

/-! ### 62. A row with pinned tables: the world's shape kept -/
end Go.Proofs.YtedkdnhhohcocaaDoor.Kit
