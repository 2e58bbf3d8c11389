/- Words of our own: a global of the library that holds some number, and what the shelf says of strings.Split. -/
import Derived.Test.YtdmdimhbcdocdaaDoorKitX
import Derived.Handed
import Derived.HandedShaped
import Derived.Shelf.Vars
import Derived.Shelf.Strings.Split
set_option linter.unusedVariables false
namespace Go.Proofs.YtdmdimhbcdocdaaDoor.Kit
open Go Go.RowKit

/-! ### 60. A global that holds some number -/
class GlobI (g:Nat) (w:World):Prop where
  cell:∃ m:Int,w.cell? ⟨g,0,none⟩=some (.int .i64 m)
theorem GlobI.at {g:Nat} {H:Hp} {w0 w:World} {cs:List Ch} [h:GlobI g w0] (hh:Heap H w0 w cs):∃ m:Int,w.cell? ⟨g,0,none⟩=some (.int .i64 m):=by
  obtain ⟨m,hm⟩:=h.cell
  exact ⟨m,(hh.ext.cell (World.block_lt_of_cell? w0 _ hm)).trans hm⟩
theorem GlobI.of {P:Program} {w:World} {g:Nat} {t:TypeId} {zero:Array Value} (h:w.ShapedOpen P) (hg:g<P.globals.size)
    (h0:((begin P (fun _ _=>0) default).world.heap[g]?).bind Obj.row? = some (zero,t)) (hz:zero.size=1)
    (hb:P.buildable t=true) (hc:P.cellTypes P.depth t=some [t]) (hu:P.underlying t=some (.int .i64)):GlobI g w :=
  ⟨cell_of_shapedOpen_int h hg h0 hz hb hc hu⟩

/-! ### 61. A call that hands back a new block of strings -/
theorem split_post {H:Hp} {w0 w:World} {F:List Ch} {xs:List ByteArray} {n:Nat} {e:TypeId} {cells:Array Value} (hh:Heap H w0 w F) (hl:xs.length=n) (hm:n≤maxLen) (hc:cells=(xs.map Value.string).toArray) :
    ∃ H' cs',Le H H'∧Heap H' w0 (w.alloc (.cells cells e (0,0))) cs'∧∃ (A0:Option Addr) (c0:Nat) (ch0:Ch),H'=H∧Value.slice (some ⟨w.heap.size,0,none⟩) n n=.slice A0 xs.length c0∧cs'=ch0::F∧SlOwn Kd.string e H' A0 c0 xs ch0:=by
  subst hl
  refine ⟨H,_,Le.refl H,hh.push (w':=w.alloc (.cells cells e (0,0))) (Ext.push w _) rfl (by show (w.heap.push _)[w.heap.size]? = _; simp),_,_,_,rfl,rfl,rfl,SlOwn.lit ?_ hm (Kd.Rep.scalars hc)⟩
  subst hc
  show xs.length*1=_
  simp

/-! ### 62. A row with pinned tables: the world's shape kept -/
theorem returnsInHanded_both {H:Type} {enc:TypeId × Value→H} {a:Assume} {C:Checked} {os:Os} {f:FuncId} {fn:Func} {s:ChangeSpec} {conds:List PathCond} {apart fresh handsOn again:Bool} {X:World→Array Value→Prop}
    (hX:∀ (w w':World) (args:Array Value),w.heap=w'.heap→X w args→X w' args)
    (own:ownKnob C.prog.godebug=none) (started:os.Started) (noInit:C.prog.inits.idxOf? f=none) (hfn:C.prog.funcs[f]? = some fn)
    (witness:∃ (w:World) (tape:Tape) (i:Input),w.os=os∧(w.forCall tape i).Shaped C.prog∧i.vars=[]∧Input.okWide C.prog (w.forCall tape i) .any w.heap.size f i ∧
      ((s.pre enc C.prog fn conds apart (w.forCall tape i).memory i.args∧X (w.forCall tape i).memory i.args)∧sizedMet enc C.prog fn (OpenSpec.ofChange s) apart (w.forCall tape i).memory i.args)∧a.holds C.prog (lone (Frame.enter C.prog f i.args .normal) [] (w.forCall tape i)))
    (contract:∀ (W:World) (base:Nat) (args:Array Value) (ds gs:List (DataW H)) (before:List MemPlace),
      (∀ (j:Nat) t v,fn.params[j]? = some t→args[j]? = some v→Value.okWide C.prog W .any base t v) →
      DataW.Whole enc C.prog fn.params.toList s.vars apart W args.toList ds gs before →
      conds.all (PathCond.test C.prog ⟨fn.params.toList,ds,s.plain.varTypes C.prog,gs⟩)=true →
      (DataW.weightsEach C.prog (fn.params.toList++s.plain.varTypes C.prog) (ds++gs)).all (·≤reachBytes)=true→X W args→W.ShapedOpen C.prog →
      a.holds C.prog (lone (Frame.enter C.prog f args .normal) [] W) →
      Calls C.prog f args W fun e W'=>∃ v,e=.returned v∧s.post enc C.prog fn apart fresh handsOn again W args v W') :
    ReturnsInHanded a C os f .any (fun w args=>(s.pre enc C.prog fn conds apart w args∧X w args)∧sizedMet enc C.prog fn (OpenSpec.ofChange s) apart w args) (s.post enc C.prog fn apart fresh handsOn again):=by
  refine returnsInHanded_of_calls own started noInit witness ?_
  intro w tape i _ hsh _ hok hpre hholds
  obtain ⟨_,_,_,fn',hfn',_,_,_,_,hval⟩:=hok
  have e:fn'=fn:=Option.some.inj (hfn'.symm.trans hfn)
  subst e
  obtain ⟨⟨⟨ds,gs,before,hw,hc⟩,hx⟩,hz⟩:=hpre
  have hw':=DataW.Whole.of_heap (w':=w.forCall tape i) (by rfl) hw
  refine (contract (w.forCall tape i) w.heap.size i.args ds gs before hval hw' hc (hz.weights hw) (hX _ _ _ (by rfl) hx) hsh hholds).mono fun e W' ⟨v,he,hp⟩=>?_
  subst he
  exact ChangeSpec.post_blind hp
end Go.Proofs.YtdmdimhbcdocdaaDoor.Kit
