/- TrialsAffectedMatchesSpec over plain data: what tests read is checked, and what changes affect is found, on both sides alike. -/
import Derived.Test.YtphbcalfmafpoaaDoorPAff
import Derived.Test.YtphbcalfmafpoaaDoorPSame
import Derived.Test.YtphbcalfmafpoaaDoorPureSTrialsAffectedMatchesSpec
import Derived.KernelRfl
set_option linter.unusedVariables false
set_option linter.unusedSimpArgs false
namespace Go.Proofs.YtphbcalfmafpoaaDoor
open Go Go.Proofs.YtphbcalfmafpoaaDoor.Kit
theorem smallR_of {x:TestReads} (h:fitTestReads x):smallR x:=by
  obtain ⟨h1,⟨h2,h3⟩,h4,h5⟩:=h
  exact ⟨h1,⟨by omega,h3⟩,by omega,h5⟩
theorem copyReads_id {l:List TestReads} (hl:l.length*64≤67108864) (h:∀ x∈l,fitTestReads x):smithyardref10_CopyReads.f l=some l:=by
  unfold smithyardref10_CopyReads.f
  rw [rangeS_all (xs:=l) (L:=fun k s v=>smithyardref10_CopyReads.l2 smithyardref10_CopyReads.e1 k l s v) (body:=fun _ x s f=>bif (fun _=>true) x then guard? (room s.length 1 64) (f (s++[id x])) else f s) (e:=fun s=>some s) (by omega) (fun k s v=>by
    simp only [smithyardref10_CopyReads.l2]
    congr 1
    refine bind_at (fun x hx=>?_)
    obtain ⟨h1,⟨h2,h3⟩,h4,h5⟩:=h x hx
    rw [slices_Clone_string_id (by omega),slices_Clone_string_id (by omega)]
    rfl) []]
  rw [filterLoop l 0 [] (by simp; omega)]
  have:∀ l:List TestReads,l.filter (fun _=>true)=l:=fun l=>by simp
  simp [this]
theorem sameReads_self {l:List TestReads} (hl:l.length*64≤67108864) (h:∀ x∈l,fitTestReads x):smithyardref10_SameReads.f l l=some true:=by
  unfold smithyardref10_SameReads.f
  rw [bne_self_eq_false]
  refine selfLoop (n:=l.length) (L:=fun k v=>smithyardref10_SameReads.l2 smithyardref10_SameReads.e1 k l l v) (by omega) (fun k v h0 h1=>?_) (fun k=>?_)
  · obtain ⟨hn,hat⟩:=at?_get (xs:=l) h0 h1
    obtain ⟨k1,⟨k2,k3⟩,k4,k5⟩:=h _ (List.getElem_mem hn)
    simp only [smithyardref10_SameReads.l2,decide_eq_true h1,cond_true,hat,Option.bind_some,sEq_self,Bool.not_true,cond_false]
    rw [slices_Equal_string_self (by omega),slices_Equal_string_self (by omega)]
    simp only [Option.bind_some,Bool.not_true,cond_false]
    rw [w64_id (by omega) (by omega)]
  · simp only [smithyardref10_SameReads.l2,decide_eq_false (Int.lt_irrefl _),cond_false]
    rfl
theorem crS_some (l:List TestReads) (h:smallRs l):∃ r,crS l=some r:=by
  unfold crS
  cases decide (300<(l.length:Int))
  · refine rangeP_some (fun p x k ⟨r,hk⟩=>?_) ⟨_,rfl⟩ l none
    have hc:∀ (l:List ByteArray),∃ r,cpS l=some r:=fun l=>rangeP_some (fun p x k ⟨r,hk⟩=>by
      unfold cpB
      rw [hk]
      cases isPathB x
      · exact ⟨_,rfl⟩
      · cases prevB (fun y=>sLt x y||sEq x y) p <;> exact ⟨_,rfl⟩) ⟨_,rfl⟩ l none
    obtain ⟨a,ha⟩:=hc x.Paths
    obtain ⟨b,hb⟩:=hc x.Looked
    unfold crB
    rw [ha,hb,hk]
    simp only [Option.bind_some]
    cases isPathB x.Test
    · exact ⟨_,rfl⟩
    cases (decide (1000<(x.Paths.length:Int))||decide (1000<(x.Looked.length:Int)))
    · cases a != 0
      · cases b != 0
        · cases x.Looked.any (hasB x.Paths)
          · cases prevB (fun y=>sLt x.Test y.Test||sEq x.Test y.Test) p <;> exact ⟨_,rfl⟩
          · exact ⟨_,rfl⟩
        · exact ⟨_,rfl⟩
      · exact ⟨_,rfl⟩
    · exact ⟨_,rfl⟩
  · exact ⟨_,rfl⟩
theorem ccS_some (l:List TreeChange):∃ r,ccS l=some r:=by
  unfold ccS
  cases decide (1000<(l.length:Int))
  · refine rangeP_some (fun p x k ⟨r,hk⟩=>?_) ⟨_,rfl⟩ l none
    unfold ccB
    rw [hk]
    cases isPathB x.Path
    · exact ⟨_,rfl⟩
    cases (decide (1≤x.Kind)&&decide (x.Kind≤4))
    · exact ⟨_,rfl⟩
    cases prevB (fun y=>sLt x.Path y.Path||sEq x.Path y.Path) p <;> exact ⟨_,rfl⟩
  · exact ⟨_,rfl⟩
theorem affS_some (l:List TestReads) (c:List TreeChange) (h:smallRs l):∃ x f,affS l c=some (x,f)∧x.length≤l.length:=by
  unfold affS
  obtain ⟨a,ha⟩:=crS_some l h
  obtain ⟨b,hb⟩:=ccS_some c
  rw [ha,hb]
  simp only [Option.bind_some]
  cases a != 0
  · cases b != 0
    · exact ⟨_,_,rfl,by simpa using List.length_filter_le _ _⟩
    · exact ⟨_,_,rfl,by simp⟩
  · exact ⟨_,_,rfl,by simp⟩
theorem awake_eq:smithyardlaw10_awake.f=some true:=by kernel_rfl
theorem TrialsAffectedMatchesSpec_pure:TrialsAffectedMatchesSpec_Pure:=by
  intro l c ⟨hl,hll⟩ ⟨hc,hcc⟩
  have hs:smallRs l:=⟨by omega,fun x hx=>smallR_of (hll x hx)⟩
  have hd:smallC c:=⟨by omega,fun x hx=>(hcc x hx).1⟩
  unfold smithyardlaw10_TrialsAffectedMatchesSpec.f
  rw [copyReads_id hl hll,slices_Clone_TreeChange_id (by omega)]
  simp only [Option.bind_some]
  obtain ⟨x,f,hx,hxl⟩:=affS_some l c hs
  obtain ⟨r,hr⟩:=crS_some l hs
  rw [affected_prog hs hd,affected_ref hs hd,hx,checkReads_prog hs,checkReads_ref hs,hr]
  simp only [Option.bind_some,BEq.rfl,cond_true]
  rw [slices_Equal_string_self (by omega),sameReads_self hl hll,slices_Equal_TreeChange_self (by omega),awake_eq]
  rfl
end Go.Proofs.YtphbcalfmafpoaaDoor
