/- Words of our own: what a call made becomes a part of a value that is only read from then on. -/
import Derived.Test.YtedkdnhhohcocaaDoorKitH
set_option linter.unusedSimpArgs false
set_option linter.unusedVariables false
set_option linter.unnecessarySimpa false
namespace Go.Proofs.YtedkdnhhohcocaaDoor.Kit
open Go Go.RowKit

/-! ### 24. Freezing -/
abbrev Not (w:World) (e:TypeId) (k:Nat):Prop:=∀ cs fr,w.heap[k]? ≠ some (.cells cs e fr)
theorem other_type {w:World} {g:Nat} {cs:Array Value} {e2 e:TypeId} {fr:Nat × Nat} (f:w.heap[g]? = some (.cells cs e2 fr)) (hne:e2≠e):Not w e g:=by
  intro cs' fr' h
  rw [f] at h
  injection h with h
  injection h with _ h
  exact hne h
theorem Own.freeze {α:Type} {d:Kd α} {e:TypeId} {H:Hp} {w:World} {n0:Nat} {A:Option Addr} {c:Nat} {xs:List α} (h:Own d e H w n0 A c xs) (hH:Sub H w) :
    ∃ H1,Le H H1∧Sub H1 w∧Kd.Row d H1 A xs∧∀ k,(Not w e k∨k<n0)→H k=none→H1 k=none:=by
  rcases h with ⟨rfl,rfl,rfl⟩ | ⟨b,cs,hA,h0,hn,hb,h1,h2,h3,h4⟩
  · exact ⟨H,Le.refl H,hH,Kd.Row.none,fun _ _ h=>h⟩
  · have hl:Le H (fun k=>if k=b then some (.cells cs e (0,0)) else H k):=fun k o hk=>by
      have hne:k≠b:=by intro he; subst he; rw [hn] at hk; simp at hk
      simp [hne,hk]
    refine ⟨_,hl,fun k o hk=>?_,fun _=>⟨b,0,cs,e,(0,0),hA,by simp,h4.mono hl⟩,fun k hk hkn=>?_⟩
    · dsimp only at hk
      split at hk
      · rename_i he
        subst he
        injection hk with hk
        subst hk
        exact hb
      · exact hH k o hk
    · have hne:k≠b:=by
        rintro rfl
        rcases hk with hk | hk
        · exact hk _ _ hb
        · omega
      simp [hne,hkn]
theorem HX.frozen {H0 H H1:Hp} {w0 w:World} {e:TypeId} (h:HX H0 w0 H w) (hl:Le H H1) (hs:Sub H1 w) (hk:∀ k,(Not w e k∨k<w0.heap.size)→H k=Option.none→H1 k=Option.none) (hE:Ext w0 w):HX H0 w0 H1 w :=
  ⟨h.le.then hl,hs,fun i hi hn=>hk i (.inr hi) (h.none i hi hn)⟩
theorem Own.frozen {α:Type} {d:Kd α} {e e2:TypeId} {H H1:Hp} {w:World} {n0:Nat} {A:Option Addr} {c:Nat} {xs:List α} (h:Own d e2 H w n0 A c xs) (hl:Le H H1) (hk:∀ k,Not w e k→H k=none→H1 k=none) (hne:e2≠e):Own d e2 H1 w n0 A c xs:=by
  rcases h with h | ⟨b,cs,hA,h0,hn,hb,h1,h2,h3,h4⟩
  · exact .inl h
  · exact .inr ⟨b,cs,hA,h0,hk b (other_type hb hne) hn,hb,h1,h2,h3,h4.mono hl⟩
theorem MOwn.frozen {κ ν:Type} {enc:κ→Value} {kd:Kd ν} {ag:Bool} {e:TypeId} {H H1:Hp} {w:World} {n0 g:Nat} {m:List (κ × ν)} (h:MOwn enc kd ag H w n0 g m) (hl:Le H H1) (hk:∀ k,Not w e k→H k=none→H1 k=none):MOwn enc kd ag H1 w n0 g m:=by
  obtain ⟨h0,h1,es,c,h2,h3,h4⟩:=h
  exact ⟨h0,hk g (fun cs fr hc=>by rw [h2] at hc; cases hc) h1,es,c,h2,h3,h4.mono hl⟩
end Go.Proofs.YtedkdnhhohcocaaDoor.Kit
