/- Words of our own: stores into the elements of a slice of the call's own; variables that are written again. -/
import Derived.Test.YtedkdnhhohcocaaDoorKitM
set_option linter.unusedSimpArgs false
set_option linter.unusedVariables false
set_option linter.unnecessarySimpa false
namespace Go.Proofs.YtedkdnhhohcocaaDoor.Kit
open Go Go.RowKit

/-! ### 22. Stores into elements -/
theorem owr_get (vs:List Value):∀ (cs:Array Value) (k m:Nat),k+vs.length≤cs.size→(owr cs k vs)[m]? = if k≤m∧m<k+vs.length then vs[m - k]? else cs[m]? := by
  induction vs with
  | nil =>
    intro cs k m h
    have:¬ (k≤m∧m<k+([]:List Value).length):=by simp
    rw [if_neg this]
    rfl
  | cons v vs ih =>
    intro cs k m h
    simp only [List.length_cons] at h
    simp only [owr,List.length_cons]
    rw [ih _ _ _ (by simp; omega)]
    by_cases h1:k+1≤m∧m<k+1+vs.length
    · rw [if_pos h1,if_pos (by omega),show m - k=(m - (k+1))+1 by omega,List.getElem?_cons_succ]
    · rw [if_neg h1]
      by_cases h2:m=k
      · subst h2
        rw [if_pos (by omega),Nat.sub_self,List.getElem?_cons_zero,Array.getElem?_setIfInBounds_self_of_lt (by omega)]
      · rw [if_neg (by omega),Array.getElem?_setIfInBounds_ne (by omega)]
def owl (c:List Value) (o:Nat) (vs:List Value):List Value:=c.take o++vs++c.drop (o+vs.length)
theorem owl_get {c vs:List Value} {o j:Nat} (h:o+vs.length≤c.length):(owl c o vs)[j]? = if o≤j∧j<o+vs.length then vs[j - o]? else c[j]? := by
  have hl:(c.take o).length=o:=by simp; omega
  unfold owl
  by_cases h1:o≤j∧j<o+vs.length
  · rw [if_pos h1,List.append_assoc,List.getElem?_append_right (by omega),hl,List.getElem?_append_left (by omega)]
  · rw [if_neg h1]
    rcases Nat.lt_or_ge j o with h2 | h2
    · rw [List.append_assoc,List.getElem?_append_left (by omega),List.getElem?_take_of_lt h2]
    · have h3:o+vs.length≤j:=by omega
      rw [List.getElem?_append_right (by rw [List.length_append,hl]; omega),List.getElem?_drop,List.length_append,hl]
      congr 1
      omega
def StU (w w':World) (g:Nat) (e:TypeId):Prop:=(∃ cs,w.heap[g]? = some (.cells cs e (0,0)))∧∃ o,Upd w w' g o
section
variable {w w' w0:World} {g:Nat} {e:TypeId} {H:Hp}
theorem StU.ext (h:StU w w' g e) (hE:Ext w0 w) (hg:w0.heap.size≤g):Ext w0 w':=by
  obtain ⟨_,o,hU⟩:=h
  exact hU.ext hE hg
theorem StU.sub (h:StU w w' g e) (hH:Sub H w) (hg:H g=none):Sub H w':=by
  obtain ⟨_,o,hU⟩:=h
  exact hU.sub hH hg
theorem StU.blk {b:Nat} {cs:Array Value} {e2:TypeId} {fr:Nat × Nat} (h:StU w w' g e) (f:w.heap[b]? = some (.cells cs e2 fr)) (hne:e2≠e):w'.heap[b]? = some (.cells cs e2 fr):=by
  obtain ⟨⟨cs0,hg⟩,o,hU⟩:=h
  rw [hU.other b (by intro he; subst he; rw [hg] at f; injection f with f; injection f with _ f; exact hne f.symm),f]
theorem StU.own {α:Type} {d:Kd α} {e2:TypeId} {A:Option Addr} {c n0:Nat} {xs:List α} (h:StU w w' g e) (f:Own d e2 H w n0 A c xs) (hne:e2≠e):Own d e2 H w' n0 A c xs:=by
  rcases f with f | ⟨b,cs,hA,h0,hn,hb,r⟩
  · exact .inl f
  · exact .inr ⟨b,cs,hA,h0,hn,h.blk hb hne,r⟩
end
section
variable {F:Ctx} {R:Ending→World→Prop} {es es':List En} {L L':Slots} {w:World} {p:List Nat} {i:Nat}
theorem Own.made {α:Type} {kd:Kd α} {H:Hp} {n0 c g:Nat} {e:TypeId} {cs:Array Value} {xs:List α} (h0:n0≤g) (hn:H g=none) (hb:w.heap[g]? = some (.cells cs e (0,0))) (hl:xs.length=c) (hc:c≤maxLen) (hs:cs.size=c*kd.sz) (hr:Kd.Rep kd H cs 0 xs) :
    Own kd e H w n0 (some ⟨g,0,none⟩) c xs:=.inr ⟨g,cs,rfl,h0,hn,hb,by omega,hc,hs,hr⟩
end
end Go.Proofs.YtedkdnhhohcocaaDoor.Kit
