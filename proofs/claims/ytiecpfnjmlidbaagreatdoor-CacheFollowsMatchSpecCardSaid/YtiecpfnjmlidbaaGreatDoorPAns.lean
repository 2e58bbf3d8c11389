/- Caches: answers are small; following events in two parts. -/
import Derived.Test.YtiecpfnjmlidbaaGreatDoorPFol
set_option linter.unusedVariables false
set_option linter.unusedSimpArgs false
namespace Go.Proofs.YtiecpfnjmlidbaaGreatDoor
open Go Go.Proofs.YtiecpfnjmlidbaaGreatDoor.Kit
def bo8 (a:k6):Prop:=a.x5.length≤4611686018427387904∧a.x4.length≤4611686018427387904
theorem ck5 {l:List k6} (hl:l.length≤4611686018427387904) (h:∀ a∈l,bo8 a):ag3.f l l=some true:=by
  unfold ag3.f
  rw [bne_self_eq_false]
  refine bo9 (L:=fun k v=>ag3.l2 ag3.e1 k l l v) hl (fun k v h0 h1=>?_) (fun k=>?_)
  · obtain ⟨hn,hat⟩:=bg8 (xs:=l) h0 h1
    obtain ⟨a1,a2⟩:=h _ (List.getElem_mem hn)
    simp only [ag3.l2,decide_eq_true h1,cond_true,hat,Option.bind_some,beq_self_eq_true,Bool.not_true,cond_false,bC4 a1,bC4 a2]
    rw [B7 (by omega) (by omega)]
  · simp only [ag3.l2,decide_eq_false (Int.lt_irrefl _),cond_false]
    rfl
theorem ck6 (c:Cache) (l:List ByteArray):(S6 c l).length≤l.length:=List.length_filter_le _ _
theorem cO2 {c:Cache} (ok:N5 c) {e:k7} (hd:e.j9.length≤200):bo8 (Z1 c e).1:=by
  refine ⟨?_,(cO3 ok e).2⟩
  have hm:=ck6 c e.j9
  unfold Z1
  cases k1:e.Kind == 1
  · cases k2:e.Kind == 2
    · cases k3:e.Kind == 3
      · cases k4:(e.Kind == 4||e.Kind == 5)
        · cases as1:e.Kind == 6
          · cases bp0:e.Kind == 7
            · simp only [cond_false]
              unfold ay7
              cases ax0 c e.b7 with
              | none=>exact Nat.zero_le _
              | some y=>simp only; cases ae0 y e.At <;> exact Nat.zero_le _
            · simp only [cond_false,cond_true]
              unfold aG9
              rcases bC5 ok.es e.Key with ⟨g1,g2⟩ | ⟨x,g1,g2,g3,g4,g5,g6⟩
              · rw [g1]
                exact Nat.zero_le _
              · rw [g1]
                have hr:=(ok.ee x g4).2.1
                have hm2:=ck6 c x.Refs
                simp only
                cases decide (0<((S6 c x.Refs).length:Int))
                · exact Nat.zero_le _
                · show (S6 c x.Refs).length≤_
                  omega
          · simp only [cond_false,cond_true]
            unfold aH0
            cases decide (0<((S6 c e.j9).length:Int))
            · cases c.Entries.any (fun x=>p4 x.Key e.Key) <;> exact Nat.zero_le _
            · show (S6 c e.j9).length≤_
              omega
        · simp only [cond_false,cond_true]
          unfold af2
          cases ax0 c e.b7 with
          | none=>exact Nat.zero_le _
          | some y=>simp only; cases e.Kind == 5 <;> cases decide (3000≤y.q4) <;> cases y.q4 == 0 <;> exact Nat.zero_le _
      · show (S6 c e.j9).length≤_
        omega
    · exact Nat.zero_le _
  · simp only [cond_true]
    unfold ab8
    cases c.U.any (fun x=>p4 x.b7 e.b7)
    · cases (N3 c (c.Room - e.j4) e.At).2.1
      · exact Nat.zero_le _
      · cases decide (3000≤((N3 c (c.Room - e.j4) e.At).2.2.U.length:Int)) <;> exact Nat.zero_le _
    · simp only [cond_true]
      cases c.U[placeOf (fun x:Blob=>x.b7) c.U e.b7]? with
      | none=>exact Nat.zero_le _
      | some x=>simp only; cases x.j4 != e.j4 <;> exact Nat.zero_le _
theorem bR3:∀ (l:List k7) (c:Cache) (s:List k6),T8 l c s=((T8 l c []).1,(T8 l c []).2.1,s++(T8 l c []).2.2)
  | [],c,s=>by simp [T8]
  | e::l,c,s=>by
    unfold T8
    cases hz:(dE c e).2.1 != 0
    · simp only [cond_false]
      rw [bR3 l _ (s++[(dE c e).1]),bR3 l _ ([]++[(dE c e).1])]
      simp
    · simp
theorem ck7:∀ (l:List k7) (c:Cache) (s:List k6),(T8 l c s).2.2.length≤s.length+l.length
  | [],c,s=>by simp [T8]
  | e::l,c,s=>by
    unfold T8
    cases hz:(dE c e).2.1 != 0
    · simp only [cond_false]
      have:=ck7 l (dE c e).2.2 (s++[(dE c e).1])
      simp only [List.length_append,List.length_cons,List.length_nil] at this ⊢
      omega
    · simp
theorem ck8:∀ (l:List k7) (c:Cache) (s:List k6),N5 c→(∀ a∈s,bo8 a)→∀ a∈(T8 l c s).2.2,bo8 a
  | [],c,s,_,h=>h
  | e::l,c,s,ok,h=>by
    unfold T8
    cases hz:(dE c e).2.1 != 0
    · simp only [cond_false]
      obtain ⟨k1,k2,_,k4,_⟩:=bg9 ok (by simpa using hz)
      refine ck8 l _ _ k1 (fun a ha=>?_)
      rcases List.mem_append.1 ha with ha | ha
      · exact h a ha
      · rw [List.mem_singleton] at ha
        rw [ha,k4]
        exact cO2 ok (bC6 k2).1
    · exact h
end Go.Proofs.YtiecpfnjmlidbaaGreatDoor
