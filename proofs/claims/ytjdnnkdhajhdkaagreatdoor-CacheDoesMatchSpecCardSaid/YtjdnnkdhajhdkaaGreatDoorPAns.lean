/- Caches: answers are small; following events in two parts. -/
import Derived.Test.YtjdnnkdhajhdkaaGreatDoorPFol
set_option linter.unusedVariables false
set_option linter.unusedSimpArgs false
namespace Go.Proofs.YtjdnnkdhajhdkaaGreatDoor
open Go Go.Proofs.YtjdnnkdhajhdkaaGreatDoor.Kit
def smallA (a:CacheAnswer):Prop:=a.Missing.length≤4611686018427387904∧a.Gone.length≤4611686018427387904
theorem sameAns_self {l:List CacheAnswer} (hl:l.length≤4611686018427387904) (h:∀ a∈l,smallA a):smithyardref7_SameAnswers.f l l=some true:=by
  unfold smithyardref7_SameAnswers.f
  rw [bne_self_eq_false]
  refine selfLoop (L:=fun k v=>smithyardref7_SameAnswers.l2 smithyardref7_SameAnswers.e1 k l l v) hl (fun k v h0 h1=>?_) (fun k=>?_)
  · obtain ⟨hn,hat⟩:=at?_get (xs:=l) h0 h1
    obtain ⟨a1,a2⟩:=h _ (List.getElem_mem hn)
    simp only [smithyardref7_SameAnswers.l2,decide_eq_true h1,cond_true,hat,Option.bind_some,beq_self_eq_true,Bool.not_true,cond_false,sameList_self a1,sameList_self a2]
    rw [w64_id (by omega) (by omega)]
  · simp only [smithyardref7_SameAnswers.l2,decide_eq_false (Int.lt_irrefl _),cond_false]
    rfl
theorem missing_len (c:Cache) (l:List ByteArray):(missingS c l).length≤l.length:=List.length_filter_le _ _
theorem doK_ans {c:Cache} (ok:OkCache c) {e:CacheEvent} (hd:e.Digests.length≤200):smallA (doK c e).1:=by
  refine ⟨?_,(doK_small ok e).2⟩
  have hm:=missing_len c e.Digests
  unfold doK
  cases k1:e.Kind == 1
  · cases k2:e.Kind == 2
    · cases k3:e.Kind == 3
      · cases k4:(e.Kind == 4||e.Kind == 5)
        · cases k6:e.Kind == 6
          · cases k7:e.Kind == 7
            · simp only [cond_false]
              unfold dropS
              cases getB c e.Digest with
              | none=>exact Nat.zero_le _
              | some y=>simp only; cases heldB y e.At <;> exact Nat.zero_le _
            · simp only [cond_false,cond_true]
              unfold searchS
              rcases getE_cases ok.es e.Key with ⟨g1,g2⟩ | ⟨x,g1,g2,g3,g4,g5,g6⟩
              · rw [g1]
                exact Nat.zero_le _
              · rw [g1]
                have hr:=(ok.ee x g4).2.1
                have hm2:=missing_len c x.Refs
                simp only
                cases decide (0<((missingS c x.Refs).length:Int))
                · exact Nat.zero_le _
                · show (missingS c x.Refs).length≤_
                  omega
          · simp only [cond_false,cond_true]
            unfold storeS
            cases decide (0<((missingS c e.Digests).length:Int))
            · cases c.Entries.any (fun x=>sEq x.Key e.Key) <;> exact Nat.zero_le _
            · show (missingS c e.Digests).length≤_
              omega
        · simp only [cond_false,cond_true]
          unfold pinS
          cases getB c e.Digest with
          | none=>exact Nat.zero_le _
          | some y=>simp only; cases e.Kind == 5 <;> cases decide (3000≤y.Pins) <;> cases y.Pins == 0 <;> exact Nat.zero_le _
      · show (missingS c e.Digests).length≤_
        omega
    · exact Nat.zero_le _
  · simp only [cond_true]
    unfold putS
    cases c.Blobs.any (fun x=>sEq x.Digest e.Digest)
    · cases (clearS c (c.Room - e.Size) e.At).2.1
      · exact Nat.zero_le _
      · cases decide (3000≤((clearS c (c.Room - e.Size) e.At).2.2.Blobs.length:Int)) <;> exact Nat.zero_le _
    · simp only [cond_true]
      cases c.Blobs[placeOf (fun x:Blob=>x.Digest) c.Blobs e.Digest]? with
      | none=>exact Nat.zero_le _
      | some x=>simp only; cases x.Size != e.Size <;> exact Nat.zero_le _
end Go.Proofs.YtjdnnkdhajhdkaaGreatDoor
