/- TrialsShardsMatchSpec over plain data. -/
import Derived.Test.YtedkdnhhohcocaaDoorPShQ
import Derived.Test.YtedkdnhhohcocaaDoorPSame
import Derived.Test.YtedkdnhhohcocaaDoorPureSTrialsShardsMatchSpec
set_option linter.unusedVariables false
set_option linter.unusedSimpArgs false
namespace Go.Proofs.YtedkdnhhohcocaaDoor
open Go Go.Proofs.YtedkdnhhohcocaaDoor.Kit
theorem awake10:smithyardlaw10_awake.f=some true:=by kernel_rfl
theorem copyRows_id {l:List (List ByteArray)} (h:l.length*24≤140737490452480) (hr:∀ x∈l,x.length*16≤140737490452480):smithyardref10_CopyRows.f l=some l:=by
  unfold smithyardref10_CopyRows.f
  rw [rangeS_all (xs:=l) (L:=fun k s v=>smithyardref10_CopyRows.l2 smithyardref10_CopyRows.e1 k l s v) (body:=fun _ x s f=>bif (fun _=>true) x then guard? (room s.length 1 24) (f (s++[id x])) else f s) (e:=fun s=>some s) (by omega) (fun k s v=>by
    simp only [smithyardref10_CopyRows.l2]
    congr 1
    refine bind_at (fun x hx=>?_)
    rw [slices_Clone_string_id (hr x hx)]
    rfl) []]
  rw [filterLoop l 0 [] (by simp; omega)]
  have:∀ l:List (List ByteArray),l.filter (fun _=>true)=l:=fun l=>by simp
  simp [this]
theorem sameRows_self {l:List (List ByteArray)} (hl:l.length≤4611686018427387904) (h:∀ x∈l,x.length≤4611686018427387904):smithyardref10_SameRows.f l l=some true:=by
  unfold smithyardref10_SameRows.f
  rw [bne_self_eq_false]
  refine selfLoop (L:=fun k v=>smithyardref10_SameRows.l2 smithyardref10_SameRows.e1 k l l v) hl (fun k v h0 h1=>?_) (fun k=>?_)
  · obtain ⟨hn,hat⟩:=at?_get (xs:=l) h0 h1
    simp only [smithyardref10_SameRows.l2,decide_eq_true h1,cond_true,hat,Option.bind_some,slices_Equal_string_self (h _ (List.getElem_mem hn)),Bool.not_true,cond_false]
    rw [w64_id (by omega) (by omega)]
  · simp only [smithyardref10_SameRows.l2,decide_eq_false (Int.lt_irrefl _),cond_false]
    rfl
theorem shards_small {t:Test} (n:Int):∃ r,shardsS t n=some r∧r.1.length≤100∧∀ x∈r.1,x.length≤500:=by
  unfold shardsS
  obtain ⟨f,hf⟩:=tst_some t
  rw [hf]
  simp only [Option.bind_some]
  cases h0:f != 0
  · have hz:f=0:=by simpa using h0
    subst hz
    have ok:=tst_ok hf
    cases h1:inR 1 100 n
    · exact ⟨_,rfl,by simp,fun x hx=>by cases hx⟩
    · have hn:1≤n∧n≤100:=by unfold inR at h1; simpa using h1
      obtain ⟨k1,k2⟩:=shard_names (t:=t) (n:=n.toNat) (by omega)
      refine ⟨_,rfl,by rw [List.length_map,k1]; omega,fun x hx=>?_⟩
      have h1:=(List.sublist_flatten_of_mem hx).length_le
      rw [k2.length_eq,List.length_map] at h1
      have:=ok.len
      omega
  · exact ⟨_,rfl,by simp,fun x hx=>by cases hx⟩
theorem TrialsShardsMatchSpec_pure:TrialsShardsMatchSpec_Pure:=by
  intro t n l ht hn hl
  have hs:smallT t:=⟨by have:=ht.2.1; omega,fun x hx=>by have:=(ht.2.2 x hx).1; omega⟩
  have hnm:t.Name.size<4294967281:=by have:=ht.1; omega
  have e1:smithyardref10_CopyTest.f t=some t:=by
    unfold smithyardref10_CopyTest.f
    rw [slices_Clone_TestCase_id (by have:=ht.2.1; omega)]
    rfl
  have hrow:∀ x∈l,x.length*16≤140737490452480:=fun x hx=>by have:=(hl.2 x hx).1; omega
  have e2:smithyardref10_CopyRows.f l=some l:=copyRows_id (by have:=hl.1; omega) hrow
  obtain ⟨r,e3,r1,r2⟩:=shards_small (t:=t) n
  have e4:smithyardref10_Shards.f (⟨t.Name,t.Cases⟩:Test) n=some r:=(shards_ref (t:=t) hs hnm n).trans e3
  obtain ⟨f,hf⟩:=tst_some t
  have e5:smithyardref10_CheckTest.f (⟨t.Name,t.Cases⟩:Test)=some f:=(tst_ref (t:=t) hs hnm).trans hf
  have e6:=sameRows_self (l:=r.1) (by omega) (fun x hx=>by have:=r2 x hx; omega)
  obtain ⟨q,q1,q2⟩:=longest_both (t:=t) hs hnm (out:=l) (fun x hx=>by have:=hrow x hx; omega)
  have q2':smithyardref10_Longest.f (⟨t.Name,t.Cases⟩:Test) l=some q:=q2
  have e7:smithyardref10_SameTest.f t (⟨t.Name,t.Cases⟩:Test)=some true:=by
    unfold smithyardref10_SameTest.f
    rw [sEq_self]
    simp only [cond_true]
    rw [slices_Equal_TestCase_self (by have:=ht.2.1; omega)]
    rfl
  have e8:=sameRows_self (l:=l) (by have:=hl.1; omega) (fun x hx=>by have:=hrow x hx; omega)
  unfold smithyardlaw10_TrialsShardsMatchSpec.f
  rw [e1,e2]
  simp only [Option.bind_some]
  rw [shards_prog hs,e3]
  simp only [Option.bind_some,e4,tst_prog hs,hf,e5,bne_self_eq_false,cond_false,e6,Bool.not_true]
  rw [q1,q2']
  simp only [Option.bind_some,beq_self_eq_true,cond_true,e7,e8,awake10]
end Go.Proofs.YtedkdnhhohcocaaDoor
