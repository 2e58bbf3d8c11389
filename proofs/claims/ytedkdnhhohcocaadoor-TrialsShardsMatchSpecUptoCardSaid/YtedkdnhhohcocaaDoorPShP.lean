/- Shards of a test as a whole. -/
import Derived.Test.YtedkdnhhohcocaaDoorPShL
set_option linter.unusedVariables false
set_option linter.unusedSimpArgs false
namespace Go.Proofs.YtedkdnhhohcocaaDoor
open Go Go.Proofs.YtedkdnhhohcocaaDoor.Kit
def shardsS (t:Test) (n:Int):Option (List (List ByteArray) × Int) :=
  (tstS t).bind fun f=>bif f != 0 then some ([],f) else bif !inR 1 100 n then some ([],1) else some ((shardO (secM t) n.toNat (stab ltU t.Cases)).map sortF,0)
theorem shards_prog {t:Test} (h:smallT t) (n:Int):trials_Shards.f t n=shardsS t n:=by
  unfold trials_Shards.f shardsS
  rw [tst_prog h]
  obtain ⟨f,hf⟩:=tst_some t
  rw [hf]
  simp only [Option.bind_some]
  cases h0:f != 0
  · have hz:f=0:=by simpa using h0
    subst hz
    have ok:=tst_ok hf
    simp only [cond_false,withinT,Option.bind_some]
    cases h1:inR 1 100 n
    · rfl
    · simp only [Bool.not_true,cond_false]
      have hn:1≤n∧n≤100:=by unfold inR at h1; simpa using h1
      have hl:=ok.len
      have hcl:slices_Clone_TestCase.f t.Cases=some t.Cases:=by
        unfold slices_Clone_TestCase.f
        rw [guard?_true (room_of (by omega))]
      rw [hcl]
      simp only [Option.bind_some]
      rw [sortStable_prog (by omega)]
      simp only [Option.bind_some]
      have hp:(stab ltU t.Cases).Perm t.Cases:=stab_perm _
      have hsl:(stab ltU t.Cases).length=t.Cases.length:=hp.length_eq
      rw [guard?_true (by rw [decide_eq_true (by omega),room_of (by omega)]; rfl),guard?_true (by rw [decide_eq_true (by omega),room_of (by omega)]; rfl)]
      have e0:List.replicate n.toNat (0:Int)=(List.replicate n.toNat ([]:List ByteArray)).map (gsum (secM t)):=by rw [List.map_replicate]; rfl
      have e1:=shard_loop (g:=secM t) (y3:=t.Cases) (y4:=stab ltU t.Cases) hsl (by omega) (fun c hc=>(secM_at ok (hp.mem_iff.1 hc)).1) (fun c hc=>ok.sec c (hp.mem_iff.1 hc)) (E:=trials_Shards.e1) (stab ltU t.Cases) big 0 (List.replicate n.toNat []) rfl (by omega) (by simp; omega) (by simp; omega) (fun x hx=>by
        rw [List.mem_replicate] at hx
        rw [hx.2]
        exact ⟨by simp,by simp [gsum,sumZ],by simp [gsum,sumZ]⟩) (by unfold big; omega)
      rw [show ((0:Nat):Int)=0 from rfl] at e1
      rw [e0]
      refine e1.trans ?_
      unfold trials_Shards.e1
      obtain ⟨k1,k2⟩:=fold_names (secM t) (stab ltU t.Cases) (List.replicate n.toNat []) (by simp; omega)
      have k3:((stab ltU t.Cases).foldl (stepO (secM t)) (List.replicate n.toNat [])).length≤100:=by rw [k1]; simp; omega
      refine sort_loop (by omega) (fun x hx=>?_) _ big 0 _ (Nat.zero_add _).symm (by simp) (by unfold big; omega)
      have h1:x.length≤((stab ltU t.Cases).foldl (stepO (secM t)) (List.replicate n.toNat [])).flatten.length:=(List.sublist_flatten_of_mem hx).length_le
      rw [k2.length_eq] at h1
      simp at h1
      omega
  · simp only [cond_true]
theorem sorted_names:∀ (out:List (List ByteArray)),(out.map sortF).flatten.Perm out.flatten
  | []=>List.Perm.refl _
  | x::out=>by simp only [List.map_cons,List.flatten_cons]; exact (sortF_perm x).append (sorted_names out)
theorem shard_names {t:Test} {n:Nat} (hn:1≤n):(shardO (secM t) n (stab ltU t.Cases)).length=n∧((shardO (secM t) n (stab ltU t.Cases)).map sortF).flatten.Perm (t.Cases.map (fun c=>c.Name)):=by
  obtain ⟨k1,k2⟩:=fold_names (secM t) (stab ltU t.Cases) (List.replicate n []) (by simpa using hn)
  refine ⟨by unfold shardO; rw [k1]; simp,(sorted_names _).trans (k2.trans ?_)⟩
  have e:(List.replicate n ([]:List ByteArray)).flatten=[]:=by simp
  rw [e,List.nil_append]
  exact (stab_perm t.Cases).map _
end Go.Proofs.YtedkdnhhohcocaaDoor
