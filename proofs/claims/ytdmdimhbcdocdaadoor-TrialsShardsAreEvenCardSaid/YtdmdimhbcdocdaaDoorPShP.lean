/- Shards of a test as a whole. -/
import Derived.Test.YtdmdimhbcdocdaaDoorPShL
set_option linter.unusedVariables false
set_option linter.unusedSimpArgs false
namespace Go.Proofs.YtdmdimhbcdocdaaDoor
open Go Go.Proofs.YtdmdimhbcdocdaaDoor.Kit
def shardsS (t:Test) (n:Int):Option (List (List ByteArray) × Int) :=
  (tstS t).bind fun f=>bif f != 0 then some ([],f) else bif !inR 1 100 n then some ([],1) else some ((shardO (secM t) n.toNat (stab ltU t.Cases)).map sortF,0)
theorem shards_prog {t:Test} (h:smallT t) (n:Int):trials_Shards.f t n=shardsS t n:=by
  unfold trials_Shards.f shardsS
  rw [tst_prog h]
  obtain ⟨f,hf⟩:=tst_some t
  rw [hf]
  simp only [Option.bind_some]
  cases h0:f != 0
  · have hz:f=0:=by simpa using h0
    subst hz
    have ok:=tst_ok hf
    simp only [cond_false,withinT,Option.bind_some]
    cases h1:inR 1 100 n
    · rfl
    · simp only [Bool.not_true,cond_false]
      have hn:1≤n∧n≤100:=by unfold inR at h1; simpa using h1
      have hl:=ok.len
      have hcl:slices_Clone_TestCase.f t.Cases=some t.Cases:=by
        unfold slices_Clone_TestCase.f
        rw [guard?_true (room_of (by omega))]
      rw [hcl]
      simp only [Option.bind_some]
      rw [sortStable_prog (by omega)]
      simp only [Option.bind_some]
      have hp:(stab ltU t.Cases).Perm t.Cases:=stab_perm _
      have hsl:(stab ltU t.Cases).length=t.Cases.length:=hp.length_eq
      rw [guard?_true (by rw [decide_eq_true (by omega),room_of (by omega)]; rfl),guard?_true (by rw [decide_eq_true (by omega),room_of (by omega)]; rfl)]
      have e0:List.replicate n.toNat (0:Int)=(List.replicate n.toNat ([]:List ByteArray)).map (gsum (secM t)):=by rw [List.map_replicate]; rfl
      have e1:=shard_loop (g:=secM t) (y3:=t.Cases) (y4:=stab ltU t.Cases) hsl (by omega) (fun c hc=>(secM_at ok (hp.mem_iff.1 hc)).1) (fun c hc=>ok.sec c (hp.mem_iff.1 hc)) (E:=trials_Shards.e1) (stab ltU t.Cases) big 0 (List.replicate n.toNat []) rfl (by omega) (by simp; omega) (by simp; omega) (fun x hx=>by
        rw [List.mem_replicate] at hx
        rw [hx.2]
        exact ⟨by simp,by simp [gsum,sumZ],by simp [gsum,sumZ]⟩) (by unfold big; omega)
      rw [show ((0:Nat):Int)=0 from rfl] at e1
      rw [e0]
      refine e1.trans ?_
      unfold trials_Shards.e1
      obtain ⟨k1,k2⟩:=fold_names (secM t) (stab ltU t.Cases) (List.replicate n.toNat []) (by simp; omega)
      have k3:((stab ltU t.Cases).foldl (stepO (secM t)) (List.replicate n.toNat [])).length≤100:=by rw [k1]; simp; omega
      refine sort_loop (by omega) (fun x hx=>?_) _ big 0 _ (Nat.zero_add _).symm (by simp) (by unfold big; omega)
      have h1:x.length≤((stab ltU t.Cases).foldl (stepO (secM t)) (List.replicate n.toNat [])).flatten.length:=(List.sublist_flatten_of_mem hx).length_le
      rw [k2.length_eq] at h1
      simp at h1
      omega
  · simp only [cond_true]
theorem sorted_sums (g:ByteArray→Int) (out:List (List ByteArray)):(out.map sortF).map (gsum g)=out.map (gsum g):=by
  rw [List.map_map]
  refine List.map_congr_left (fun x _=>?_)
  exact gsum_perm g (sortF_perm x)
theorem sorted_names:∀ (out:List (List ByteArray)),(out.map sortF).flatten.Perm out.flatten
  | []=>List.Perm.refl _
  | x::out=>by simp only [List.map_cons,List.flatten_cons]; exact (sortF_perm x).append (sorted_names out)
theorem shard_names {t:Test} {n:Nat} (hn:1≤n):(shardO (secM t) n (stab ltU t.Cases)).length=n∧((shardO (secM t) n (stab ltU t.Cases)).map sortF).flatten.Perm (t.Cases.map (fun c=>c.Name)):=by
  obtain ⟨k1,k2⟩:=fold_names (secM t) (stab ltU t.Cases) (List.replicate n []) (by simpa using hn)
  refine ⟨by unfold shardO; rw [k1]; simp,(sorted_names _).trans (k2.trans ?_)⟩
  have e:(List.replicate n ([]:List ByteArray)).flatten=[]:=by simp
  rw [e,List.nil_append]
  exact (stab_perm t.Cases).map _
theorem replicate_sum:∀ n:Nat,sumZ (List.replicate n 0)=0
  | 0=>rfl
  | n+1=>by simp only [List.replicate_succ,sumZ]; rw [replicate_sum n]; rfl
theorem shard_sums {t:Test} (ok:OkT t) {n:Nat} (hn:1≤n) {most:Int} (hm:∀ c∈t.Cases,c.Seconds≤most) :
    ∃ S,(shardO (secM t) n (stab ltU t.Cases)).map (gsum (secM t))=S∧Jv most S∧S.length=n∧sumZ S=sumZ (t.Cases.map (fun c=>c.Seconds))∧∀ c∈t.Cases,∃ s∈S,c.Seconds≤s:=by
  have hp:(stab ltU t.Cases).Perm t.Cases:=stab_perm _
  have hm0:0≤most:=by
    obtain ⟨c,hc⟩:∃ c,c∈t.Cases:=by
      have:=ok.pos
      cases h:t.Cases with
      | nil=>rw [h] at this; simp at this
      | cons c l=>exact ⟨c,by simp⟩
    have:=hm c hc
    have:=ok.sec c hc
    omega
  refine ⟨_,rfl,?_⟩
  unfold shardO
  rw [fold_map (g:=secM t) (stab ltU t.Cases) (List.replicate n []) (by simpa using hn) (fun c hc=>(secM_at ok (hp.mem_iff.1 hc)).1)]
  have e0:(List.replicate n ([]:List ByteArray)).map (gsum (secM t))=List.replicate n 0:=by rw [List.map_replicate]; rfl
  rw [e0]
  have hJ:Jv most (List.replicate n 0):=by
    refine ⟨by simpa using hn,fun s hs=>by rw [(List.mem_replicate.1 hs).2]; exact Int.le_refl 0,fun s hs=>?_⟩
    rw [(List.mem_replicate.1 hs).2,replicate_sum]
    have:0≤most*((List.replicate n (0:Int)).length:Int):=Int.mul_nonneg hm0 (by omega)
    omega
  obtain ⟨a1,a2,a3,_,a5⟩:=fold_sums ((stab ltU t.Cases).map (fun c=>c.Seconds)) (List.replicate n 0) hJ (fun c hc=>by
    obtain ⟨x,hx,rfl⟩:=List.mem_map.1 hc
    have hx':=hp.mem_iff.1 hx
    exact ⟨(ok.sec x hx').1,hm x hx'⟩)
  refine ⟨a1,by rw [a3]; simp,?_,fun c hc=>a5 _ (List.mem_map.2 ⟨c,hp.mem_iff.2 hc,rfl⟩)⟩
  rw [a2,replicate_sum,Int.zero_add]
  exact sumZ_perm (hp.map _)
end Go.Proofs.YtdmdimhbcdocdaaDoor
