/- Shards of a test: what the greedy division keeps, and the longest of some shards. -/
import Derived.Test.YtedkdnhhohcocaaDoorPShd
set_option linter.unusedVariables false
set_option linter.unusedSimpArgs false
namespace Go.Proofs.YtedkdnhhohcocaaDoor
open Go Go.Proofs.YtedkdnhhohcocaaDoor.Kit
section
variable {α:Type} {lt:α→α→Bool}
theorem mrg_perm_n:∀ (n:Nat) (xs ys:List α),xs.length+ys.length≤n→(mrg lt xs ys).Perm (xs++ys)
  | _,[],ys,_=>by rw [nil_mrg]; exact List.Perm.refl _
  | _,x::xs,[],_=>by rw [mrg_nil,List.append_nil]
  | 0,x::xs,y::ys,h=>by simp at h
  | n+1,x::xs,y::ys,h=>by
    simp only [List.length_cons] at h
    cases hc:lt y x
    · rw [mrg_ge lt hc]
      exact (mrg_perm_n n xs (y::ys) (by simp only [List.length_cons]; omega)).cons x
    · rw [mrg_lt lt hc]
      exact ((mrg_perm_n n (x::xs) ys (by simp only [List.length_cons]; omega)).cons y).trans List.perm_middle.symm
theorem stab_perm_acc:∀ (l acc:List α),(l.foldl (fun acc x=>mrg lt acc [x]) acc).Perm (acc++l)
  | [],acc=>by simp
  | x::l,acc=>by
    simp only [List.foldl_cons]
    refine (stab_perm_acc l _).trans ?_
    refine ((mrg_perm_n _ acc [x] (Nat.le_refl _)).append_right l).trans ?_
    simp
theorem stab_perm (l:List α):(stab lt l).Perm l:=by
  have:=stab_perm_acc (lt:=lt) l []
  simpa [stab] using this
end
theorem flatten_set {α:Type}:∀ (out:List (List α)) (k:Nat) (h:k<out.length) (y:α),(out.set k (out[k]++[y])).flatten.Perm (out.flatten++[y])
  | a::out,0,h,y=>by
    simp only [List.set_cons_zero,List.getElem_cons_zero,List.flatten_cons,List.append_assoc]
    exact List.Perm.append_left a List.perm_append_comm
  | a::out,k+1,h,y=>by
    simp only [List.set_cons_succ,List.getElem_cons_succ,List.flatten_cons,List.append_assoc]
    exact (flatten_set out k (by simpa using h) y).append_left a
theorem fold_names (g:ByteArray→Int):∀ (l:List TestCase) (out:List (List ByteArray)),1≤out.length→(l.foldl (stepO g) out).length=out.length∧(l.foldl (stepO g) out).flatten.Perm (out.flatten++l.map (fun c=>c.Name))
  | [],out,_=>by simp
  | c::l,out,h=>by
    obtain ⟨h1,h2,_⟩:=stepO_at g h c
    obtain ⟨a,b⟩:=fold_names g l (stepO g out c) (by rw [stepO_len]; exact h)
    refine ⟨a.trans (stepO_len g out c),b.trans ?_⟩
    rw [h2]
    refine ((flatten_set out _ h1 c.Name).append_right _).trans ?_
    simp
/-! how even the sums are -/
def stepS (S:List Int) (c:Int):List Int:=S.set (minAt S) (minL S+c)
structure Jv (most:Int) (S:List Int):Prop where
  pos:1≤S.length
  nn:∀ s∈S,0≤s
  up:∀ s∈S,s*(S.length:Int)≤sumZ S+most*(S.length:Int)
theorem stepS_len (S:List Int) (c:Int):(stepS S c).length=S.length:=by simp [stepS]
theorem stepS_sum {S:List Int} (h:1≤S.length) (c:Int):sumZ (stepS S c)=sumZ S+c:=by
  obtain ⟨h1,h2,_⟩:=minAt_spec h
  unfold stepS
  rw [sumZ_set S _ h1,h2]
  omega
theorem Jv.step {most c:Int} {S:List Int} (h:Jv most S) (h0:0≤c) (h1:c≤most):Jv most (stepS S c):=by
  have hmin:=minL_mem h.pos
  have hge:=sumZ_ge S (minL S) (fun x hx=>minL_le hx)
  refine ⟨by rw [stepS_len]; exact h.pos,fun s hs=>?_,fun s hs=>?_⟩
  · rcases List.mem_or_eq_of_mem_set hs with hs | rfl
    · exact h.nn s hs
    · have:=h.nn _ hmin
      omega
  · rw [stepS_len,stepS_sum h.pos]
    rcases List.mem_or_eq_of_mem_set hs with hs | rfl
    · have:=h.up s hs
      omega
    · have e1:c*(S.length:Int)≤most*(S.length:Int):=Int.mul_le_mul_of_nonneg_right h1 (by omega)
      rw [Int.add_mul]
      rw [Int.mul_comm] at hge
      omega
/-! greatest -/
/-! how long each takes, by its name -/
def tookM (cs:List TestCase) (m:List (ByteArray × Int)):List (ByteArray × Int):=cs.foldl (fun m c=>mput m c.Name c.Seconds) m
theorem took_other:∀ (cs:List TestCase) (m:List (ByteArray × Int)) (s:ByteArray),(∀ c∈cs,c.Name≠s)→mget (tookM cs m) s=mget m s
  | [],m,s,_=>rfl
  | c::cs,m,s,h=>by
    show mget (tookM cs (mput m c.Name c.Seconds)) s=_
    rw [took_other cs _ s (fun x hx=>h x (by simp [hx])),mget_put,if_neg (h c (by simp))]
theorem took_at:∀ (cs:List TestCase) (m:List (ByteArray × Int)),cs.Pairwise (fun a b=>a.Name≠b.Name)→∀ c∈cs,mget (tookM cs m) c.Name=some c.Seconds
  | [],m,_,c,hc=>by cases hc
  | d::cs,m,hp,c,hc=>by
    obtain ⟨h1,h2⟩:=List.pairwise_cons.1 hp
    show mget (tookM cs (mput m d.Name d.Seconds)) c.Name=_
    rcases List.mem_cons.1 hc with rfl | hc
    · rw [took_other cs _ _ (fun x hx e=>h1 x hx e.symm),mget_put,if_pos rfl]
    · exact took_at cs _ h2 c hc
theorem names_ne {cs:List TestCase} (h:cs.Pairwise (fun a b=>sLt a.Name b.Name=true)):cs.Pairwise (fun a b=>a.Name≠b.Name):=h.imp (fun {a b} hab e=>by rw [e,sLt_irrefl] at hab; cases hab)
def secM (t:Test) (s:ByteArray):Int:=mgetD (tookM t.Cases []) s 0
theorem secM_at {t:Test} (ok:OkT t) {c:TestCase} (hc:c∈t.Cases):secM t c.Name=c.Seconds∧mhas (tookM t.Cases []) c.Name=true:=by
  have:=took_at t.Cases [] (names_ne ok.srt) c hc
  unfold secM mgetD mhas
  rw [this]
  exact ⟨rfl,rfl⟩
/-! Longest -/
theorem put_len {κ ν:Type} [DecidableEq κ]:∀ (m:List (κ × ν)) (k:κ) (v:ν),mget m k=none→(mput m k v).length=m.length+1
  | [],k,v,_=>rfl
  | q::m,k,v,h=>by
    unfold mget at h
    unfold mput
    by_cases he:q.1=k
    · rw [if_pos he] at h; cases h
    · rw [if_neg he] at h ⊢
      simp only [List.length_cons,put_len m k v h]
end Go.Proofs.YtedkdnhhohcocaaDoor
