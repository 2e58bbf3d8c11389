/- Shards of a test: what the greedy division keeps, and the longest of some shards. -/
import Derived.Test.YtdmdimhbcdocdaaDoorPShd
set_option linter.unusedVariables false
set_option linter.unusedSimpArgs false
namespace Go.Proofs.YtdmdimhbcdocdaaDoor
open Go Go.Proofs.YtdmdimhbcdocdaaDoor.Kit
section
variable {α:Type} {lt:α→α→Bool}
theorem mrg_perm_n:∀ (n:Nat) (xs ys:List α),xs.length+ys.length≤n→(mrg lt xs ys).Perm (xs++ys)
  | _,[],ys,_=>by rw [nil_mrg]; exact List.Perm.refl _
  | _,x::xs,[],_=>by rw [mrg_nil,List.append_nil]
  | 0,x::xs,y::ys,h=>by simp at h
  | n+1,x::xs,y::ys,h=>by
    simp only [List.length_cons] at h
    cases hc:lt y x
    · rw [mrg_ge lt hc]
      exact (mrg_perm_n n xs (y::ys) (by simp only [List.length_cons]; omega)).cons x
    · rw [mrg_lt lt hc]
      exact ((mrg_perm_n n (x::xs) ys (by simp only [List.length_cons]; omega)).cons y).trans List.perm_middle.symm
theorem stab_perm_acc:∀ (l acc:List α),(l.foldl (fun acc x=>mrg lt acc [x]) acc).Perm (acc++l)
  | [],acc=>by simp
  | x::l,acc=>by
    simp only [List.foldl_cons]
    refine (stab_perm_acc l _).trans ?_
    refine ((mrg_perm_n _ acc [x] (Nat.le_refl _)).append_right l).trans ?_
    simp
theorem stab_perm (l:List α):(stab lt l).Perm l:=by
  have:=stab_perm_acc (lt:=lt) l []
  simpa [stab] using this
end
theorem flatten_set {α:Type}:∀ (out:List (List α)) (k:Nat) (h:k<out.length) (y:α),(out.set k (out[k]++[y])).flatten.Perm (out.flatten++[y])
  | a::out,0,h,y=>by
    simp only [List.set_cons_zero,List.getElem_cons_zero,List.flatten_cons,List.append_assoc]
    exact List.Perm.append_left a List.perm_append_comm
  | a::out,k+1,h,y=>by
    simp only [List.set_cons_succ,List.getElem_cons_succ,List.flatten_cons,List.append_assoc]
    exact (flatten_set out k (by simpa using h) y).append_left a
theorem fold_names (g:ByteArray→Int):∀ (l:List TestCase) (out:List (List ByteArray)),1≤out.length→(l.foldl (stepO g) out).length=out.length∧(l.foldl (stepO g) out).flatten.Perm (out.flatten++l.map (fun c=>c.Name))
  | [],out,_=>by simp
  | c::l,out,h=>by
    obtain ⟨h1,h2,_⟩:=stepO_at g h c
    obtain ⟨a,b⟩:=fold_names g l (stepO g out c) (by rw [stepO_len]; exact h)
    refine ⟨a.trans (stepO_len g out c),b.trans ?_⟩
    rw [h2]
    refine ((flatten_set out _ h1 c.Name).append_right _).trans ?_
    simp
/-! how even the sums are -/
def stepS (S:List Int) (c:Int):List Int:=S.set (minAt S) (minL S+c)
structure Jv (most:Int) (S:List Int):Prop where
  pos:1≤S.length
  nn:∀ s∈S,0≤s
  up:∀ s∈S,s*(S.length:Int)≤sumZ S+most*(S.length:Int)
theorem stepS_len (S:List Int) (c:Int):(stepS S c).length=S.length:=by simp [stepS]
theorem stepS_sum {S:List Int} (h:1≤S.length) (c:Int):sumZ (stepS S c)=sumZ S+c:=by
  obtain ⟨h1,h2,_⟩:=minAt_spec h
  unfold stepS
  rw [sumZ_set S _ h1,h2]
  omega
theorem Jv.step {most c:Int} {S:List Int} (h:Jv most S) (h0:0≤c) (h1:c≤most):Jv most (stepS S c):=by
  have hmin:=minL_mem h.pos
  have hge:=sumZ_ge S (minL S) (fun x hx=>minL_le hx)
  refine ⟨by rw [stepS_len]; exact h.pos,fun s hs=>?_,fun s hs=>?_⟩
  · rcases List.mem_or_eq_of_mem_set hs with hs | rfl
    · exact h.nn s hs
    · have:=h.nn _ hmin
      omega
  · rw [stepS_len,stepS_sum h.pos]
    rcases List.mem_or_eq_of_mem_set hs with hs | rfl
    · have:=h.up s hs
      omega
    · have e1:c*(S.length:Int)≤most*(S.length:Int):=Int.mul_le_mul_of_nonneg_right h1 (by omega)
      rw [Int.add_mul]
      rw [Int.mul_comm] at hge
      omega
theorem stepS_up {S:List Int} (h:1≤S.length) {c:Int} (h0:0≤c) {s:Int} (hs:s∈S):∃ s'∈stepS S c,s≤s':=by
  obtain ⟨h1,h2,_⟩:=minAt_spec h
  obtain ⟨i,hi,rfl⟩:=List.getElem_of_mem hs
  by_cases he:minAt S=i
  · refine ⟨minL S+c,List.mem_set h1 _,?_⟩
    subst he
    rw [h2]
    omega
  · refine ⟨S[i],?_,Int.le_refl _⟩
    have:(stepS S c)[i]'(by rw [stepS_len]; exact hi)=S[i]:=by
      unfold stepS
      rw [List.getElem_set_ne he]
    rw [← this]
    exact List.getElem_mem _
theorem stepS_has {S:List Int} (h:1≤S.length) (hn:∀ s∈S,0≤s) (c:Int):∃ s'∈stepS S c,c≤s':=by
  obtain ⟨h1,h2,_⟩:=minAt_spec h
  refine ⟨minL S+c,List.mem_set h1 _,?_⟩
  have:=hn _ (minL_mem h)
  omega
theorem fold_sums {most:Int}:∀ (l:List Int) (S:List Int),Jv most S→(∀ c∈l,0≤c∧c≤most)→Jv most (l.foldl stepS S)∧sumZ (l.foldl stepS S)=sumZ S+sumZ l∧(l.foldl stepS S).length=S.length∧(∀ s∈S,∃ s'∈l.foldl stepS S,s≤s')∧(∀ c∈l,∃ s'∈l.foldl stepS S,c≤s')
  | [],S,h,_=>⟨h,by simp [sumZ],rfl,fun s hs=>⟨s,hs,Int.le_refl s⟩,fun c hc=>by cases hc⟩
  | c::l,S,h,hl=>by
    obtain ⟨c0,c1⟩:=hl c (by simp)
    obtain ⟨a1,a2,a3,a4,a5⟩:=fold_sums l (stepS S c) (h.step c0 c1) (fun x hx=>hl x (by simp [hx]))
    refine ⟨a1,by simp only [List.foldl_cons]; rw [a2,stepS_sum h.pos]; simp only [sumZ]; omega,by simp only [List.foldl_cons]; rw [a3,stepS_len],fun s hs=>?_,fun x hx=>?_⟩
    · obtain ⟨s1,k1,k2⟩:=stepS_up h.pos c0 hs
      obtain ⟨s2,k3,k4⟩:=a4 s1 k1
      exact ⟨s2,k3,Int.le_trans k2 k4⟩
    · rcases List.mem_cons.1 hx with rfl | hx
      · obtain ⟨s1,k1,k2⟩:=stepS_has h.pos h.nn x
        obtain ⟨s2,k3,k4⟩:=a4 s1 k1
        exact ⟨s2,k3,Int.le_trans k2 k4⟩
      · exact a5 x hx
theorem fold_map {g:ByteArray→Int}:∀ (l:List TestCase) (out:List (List ByteArray)),1≤out.length→(∀ c∈l,g c.Name=c.Seconds)→(l.foldl (stepO g) out).map (gsum g)=(l.map (fun c=>c.Seconds)).foldl stepS (out.map (gsum g))
  | [],out,_,_=>rfl
  | c::l,out,h,hg=>by
    simp only [List.foldl_cons,List.map_cons]
    rw [fold_map l (stepO g out c) (by rw [stepO_len]; exact h) (fun x hx=>hg x (by simp [hx])),stepO_sums g h (hg c (by simp))]
    rfl
/-! greatest -/
theorem foldmax_ge:∀ (l:List Int) (a:Int),a≤l.foldl max2 a∧∀ x∈l,x≤l.foldl max2 a
  | [],a=>⟨Int.le_refl a,fun x h=>by cases h⟩
  | y::l,a=>by
    obtain ⟨h1,h2⟩:=foldmax_ge l (max2 a y)
    have h3:a≤max2 a y∧y≤max2 a y:=by unfold max2; split <;> omega
    refine ⟨Int.le_trans h3.1 h1,fun x hx=>?_⟩
    rcases List.mem_cons.1 hx with rfl | hx
    · exact Int.le_trans h3.2 h1
    · exact h2 x hx
theorem foldmax_mem:∀ (l:List Int) (a:Int),l.foldl max2 a=a∨l.foldl max2 a∈l
  | [],a=>.inl rfl
  | y::l,a=>by
    have h3:max2 a y=a∨max2 a y=y:=by unfold max2; split <;> simp
    simp only [List.foldl_cons]
    rcases foldmax_mem l (max2 a y) with h | h
    · rw [h]
      rcases h3 with h3 | h3
      · exact .inl h3
      · rw [h3]; exact .inr (by simp)
    · exact .inr (by simp [h])
/-! how long each takes, by its name -/
def tookM (cs:List TestCase) (m:List (ByteArray × Int)):List (ByteArray × Int):=cs.foldl (fun m c=>mput m c.Name c.Seconds) m
theorem took_other:∀ (cs:List TestCase) (m:List (ByteArray × Int)) (s:ByteArray),(∀ c∈cs,c.Name≠s)→mget (tookM cs m) s=mget m s
  | [],m,s,_=>rfl
  | c::cs,m,s,h=>by
    show mget (tookM cs (mput m c.Name c.Seconds)) s=_
    rw [took_other cs _ s (fun x hx=>h x (by simp [hx])),mget_put,if_neg (h c (by simp))]
theorem took_at:∀ (cs:List TestCase) (m:List (ByteArray × Int)),cs.Pairwise (fun a b=>a.Name≠b.Name)→∀ c∈cs,mget (tookM cs m) c.Name=some c.Seconds
  | [],m,_,c,hc=>by cases hc
  | d::cs,m,hp,c,hc=>by
    obtain ⟨h1,h2⟩:=List.pairwise_cons.1 hp
    show mget (tookM cs (mput m d.Name d.Seconds)) c.Name=_
    rcases List.mem_cons.1 hc with rfl | hc
    · rw [took_other cs _ _ (fun x hx e=>h1 x hx e.symm),mget_put,if_pos rfl]
    · exact took_at cs _ h2 c hc
theorem names_ne {cs:List TestCase} (h:cs.Pairwise (fun a b=>sLt a.Name b.Name=true)):cs.Pairwise (fun a b=>a.Name≠b.Name):=h.imp (fun {a b} hab e=>by rw [e,sLt_irrefl] at hab; cases hab)
def secM (t:Test) (s:ByteArray):Int:=mgetD (tookM t.Cases []) s 0
theorem secM_at {t:Test} (ok:OkT t) {c:TestCase} (hc:c∈t.Cases):secM t c.Name=c.Seconds∧mhas (tookM t.Cases []) c.Name=true:=by
  have:=took_at t.Cases [] (names_ne ok.srt) c hc
  unfold secM mgetD mhas
  rw [this]
  exact ⟨rfl,rfl⟩
/-! Longest -/
def putS (seen:List (ByteArray × Bool)) (l:List ByteArray):List (ByteArray × Bool):=l.foldl (fun m x=>mput m x true) seen
theorem put_len {κ ν:Type} [DecidableEq κ]:∀ (m:List (κ × ν)) (k:κ) (v:ν),mget m k=none→(mput m k v).length=m.length+1
  | [],k,v,_=>rfl
  | q::m,k,v,h=>by
    unfold mget at h
    unfold mput
    by_cases he:q.1=k
    · rw [if_pos he] at h; cases h
    · rw [if_neg he] at h ⊢
      simp only [List.length_cons,put_len m k v h]
theorem putS_spec:∀ (l:List ByteArray) (seen:List (ByteArray × Bool)),l.Nodup→(∀ x∈l,mget seen x=none)→(putS seen l).length=seen.length+l.length∧∀ y,y ∉ l→mget seen y=none→mget (putS seen l) y=none
  | [],seen,_,_=>⟨rfl,fun y _ h=>h⟩
  | x::l,seen,hn,h=>by
    obtain ⟨n1,n2⟩:=List.nodup_cons.1 hn
    have h2:∀ z∈l,mget (mput seen x true) z=none:=fun z hz=>by
      rw [mget_put,if_neg (show ¬ x=z from fun e=>n1 (by rw [e]; exact hz))]
      exact h z (by simp [hz])
    obtain ⟨a,b⟩:=putS_spec l (mput seen x true) n2 h2
    refine ⟨?_,fun y hy hm=>?_⟩
    · show (putS (mput seen x true) l).length=_
      rw [a,put_len _ _ _ (h x (by simp)),List.length_cons]
      omega
    · refine b y (fun hy'=>hy (by simp [hy'])) ?_
      rw [mget_put,if_neg (fun e=>hy (by simp [e]))]
      exact hm
theorem inner_loop {t:Test} {out:List (List ByteArray)} {took:List (ByteArray × Int)} {most v44:Int} {E:Test→List (List ByteArray)→List (ByteArray × Int)→Int→Int→List (ByteArray × Bool)→Int→Option (Int × Int)} {names:List ByteArray} (hn:names.length≤500) (htk:∀ x∈names,mhas took x=true) (hg:∀ x∈names,0≤mgetD took x 0∧mgetD took x 0≤100000) :
    ∀ (l:List ByteArray) (k v:Nat) (seen:List (ByteArray × Bool)) (sum:Int),names.drop v=l→v≤names.length→l.Nodup→(∀ x∈l,mget seen x=none)→0≤sum→sum≤(v:Int)*100000→l.length<k →
      trials_Longest.l5 E k t out took most v44 names seen sum (v:Int)=E t out took most v44 (putS seen l) (sum+gsum (fun x=>mgetD took x 0) l):=by
  intro l
  induction l with
  | nil =>
    intro k v seen sum h1 h2 _ _ _ _ h6
    obtain ⟨k,rfl⟩:∃ m,k=m+1:=⟨k - 1,by omega⟩
    have hv:names.length≤v:=List.drop_eq_nil_iff.1 h1
    rw [trials_Longest.l5,decide_eq_false (by omega)]
    simp [putS,gsum,sumZ]
  | cons x l ih =>
    intro k v seen sum h1 h2 h3 h4 h5 h5' h6
    simp only [List.length_cons] at h6
    obtain ⟨k,rfl⟩:∃ m,k=m+1:=⟨k - 1,by omega⟩
    have hv:v<names.length:=by
      rcases Nat.lt_or_ge v names.length with h | h
      · exact h
      · rw [List.drop_eq_nil_of_le h] at h1; cases h1
    rw [List.drop_eq_getElem_cons hv] at h1
    injection h1 with g1 g2
    have hm:=List.getElem_mem hv
    rw [g1] at hm
    obtain ⟨n1,n2⟩:=List.nodup_cons.1 h3
    have hw:w64 ((v:Int)+1)=((v+1:Nat):Int):=by rw [w64_id (by omega) (by omega)]; omega
    have hs:mgetD seen x false=false:=by unfold mgetD; rw [h4 x (by simp)]; rfl
    obtain ⟨b1,b2⟩:=hg x hm
    rw [trials_Longest.l5,decide_eq_true (by omega),at_nat hv,g1]
    simp only [cond_true,Option.bind_some,htk x hm,Bool.not_true,cond_false,hs]
    rw [hw,w64_id (by omega) (by omega),ih k (v+1) (mput seen x true) (sum+mgetD took x 0) g2 (by omega) n2 (fun z hz=>by rw [mget_put,if_neg (show ¬ x=z from fun e=>n1 (by rw [e]; exact hz))]; exact h4 z (by simp [hz])) (by omega) (by push_cast; omega) (by omega)]
    have e:sum+mgetD took x 0+gsum (fun x=>mgetD took x 0) l=sum+gsum (fun x=>mgetD took x 0) (x::l):=by
      unfold gsum
      simp only [List.map_cons,sumZ]
      omega
    rw [e]
    rfl
theorem outer_loop {t:Test} {took:List (ByteArray × Int)} {out:List (List ByteArray)} (ho:out.length≤100) (hsz:∀ x∈out,x.length≤500) (htk:∀ x∈out.flatten,mhas took x=true) (hg:∀ x∈out.flatten,0≤mgetD took x 0∧mgetD took x 0≤100000) :
    ∀ (l:List (List ByteArray)) (k v:Nat) (seen:List (ByteArray × Bool)) (most:Int),out.drop v=l→v≤out.length→l.flatten.Nodup→(∀ x∈l.flatten,mget seen x=none)→l.length<k →
      trials_Longest.l3 trials_Longest.e2 k t out took seen most (v:Int)=trials_Longest.e2 t (putS seen l.flatten) ((l.map (gsum (fun x=>mgetD took x 0))).foldl max2 most):=by
  intro l
  induction l with
  | nil =>
    intro k v seen most h1 h2 _ _ h6
    obtain ⟨k,rfl⟩:∃ m,k=m+1:=⟨k - 1,by omega⟩
    have hv:out.length≤v:=List.drop_eq_nil_iff.1 h1
    rw [trials_Longest.l3,decide_eq_false (by omega)]
    rfl
  | cons x l ih =>
    intro k v seen most h1 h2 h3 h4 h6
    simp only [List.length_cons] at h6
    obtain ⟨k,rfl⟩:∃ m,k=m+1:=⟨k - 1,by omega⟩
    have hv:v<out.length:=by
      rcases Nat.lt_or_ge v out.length with h | h
      · exact h
      · rw [List.drop_eq_nil_of_le h] at h1; cases h1
    rw [List.drop_eq_getElem_cons hv] at h1
    injection h1 with g1 g2
    have hm:=List.getElem_mem hv
    rw [g1] at hm
    have hw:w64 ((v:Int)+1)=((v+1:Nat):Int):=by rw [w64_id (by omega) (by omega)]; omega
    rw [List.flatten_cons] at h3 h4
    obtain ⟨n1,n2,n3⟩:=List.nodup_append.1 h3
    have hin:∀ y∈x,y∈out.flatten:=fun y hy=>List.mem_flatten.2 ⟨x,hm,hy⟩
    have hx4:∀ y∈x,mget seen y=none:=fun y hy=>h4 y (List.mem_append_left _ hy)
    rw [trials_Longest.l3,decide_eq_true (by omega),at_nat hv,g1]
    simp only [cond_true,Option.bind_some]
    have e:=inner_loop (t:=t) (out:=out) (took:=took) (most:=most) (v44:=(v:Int)) (E:=trials_Longest.e4 (trials_Longest.l3 trials_Longest.e2 k)) (hsz x hm) (fun y hy=>htk y (hin y hy)) (fun y hy=>hg y (hin y hy)) x big 0 seen 0 rfl (by omega) n1 hx4 (by omega) (by omega) (by have:=hsz x hm; unfold big; omega)
    rw [show ((0:Nat):Int)=0 from rfl] at e
    rw [e]
    unfold trials_Longest.e4
    rw [hw,Int.zero_add,ih k (v+1) _ _ g2 (by omega) n2 (fun y hy=>(putS_spec x seen n1 hx4).2 y (fun hy'=>n3 y hy' y hy rfl) (h4 y (List.mem_append_right _ hy))) (by omega)]
    simp only [putS,List.flatten_cons,List.foldl_append,List.map_cons,List.foldl_cons]
theorem longest_prog {t:Test} (h:smallT t) (ht:tstS t=some 0) {out:List (List ByteArray)} (ho:out.length≤100) (hp:out.flatten.Perm (t.Cases.map (fun c=>c.Name))):trials_Longest.f t out=some ((out.map (gsum (secM t))).foldl max2 0,0):=by
  have ok:=tst_ok ht
  have hc:∀ x∈out.flatten,∃ c∈t.Cases,c.Name=x:=fun x hx=>List.mem_map.1 (hp.mem_iff.1 hx)
  have hl:out.flatten.length=t.Cases.length:=by rw [hp.length_eq,List.length_map]
  have hsz:∀ x∈out,x.length≤500:=fun x hx=>by
    have h1:x.length≤out.flatten.length:=(List.sublist_flatten_of_mem hx).length_le
    have:=ok.len
    omega
  have hnd:out.flatten.Nodup:=hp.nodup_iff.2 (List.pairwise_map.2 (names_ne ok.srt))
  unfold trials_Longest.f
  rw [tst_prog h,ht]
  simp only [Option.bind_some,bne_self_eq_false,cond_false]
  rw [decide_eq_false (by omega)]
  simp only [cond_false]
  rw [rangeS_all (xs:=t.Cases) (L:=fun k m v=>trials_Longest.l6 trials_Longest.e1 k t out m v) (body:=fun _ c m f=>f (mput m c.Name c.Seconds)) (e:=fun m=>trials_Longest.e1 t out m) h.len (fun k m v=>by
    simp only [trials_Longest.l6]) [],fold_rng]
  show trials_Longest.e1 t out (tookM t.Cases [])=_
  unfold trials_Longest.e1
  have e:=outer_loop (t:=t) (took:=tookM t.Cases []) ho hsz (fun x hx=>by obtain ⟨c,h1,rfl⟩:=hc x hx; exact (secM_at ok h1).2) (fun x hx=>by
    obtain ⟨c,h1,rfl⟩:=hc x hx
    have:=(secM_at ok h1).1
    unfold secM at this
    rw [this]
    exact ok.sec c h1) out big 0 [] 0 rfl (by omega) hnd (fun x _=>rfl) (by unfold big; omega)
  rw [show ((0:Nat):Int)=0 from rfl] at e
  rw [e]
  unfold trials_Longest.e2
  have e2:=(putS_spec out.flatten [] hnd (fun x _=>rfl)).1
  rw [e2,decide_eq_false (by rw [hl]; simp)]
  rfl
end Go.Proofs.YtdmdimhbcdocdaaDoor
