/- Shards of a test: the check of a test, the greedy division, the sorting of each part. -/
import Derived.Test.YtedkdnhhohcocaaDoorPPath
import Derived.Test.YtedkdnhhohcocaaDoorPWrd
import Derived.Test.YtedkdnhhohcocaaDoorPSbT
import Derived.Test.YtedkdnhhohcocaaDoorPMp
set_option linter.unusedVariables false
set_option linter.unusedSimpArgs false
namespace Go.Proofs.YtedkdnhhohcocaaDoor
open Go Go.Proofs.YtedkdnhhohcocaaDoor.Kit
theorem withinT (a b c:Int):trials_within.f a b c=some (inR b c a):=by
  unfold trials_within.f inR
  cases decide (b≤a) <;> rfl
def tstB (p:Option TestCase) (x:TestCase) (k:Option Int):Option Int :=
  bif !isWordB x.Name then some 5 else bif !inR 0 100000 x.Seconds then some 1 else bif prevB (fun y=>sLt x.Name y.Name||sEq x.Name y.Name) p then some 8 else k
def tstS (t:Test):Option Int:=bif !isPathB t.Name then some 5 else bif (t.Cases.length:Int) == 0 then some 9 else bif decide (500<(t.Cases.length:Int)) then some 2 else rangeP tstB (some 0) none t.Cases
structure smallT (t:Test):Prop where
  len:t.Cases.length≤4611686018427387904
  nm:∀ x∈t.Cases,x.Name.size≤4611686018427387904
theorem tst_prog {t:Test} (h:smallT t):trials_CheckTest.f t=tstS t:=by
  have key:trials_CheckTest.l2 trials_CheckTest.e1 big t 0=rangeP tstB (some 0) none t.Cases:=by
    refine rangeP_all (L:=fun k v=>trials_CheckTest.l2 trials_CheckTest.e1 k t v) h.len (fun k v h0 h1=>?_)
    simp only [trials_CheckTest.l2]
    congr 1
    refine bind_at (fun x hx=>?_)
    rw [isWord_prog x.Name (h.nm x hx),withinT,prev_eq (P:=fun y=>sLt x.Name y.Name||sEq x.Name y.Name) h0 h1 h.len]
    simp only [Option.bind_some]
    rfl
  unfold trials_CheckTest.f tstS
  rw [isPath_prog,key]
  rfl
structure OkT (t:Test):Prop where
  pos:1≤t.Cases.length
  len:t.Cases.length≤500
  sec:∀ x∈t.Cases,0≤x.Seconds∧x.Seconds≤100000
  srt:t.Cases.Pairwise (fun a b=>sLt a.Name b.Name=true)
theorem tstB_zero (p:Option TestCase) (x:TestCase) (k:Option Int) (h:tstB p x k=some 0):k=some 0∧(0≤x.Seconds∧x.Seconds≤100000)∧prevB (fun y=>sLt x.Name y.Name||sEq x.Name y.Name) p=false:=by
  unfold tstB at h
  cases h1:isWordB x.Name
  · rw [h1] at h; cases h
  rw [h1] at h
  cases h2:inR 0 100000 x.Seconds
  · rw [h2] at h; cases h
  rw [h2] at h
  cases h3:prevB (fun y=>sLt x.Name y.Name||sEq x.Name y.Name) p
  · rw [h3] at h
    unfold inR at h2
    exact ⟨h,by simpa using h2,rfl⟩
  · rw [h3] at h; cases h
theorem tst_ok {t:Test} (h:tstS t=some 0):OkT t:=by
  unfold tstS at h
  cases h1:isPathB t.Name
  · rw [h1] at h; cases h
  rw [h1] at h
  cases h2:(t.Cases.length:Int) == 0
  · rw [h2] at h
    cases h3:decide (500<(t.Cases.length:Int))
    · rw [h3] at h
      have h:rangeP tstB (some 0) none t.Cases=some 0:=h
      have a:=of_decide_eq_false h3
      have b:(t.Cases.length:Int)≠0:=by simpa using h2
      exact ⟨by omega,by omega,(each_of (fun p x k hk=>⟨(tstB_zero p x k hk).1,(tstB_zero p x k hk).2.1⟩) _ _ h).2,(sorted_of (key:=fun x:TestCase=>x.Name) (fun p x k hk=>⟨(tstB_zero p x k hk).1,(tstB_zero p x k hk).2.2⟩) _ _ h).2.2⟩
    · rw [h3] at h; cases h
  · rw [h2] at h; cases h
theorem tst_some (t:Test):∃ r,tstS t=some r:=by
  unfold tstS
  cases isPathB t.Name
  · exact ⟨_,rfl⟩
  cases (t.Cases.length:Int) == 0
  · cases decide (500<(t.Cases.length:Int))
    · refine rangeP_some (fun p x k ⟨r,hk⟩=>?_) ⟨_,rfl⟩ t.Cases none
      unfold tstB
      rw [hk]
      cases isWordB x.Name
      · exact ⟨_,rfl⟩
      cases inR 0 100000 x.Seconds
      · exact ⟨_,rfl⟩
      cases prevB (fun y=>sLt x.Name y.Name||sEq x.Name y.Name) p <;> exact ⟨_,rfl⟩
    · exact ⟨_,rfl⟩
  · exact ⟨_,rfl⟩
/-! the least of numbers, and where it is -/
theorem fold_rng {α σ β:Type} {g:σ→α→σ} {e:σ→Option β}:∀ (xs:List α) (i:Int) (s:σ),rangeS (fun _ x s k=>k (g s x)) e i xs s=e (xs.foldl g s)
  | [],i,s=>rfl
  | x::xs,i,s=>fold_rng xs (i+1) (g s x)
def minL:List Int→Int
  | []=>0
  | x::l=>l.foldl min2 x
theorem min_prog {l:List Int} (h0:1≤l.length) (h:l.length≤4611686018427387904):slices_Min_int.f l=some (minL l):=by
  cases l with
  | nil=>simp at h0
  | cons x l =>
    unfold slices_Min_int.f slices_Min_int.j1
    rw [decide_eq_false (by simp only [List.length_cons]; omega)]
    have e1:at? (x::l) 0=some x:=rfl
    rw [e1]
    simp only [cond_false,Option.bind_some]
    have e2:=rangeS_of (xs:=x::l) (L:=fun k s v=>slices_Min_int.l3 slices_Min_int.e2 k (x::l) s v) (body:=fun _ y s f=>f (min2 s y)) (e:=fun s=>some s) h (fun k s v=>by
      simp only [slices_Min_int.l3]
      rfl) l.length big 1 x (by omega) (by simp only [List.length_cons]; omega) (by simp only [List.length_cons]; omega) (by unfold big; simp only [List.length_cons] at h; omega)
    refine e2.trans ?_
    show rangeS (fun _ y s f=>f (min2 s y)) (fun s=>some s) 1 l x=_
    rw [fold_rng]
    rfl
theorem foldmin_le:∀ (l:List Int) (a:Int),l.foldl min2 a≤a∧∀ x∈l,l.foldl min2 a≤x
  | [],a=>⟨Int.le_refl a,fun x h=>by cases h⟩
  | y::l,a=>by
    obtain ⟨h1,h2⟩:=foldmin_le l (min2 a y)
    have h3:min2 a y≤a∧min2 a y≤y:=by unfold min2; split <;> omega
    refine ⟨Int.le_trans h1 h3.1,fun x hx=>?_⟩
    rcases List.mem_cons.1 hx with rfl | hx
    · exact Int.le_trans h1 h3.2
    · exact h2 x hx
theorem foldmin_mem:∀ (l:List Int) (a:Int),l.foldl min2 a=a∨l.foldl min2 a∈l
  | [],a=>.inl rfl
  | y::l,a=>by
    have h3:min2 a y=a∨min2 a y=y:=by unfold min2; split <;> simp
    simp only [List.foldl_cons]
    rcases foldmin_mem l (min2 a y) with h | h
    · rw [h]
      rcases h3 with h3 | h3
      · exact .inl h3
      · rw [h3]; exact .inr (by simp)
    · exact .inr (by simp [h])
theorem minL_le {l:List Int} {x:Int} (hx:x∈l):minL l≤x:=by
  cases l with
  | nil=>cases hx
  | cons y l =>
    rcases List.mem_cons.1 hx with rfl | hx
    · exact (foldmin_le l x).1
    · exact (foldmin_le l y).2 x hx
theorem minL_mem {l:List Int} (h:1≤l.length):minL l∈l:=by
  cases l with
  | nil=>simp at h
  | cons y l =>
    rcases foldmin_mem l y with h | h
    · show l.foldl min2 y∈_; rw [h]; simp
    · show l.foldl min2 y∈_; simp [h]
def minAt (l:List Int):Nat:=(l.findIdx? (fun x=>minL l == x)).getD 0
theorem minAt_spec {l:List Int} (h:1≤l.length):∃ hlt:minAt l<l.length,l[minAt l]=minL l∧l.findIdx? (fun x=>minL l == x)=some (minAt l):=by
  cases hf:l.findIdx? (fun x=>minL l == x) with
  | none =>
    rw [List.findIdx?_eq_none_iff] at hf
    have:=hf _ (minL_mem h)
    simp at this
  | some n =>
    have e:minAt l=n:=by unfold minAt; rw [hf]; rfl
    obtain ⟨h1,h2,_⟩:=List.findIdx?_eq_some_iff_getElem.1 hf
    refine ⟨by rw [e]; exact h1,?_,by rw [e]⟩
    have h2:minL l=l[n]:=by simpa using h2
    simp only [e]
    exact h2.symm
theorem index_prog {l:List Int} (h0:1≤l.length) (h:l.length≤4611686018427387904):slices_Index_int.f l (minL l)=some ((minAt l:Nat):Int):=by
  unfold slices_Index_int.f
  rw [rangeS_all (S:=Unit) (L:=fun k _ v=>slices_Index_int.l2 slices_Index_int.e1 k l (minL l) v) (body:=fun v x s f=>bif minL l == x then some v else f s) (e:=fun _=>some (-1)) h (fun k s v=>by
    simp only [slices_Index_int.l2]
    rfl) (),findLoop l 0]
  obtain ⟨_,_,h3⟩:=minAt_spec h0
  rw [h3]
  simp
/-! sums -/
def sumZ:List Int→Int
  | []=>0
  | x::l=>x+sumZ l
theorem sumZ_app:∀ (l m:List Int),sumZ (l++m)=sumZ l+sumZ m
  | [],m=>by simp [sumZ]
  | x::l,m=>by simp only [List.cons_append,sumZ]; rw [sumZ_app l m]; omega
theorem sumZ_ge:∀ (l:List Int) (b:Int),(∀ x∈l,b≤x)→(l.length:Int)*b≤sumZ l
  | [],b,_=>by simp [sumZ]
  | x::l,b,h=>by
    have h1:=h x (by simp)
    have h2:=sumZ_ge l b (fun y hy=>h y (by simp [hy]))
    simp only [sumZ,List.length_cons]
    push_cast
    rw [Int.add_mul]
    omega
theorem sumZ_set:∀ (l:List Int) (k:Nat) (h:k<l.length) (v:Int),sumZ (l.set k v)=sumZ l - l[k]+v
  | x::l,0,h,v=>by simp only [List.set_cons_zero,sumZ,List.getElem_cons_zero]; omega
  | x::l,k+1,h,v=>by
    simp only [List.set_cons_succ,sumZ,List.getElem_cons_succ]
    rw [sumZ_set l k (by simpa using h) v]
    omega
def gsum (g:ByteArray→Int) (l:List ByteArray):Int:=sumZ (l.map g)
theorem gsum_snoc (g:ByteArray→Int) (l:List ByteArray) (x:ByteArray):gsum g (l++[x])=gsum g l+g x:=by
  unfold gsum
  rw [List.map_append,sumZ_app]
  simp [sumZ]
/-! the greedy division -/
def stepO (g:ByteArray→Int) (out:List (List ByteArray)) (c:TestCase):List (List ByteArray) :=
  out.set (minAt (out.map (gsum g))) (out.getD (minAt (out.map (gsum g))) []++[c.Name])
theorem stepO_len (g:ByteArray→Int) (out:List (List ByteArray)) (c:TestCase):(stepO g out c).length=out.length:=by simp [stepO]
theorem stepO_at (g:ByteArray→Int) {out:List (List ByteArray)} (h:1≤out.length) (c:TestCase):∃ hlt:minAt (out.map (gsum g))<out.length,stepO g out c=out.set (minAt (out.map (gsum g))) (out[minAt (out.map (gsum g))]++[c.Name])∧gsum g out[minAt (out.map (gsum g))]=minL (out.map (gsum g)):=by
  obtain ⟨h1,h2,_⟩:=minAt_spec (l:=out.map (gsum g)) (by simpa using h)
  have h1':minAt (out.map (gsum g))<out.length:=by simpa using h1
  refine ⟨h1',?_,?_⟩
  · unfold stepO
    rw [List.getD_eq_getElem?_getD,List.getElem?_eq_getElem h1']
    rfl
  · rw [← h2,List.getElem_map]
theorem stepO_sums (g:ByteArray→Int) {out:List (List ByteArray)} (h:1≤out.length) {c:TestCase} (hc:g c.Name=c.Seconds):(stepO g out c).map (gsum g)=(out.map (gsum g)).set (minAt (out.map (gsum g))) (minL (out.map (gsum g))+c.Seconds):=by
  obtain ⟨h1,h2,h3⟩:=stepO_at g h c
  rw [h2,List.map_set,gsum_snoc,h3,hc]
theorem shard_loop {g:ByteArray→Int} {y3 y4:List TestCase} (hlen:y4.length=y3.length) (h500:y4.length≤500) (hg:∀ c∈y4,g c.Name=c.Seconds) (hs:∀ c∈y4,0≤c.Seconds∧c.Seconds≤100000) {E:List (List ByteArray)→Option (List (List ByteArray) × Int)} :
    ∀ (l:List TestCase) (k v:Nat) (out:List (List ByteArray)),y4.drop v=l→v≤y4.length→1≤out.length→out.length≤100→(∀ x∈out,x.length≤v∧0≤gsum g x∧gsum g x≤(v:Int)*100000)→l.length<k →
      trials_Shards.l4 E k y3 y4 out (out.map (gsum g)) (v:Int)=E (l.foldl (stepO g) out):=by
  intro l
  induction l with
  | nil =>
    intro k v out h1 h2 h3 h4 h5 h6
    obtain ⟨k,rfl⟩:∃ m,k=m+1:=⟨k - 1,by omega⟩
    have hv:y4.length≤v:=List.drop_eq_nil_iff.1 h1
    rw [trials_Shards.l4,decide_eq_false (by omega)]
    rfl
  | cons c l ih =>
    intro k v out h1 h2 h3 h4 h5 h6
    simp only [List.length_cons] at h6
    obtain ⟨k,rfl⟩:∃ m,k=m+1:=⟨k - 1,by omega⟩
    have hv:v<y4.length:=by
      rcases Nat.lt_or_ge v y4.length with h | h
      · exact h
      · rw [List.drop_eq_nil_of_le h] at h1; cases h1
    rw [List.drop_eq_getElem_cons hv] at h1
    injection h1 with g1 g2
    have hm:=List.getElem_mem hv
    rw [g1] at hm
    have hw:w64 ((v:Int)+1)=((v+1:Nat):Int):=by rw [w64_id (by omega) (by omega)]; omega
    have hml:1≤(out.map (gsum g)).length:=by simpa using h3
    obtain ⟨a1,a2,a3⟩:=stepO_at g h3 c
    obtain ⟨b1,b2⟩:=hs c hm
    obtain ⟨c1,c2,c3⟩:=h5 _ (List.getElem_mem a1)
    have hat:at? (out.map (gsum g)) ((minAt (out.map (gsum g)):Nat):Int)=some (minL (out.map (gsum g))):=by
      have hlt:minAt (out.map (gsum g))<(out.map (gsum g)).length:=by simpa using a1
      rw [at_nat hlt,List.getElem_map,a3]
    rw [a3] at c2 c3
    rw [trials_Shards.l4,decide_eq_true (by omega),at_nat hv,g1]
    simp only [cond_true,Option.bind_some]
    rw [min_prog hml (by simp; omega)]
    simp only [Option.bind_some]
    rw [index_prog hml (by simp; omega)]
    simp only [Option.bind_some]
    rw [at_nat a1,hat]
    simp only [Option.bind_some]
    rw [guard?_true (room_of (by omega)),hw,w64_id (by omega) (by omega)]
    have e1:List.set out ((minAt (out.map (gsum g)):Nat):Int).toNat (out[minAt (out.map (gsum g))]++[c.Name])=stepO g out c:=by rw [Int.toNat_natCast]; exact a2.symm
    have e2:(out.map (gsum g)).set ((minAt (out.map (gsum g)):Nat):Int).toNat (minL (out.map (gsum g))+c.Seconds)=(stepO g out c).map (gsum g):=by rw [Int.toNat_natCast]; exact (stepO_sums g h3 (hg c hm)).symm
    rw [e1,e2]
    refine (ih k (v+1) (stepO g out c) g2 (by omega) (by rw [stepO_len]; exact h3) (by rw [stepO_len]; exact h4) (fun x hx=>?_) (by omega)).trans rfl
    rw [a2] at hx
    rcases List.mem_or_eq_of_mem_set hx with hx | rfl
    · obtain ⟨d1,d2,d3⟩:=h5 x hx
      push_cast
      exact ⟨by omega,d2,by omega⟩
    · rw [gsum_snoc,a3,hg c hm]
      simp only [List.length_append,List.length_cons,List.length_nil]
      push_cast
      exact ⟨by omega,by omega,by omega⟩
def sortF (l:List ByteArray):List ByteArray:=((l.map (fun s=>s.data.toList)).mergeSort fun x y=>decide (x≤y)).map fun l=>(⟨l.toArray⟩:ByteArray)
theorem sortF_perm (l:List ByteArray):(sortF l).Perm l:=by
  have h:=(List.mergeSort_perm (l.map (fun s:ByteArray=>s.data.toList)) (fun x y=>decide (x≤y))).map (fun l=>(⟨l.toArray⟩:ByteArray))
  have e:(l.map (fun s:ByteArray=>s.data.toList)).map (fun l=>(⟨l.toArray⟩:ByteArray))=l:=by
    rw [List.map_map]
    have:((fun l=>(⟨l.toArray⟩:ByteArray)) ∘ fun s:ByteArray=>s.data.toList)=id:=by
      funext s
      rfl
    rw [this,List.map_id]
  rw [e] at h
  exact h
theorem sort_loop {o0:List (List ByteArray)} (h:o0.length≤4611686018427387904) (hl:∀ x∈o0,x.length<4611686018427387904):∀ (d k v:Nat) (o:List (List ByteArray)),o0.length=v+d→o=(o0.take v).map sortF++o0.drop v→d<k →
    trials_Shards.l3 trials_Shards.e2 k o0 o (v:Int)=some (o0.map sortF,0):=by
  intro d
  induction d with
  | zero =>
    intro k v o h1 h2 h3
    obtain ⟨k,rfl⟩:∃ m,k=m+1:=⟨k - 1,by omega⟩
    rw [trials_Shards.l3,decide_eq_false (by omega),h2,List.take_of_length_le (by omega),List.drop_eq_nil_of_le (by omega),List.append_nil]
    rfl
  | succ d ih =>
    intro k v o h1 h2 h3
    obtain ⟨k,rfl⟩:∃ m,k=m+1:=⟨k - 1,by omega⟩
    have hv:v<o0.length:=by omega
    have hlv:((o0.take v).map sortF).length=v:=by simp; omega
    have hat:at? o (v:Int)=some o0[v]:=by
      rw [h2,List.drop_eq_getElem_cons hv]
      exact at_app (by rw [hlv])
    have hw:w64 ((v:Int)+1)=((v+1:Nat):Int):=by rw [w64_id (by omega) (by omega)]; omega
    have hsf:slices_Sort_string.f o0[v]=some (sortF o0[v]):=by
      unfold slices_Sort_string.f
      rw [guard?_true (decide_eq_true (hl _ (List.getElem_mem hv)))]
      rfl
    rw [trials_Shards.l3,decide_eq_true (by omega),hat]
    simp only [cond_true,Option.bind_some]
    rw [hsf]
    simp only [Option.bind_some]
    rw [hw]
    refine ih k (v+1) _ (by omega) ?_ (by omega)
    rw [h2,Int.toNat_natCast,List.drop_eq_getElem_cons hv,List.set_append_right _ _ (by omega),hlv,Nat.sub_self,List.set_cons_zero,List.take_succ_eq_append_getElem hv,List.map_append]
    simp
def shardO (g:ByteArray→Int) (n:Nat) (cs:List TestCase):List (List ByteArray):=cs.foldl (stepO g) (List.replicate n [])
end Go.Proofs.YtedkdnhhohcocaaDoor
