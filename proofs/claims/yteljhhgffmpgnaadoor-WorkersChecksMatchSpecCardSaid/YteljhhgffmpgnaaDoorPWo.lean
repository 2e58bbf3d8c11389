/- Works: what comes of taking away what is free, and of the search from each one. -/
import Derived.Test.YteljhhgffmpgnaaDoorPWk
set_option linter.unusedVariables false
set_option linter.unusedSimpArgs false
namespace Go.Proofs.YteljhhgffmpgnaaDoor
open Go Go.Proofs.YteljhhgffmpgnaaDoor.Kit
theorem at_nat {α:Type} {xs:List α} {n:Nat} (h:n<xs.length):at? xs ((n:Nat):Int)=some xs[n]:=by simp [at?,h]
def gW (l:List Work) (i:Nat):List Nat:=match l[i]? with | some x=>x.After.map (plc l) | none=>[]
structure OkW (l:List Work):Prop where
  len:l.length≤200
  srt:l.Pairwise (fun a b=>sLt a.Id b.Id=true)
  all:∀ x∈l,∀ d∈x.After,hasW l d=true
  sml:∀ x∈l,smallWork x
theorem gW_at {l:List Work} {i:Nat} (hi:i<l.length):gW l i=l[i].After.map (plc l):=by
  unfold gW
  rw [List.getElem?_eq_getElem hi]
theorem gW_lt {l:List Work} (ok:OkW l):∀ i,i<l.length→∀ k∈gW l i,k<l.length:=by
  intro i hi k hk
  rw [gW_at hi] at hk
  obtain ⟨d,hd,rfl⟩:=List.mem_map.1 hk
  exact plc_lt ok.srt (ok.all _ (List.getElem_mem hi) d hd)
theorem at_getD {d:List Bool} {n:Nat} (h:n<d.length):at? d ((n:Nat):Int)=some (d.getD n false):=by
  rw [at_nat h,List.getD_eq_getElem?_getD,List.getElem?_eq_getElem h]
  rfl
theorem free_prog {l:List Work} (ok:OkW l) {x:Work} (hx:x∈l) {done:List Bool} (hd:done.length=l.length):slices_ContainsFunc_string.f x.After l done=some (x.After.any (fun d=>!done.getD (plc l d) false)):=by
  have hlen:=ok.len
  unfold slices_ContainsFunc_string.f slices_IndexFunc_string.f
  rw [rangeS_all (S:=Unit) (L:=fun k _ v=>slices_IndexFunc_string.l2 slices_IndexFunc_string.e1 k x.After l done v) (body:=fun v d s f=>bif !done.getD (plc l d) false then some v else f s) (e:=fun _=>some (-1)) (ok.sml x hx).2.2.1 (fun k s v=>by
    simp only [slices_IndexFunc_string.l2]
    congr 1
    refine bind_at2 (fun d hat hdm=>?_)
    unfold workers_ordered_1.f
    rw [workAt_prog (by omega) ok.srt]
    simp only [Option.bind_some]
    rw [at_getD (by rw [hd]; exact plc_lt ok.srt (ok.all x hx d hdm))]
    rfl) (),findLoop x.After 0]
  have e2:=findIdx_neg (c:=fun d=>!done.getD (plc l d) false) x.After
  simp only [Option.bind_some,Option.some.injEq]
  cases hfi:x.After.findIdx? (fun d=>!done.getD (plc l d) false) with
  | none =>
    rw [hfi] at e2
    simp only at e2 ⊢
    cases ha:x.After.any (fun d=>!done.getD (plc l d) false)
    · rfl
    · rw [ha] at e2
      exact absurd e2 (by decide)
  | some n =>
    rw [hfi] at e2
    simp only at e2 ⊢
    cases ha:x.After.any (fun d=>!done.getD (plc l d) false)
    · rw [ha] at e2
      have:=of_decide_eq_true (show decide ((0:Int)+n<0)=true from e2)
      omega
    · exact decide_eq_true (by omega)
theorem pass_walk {l:List Work} (ok:OkW l) {back:List Work→List Bool→List Int→Bool→Option (List Int × Bool)}:∀ (d v k:Nat) (done:List Bool) (out:List Int) (more:Bool),v+d=l.length→InvO (gW l) l.length (done,out.length,more)→d<k →
    ∃ out':List Int,out'.length=(paS (gW l) (List.range' v d) (done,out.length,more)).2.1∧workers_ordered.l3 back k l done out more (v:Int)=back l (paS (gW l) (List.range' v d) (done,out.length,more)).1 out' (paS (gW l) (List.range' v d) (done,out.length,more)).2.2:=by
  intro d
  induction d with
  | zero =>
    intro v k done out more h1 hI h3
    obtain ⟨k,rfl⟩:∃ m,k=m+1:=⟨k - 1,by omega⟩
    refine ⟨out,rfl,?_⟩
    rw [workers_ordered.l3,decide_eq_false (by omega)]
    rfl
  | succ d ih =>
    intro v k done out more h1 hI h3
    have hlen:=ok.len
    obtain ⟨k,rfl⟩:∃ m,k=m+1:=⟨k - 1,by omega⟩
    have hv:v<l.length:=by omega
    have hdl:done.length=l.length:=hI.len
    have hw:w64 ((v:Int)+1)=((v+1:Nat):Int):=by rw [w64_id (by omega) (by omega)]; omega
    have hc:out.length≤l.length:=by
      have h1:=hI.cnt
      have h2:=count_le done
      simp only at h1
      omega
    have ht:((at? done (v:Int)).bind fun x2=>bif x2 then (some true) else ((slices_ContainsFunc_string.f l[v].After l done).bind fun y1=>some y1))=some (blk (gW l) done v):=by
      rw [at_getD (by omega),free_prog ok (List.getElem_mem hv) hdl]
      simp only [Option.bind_some]
      unfold blk
      rw [gW_at hv,List.any_map]
      cases done.getD v false <;> rfl
    have hst:=st_inv hI hv
    rw [workers_ordered.l3,decide_eq_true (by omega),at_nat hv]
    simp only [cond_true,Option.bind_some]
    rw [ht]
    simp only [Option.bind_some,List.range'_succ]
    have hpa:∀ s,paS (gW l) (v::List.range' (v+1) d) s=paS (gW l) (List.range' (v+1) d) (stS (gW l) s v):=fun s=>rfl
    rw [hpa]
    cases hb:blk (gW l) done v
    · have he:stS (gW l) (done,out.length,more) v=(done.set v true,(out++[(v:Int)]).length,true):=by
        unfold stS
        rw [hb]
        simp
      rw [he] at hst ⊢
      rw [at_getD (by omega)]
      simp only [cond_false,Option.bind_some]
      rw [guard?_true (room_of (by omega))]
      unfold workers_ordered.j4
      rw [hw,Int.toNat_natCast]
      exact ih (v+1) k _ _ true (by omega) hst (by omega)
    · have he:stS (gW l) (done,out.length,more) v=(done,out.length,more):=by
        unfold stS
        rw [hb]
        rfl
      rw [he]
      unfold workers_ordered.j4
      simp only [cond_true]
      rw [hw]
      exact ih (v+1) k _ _ more (by omega) hI (by omega)
theorem rounds {l:List Work} (ok:OkW l):∀ (m k:Nat) (done:List Bool) (out:List Int),InvO (gW l) l.length (done,out.length,true)→l.length - out.length≤m→m+2≤k →
    ∃ (out':List Int) (s:List Bool × Nat × Bool),workers_ordered.l2 workers_ordered.e1 k l done out true=workers_ordered.e1 l out'∧InvO (gW l) l.length s∧s.2.1=out'.length∧∀ i,i<l.length→blk (gW l) s.1 i=true:=by
  intro m
  induction m with
  | zero =>
    intro k done out hI h2 h3
    have hlen:=ok.len
    obtain ⟨k,rfl⟩:∃ m,k=m+2:=⟨k - 2,by omega⟩
    have hI0:InvO (gW l) l.length (done,out.length,false):=⟨hI.len,hI.cnt,hI.acc⟩
    obtain ⟨out',ho,e⟩:=pass_walk (back:=workers_ordered.l2 workers_ordered.e1 (k+1)) ok l.length 0 big done out false (by omega) hI0 (by unfold big; omega)
    rw [show ((0:Nat):Int)=0 from rfl] at e
    rw [workers_ordered.l2,cond_true,e]
    have hI':=pa_inv (List.range' 0 l.length) hI0 (fun i hi=>by have:=List.mem_range'_1.1 hi; omega)
    rcases pa_more (g:=gW l) (List.range' 0 l.length) (done,out.length,false) rfl with ⟨h4,h5⟩ | ⟨h4,h5⟩
    · have h6:=hI'.cnt
      have h7:=count_le (paS (gW l) (List.range' 0 l.length) (done,out.length,false)).1
      rw [hI'.len] at h7
      simp only at h5
      omega
    · rw [h4] at ho ⊢
      exact ⟨out',(done,out.length,false),by rw [workers_ordered.l2]; rfl,hI0,ho.symm,fun i hi=>h5 i (List.mem_range'_1.2 ⟨by omega,by omega⟩)⟩
  | succ m ih =>
    intro k done out hI h2 h3
    have hlen:=ok.len
    obtain ⟨k,rfl⟩:∃ m,k=m+2:=⟨k - 2,by omega⟩
    have hI0:InvO (gW l) l.length (done,out.length,false):=⟨hI.len,hI.cnt,hI.acc⟩
    obtain ⟨out',ho,e⟩:=pass_walk (back:=workers_ordered.l2 workers_ordered.e1 (k+1)) ok l.length 0 big done out false (by omega) hI0 (by unfold big; omega)
    rw [show ((0:Nat):Int)=0 from rfl] at e
    rw [workers_ordered.l2,cond_true,e]
    have hI':=pa_inv (List.range' 0 l.length) hI0 (fun i hi=>by have:=List.mem_range'_1.1 hi; omega)
    rcases pa_more (g:=gW l) (List.range' 0 l.length) (done,out.length,false) rfl with ⟨h4,h5⟩ | ⟨h4,h5⟩
    · rw [h4]
      simp only at h5
      exact ih (k+1) _ out' ⟨hI'.len,by simp only; rw [ho]; exact hI'.cnt,hI'.acc⟩ (by omega) (by omega)
    · rw [h4] at ho ⊢
      exact ⟨out',(done,out.length,false),by rw [workers_ordered.l2]; rfl,hI0,ho.symm,fun i hi=>h5 i (List.mem_range'_1.2 ⟨by omega,by omega⟩)⟩
theorem e2_prog {l:List Work} (ok:OkW l):((∀ i,i<l.length→¬ Pth (gW l) i i)→workers_CheckWorks.e2 l=some 0)∧((∃ i,i<l.length∧Pth (gW l) i i)→workers_CheckWorks.e2 l=some 17):=by
  have hlen:=ok.len
  have hI:InvO (gW l) l.length (List.replicate l.length false,([]:List Int).length,true):=by
    refine ⟨by simp,by simp [List.count_replicate],fun i hi=>?_⟩
    have hi:(List.replicate l.length false).getD i false=true:=hi
    rw [List.getD_eq_getElem?_getD,List.getElem?_replicate] at hi
    split at hi <;> cases hi
  obtain ⟨out',s,e,hI',ho,hc⟩:=rounds ok l.length big (List.replicate l.length false) [] hI (by simp) (by unfold big; omega)
  have hiff:=ord_iff (gW_lt ok) hI' hc
  rw [ho] at hiff
  unfold workers_CheckWorks.e2 workers_ordered.f
  rw [Int.toNat_natCast,guard?_true (by rw [decide_eq_true (by omega),room_of (by omega)]; rfl),e]
  unfold workers_ordered.e1
  simp only [Option.bind_some]
  refine ⟨fun h=>?_,fun ⟨i,hi,h⟩=>?_⟩
  · rw [beq_iff_eq.2 (show (out'.length:Int)=(l.length:Int) by have:=hiff.2 h; omega)]
    rfl
  · rw [beq_eq_false_iff_ne.2 (show (out'.length:Int)≠(l.length:Int) by
      intro hq
      exact hiff.1 (by omega) i hi h)]
    rfl
/-! the reference's search -/
theorem inner_walk {l:List Work} (ok:OkW l) {back:List Work→Int→List Bool→List Int→Option Bool} {i kk:Nat} (hi:i<l.length) (hk:kk<l.length):∀ (rest:List ByteArray) (k v:Nat) (seen:List Bool) (next:List Nat),l[kk].After.drop v=rest→v≤l[kk].After.length→InvL (gW l) l.length i seen next (rest.map (plc l)) (some kk)→next.length+(l.length - seen.count true)≤l.length+1→rest.length<k →
    (smithyardref9_loops.l3 back k l (i:Int) l[kk] seen (next.map (fun a:Nat=>(a:Int))) (v:Int)=some true∧Pth (gW l) i i) ∨
    ∃ (seen':List Bool) (next':List Nat),smithyardref9_loops.l3 back k l (i:Int) l[kk] seen (next.map (fun a:Nat=>(a:Int))) (v:Int)=back l (i:Int) seen' (next'.map (fun a:Nat=>(a:Int)))∧InvL (gW l) l.length i seen' next' [] (some kk)∧next'.length+(l.length - seen'.count true)=next.length+(l.length - seen.count true):=by
  intro rest
  have hlen:=ok.len
  have hx:=List.getElem_mem hk
  have hal:=(ok.sml _ hx).2.2.1
  have hall:=ok.all _ hx
  generalize l[kk]=x at *
  induction rest with
  | nil =>
    intro k v seen next h1 h2 hI hm h5
    obtain ⟨k,rfl⟩:∃ m,k=m+1:=⟨k - 1,by omega⟩
    have hv:x.After.length≤v:=List.drop_eq_nil_iff.1 h1
    refine .inr ⟨seen,next,?_,hI,rfl⟩
    rw [smithyardref9_loops.l3,decide_eq_false (by omega)]
    rfl
  | cons d rest ih =>
    intro k v seen next h1 h2 hI hm h5
    simp only [List.length_cons] at h5
    obtain ⟨k,rfl⟩:∃ m,k=m+1:=⟨k - 1,by omega⟩
    have hv:v<x.After.length:=by
      rcases Nat.lt_or_ge v x.After.length with h | h
      · exact h
      · rw [List.drop_eq_nil_of_le h] at h1; cases h1
    rw [List.drop_eq_getElem_cons hv] at h1
    injection h1 with q1 q2
    have hd:hasW l d=true:=hall d (by rw [← q1]; exact List.getElem_mem hv)
    have hp:=plc_lt ok.srt hd
    have hsl:=hI.len
    have hw:w64 ((v:Int)+1)=((v+1:Nat):Int):=by rw [w64_id (by omega) (by omega)]; omega
    rw [smithyardref9_loops.l3,decide_eq_true (by omega),at_nat hv,q1]
    simp only [cond_true,Option.bind_some]
    rw [workOf_ref (by omega) ok.srt,hd]
    simp only [Option.bind_some,cond_true]
    by_cases hpi:plc l d=i
    · subst hpi
      rw [beq_self_eq_true]
      exact .inl ⟨rfl,search_hit hI⟩
    · rw [beq_eq_false_iff_ne.2 (show ((plc l d:Nat):Int)≠(i:Int) by omega)]
      simp only [cond_false]
      rw [at_getD (by omega)]
      simp only [Option.bind_some,smithyardref9_loops.j4,hw,List.length_map]
      have hcl:=count_le seen
      cases hs:seen.getD (plc l d) false
      · simp only [Bool.not_false,cond_true]
        rw [guard?_true (room_of (by omega)),Int.toNat_natCast]
        have hn:=search_new hI hpi hp
        have hc1:=count_set1 seen (plc l d) (by omega) hs
        have hc2:=count_le (seen.set (plc l d) true)
        rw [List.length_set] at hc2
        have e1:next.map (fun a:Nat=>(a:Int))++[((plc l d:Nat):Int)]=(next++[plc l d]).map (fun a:Nat=>(a:Int)):=by simp
        rw [e1]
        rcases ih k (v+1) _ _ q2 (by omega) hn (by rw [List.length_append,List.length_singleton]; omega) (by omega) with h6 | ⟨s',n',h6,h7,h8⟩
        · exact .inl h6
        · refine .inr ⟨s',n',h6,h7,?_⟩
          rw [h8,List.length_append,List.length_singleton]
          omega
      · simp only [Bool.not_true,cond_false]
        exact ih k (v+1) _ _ q2 (by omega) (search_seen hI hpi hs) hm (by omega)
theorem outer_walk {l:List Work} (ok:OkW l) {i:Nat} (hi:i<l.length):∀ (m k:Nat) (seen:List Bool) (next:List Nat),InvL (gW l) l.length i seen next [] none→next.length+(l.length - seen.count true)≤m→m≤l.length+1→m<k →
    ∃ b,smithyardref9_loops.l2 smithyardref9_loops.e1 k l (i:Int) seen (next.map (fun a:Nat=>(a:Int)))=some b∧(b=true↔Pth (gW l) i i):=by
  intro m
  have hlen:=ok.len
  induction m with
  | zero =>
    intro k seen next hI h2 h3 h4
    obtain ⟨k,rfl⟩:∃ m,k=m+1:=⟨k - 1,by omega⟩
    have hn:next=[]:=List.eq_nil_of_length_eq_zero (by omega)
    subst hn
    exact ⟨false,rfl,(fun h=>by cases h),fun h=>absurd h (search_no hI)⟩
  | succ m ih =>
    intro k seen next hI h2 h3 h4
    obtain ⟨k,rfl⟩:∃ m,k=m+1:=⟨k - 1,by omega⟩
    cases next with
    | nil=>exact ⟨false,rfl,(fun h=>by cases h),fun h=>absurd h (search_no hI)⟩
    | cons a next =>
      have ha:a<l.length:=hI.lt a (by simp)
      simp only [List.length_cons] at h2
      have e0:at? ((a::next).map (fun a:Nat=>(a:Int))) 0=some (a:Int):=rfl
      have e1:((a::next).map (fun a:Nat=>(a:Int))).drop 1=next.map (fun a:Nat=>(a:Int)):=rfl
      rw [smithyardref9_loops.l2,decide_eq_true (by simp only [List.map_cons,List.length_cons]; omega),e0]
      simp only [cond_true,Option.bind_some]
      rw [guard?_true (by simp only [List.map_cons,List.length_cons,Bool.and_eq_true,decide_eq_true_eq]; omega),at_nat ha,e1]
      simp only [Option.bind_some]
      have hp:=search_pop hI
      rw [gW_at ha] at hp
      rcases inner_walk (back:=smithyardref9_loops.l2 smithyardref9_loops.e1 k) ok hi ha l[a].After big 0 seen next rfl (by omega) hp (by omega) (by have:=(ok.sml _ (List.getElem_mem ha)).2.2.1; unfold big; omega) with ⟨h6,h7⟩ | ⟨s',n',h6,h7,h8⟩
      · rw [show ((0:Nat):Int)=0 from rfl] at h6
        exact ⟨true,h6,(fun _=>h7),fun _=>rfl⟩
      · rw [show ((0:Nat):Int)=0 from rfl] at h6
        rw [h6]
        exact ih k s' n' (search_turn h7) (by omega) (by omega) (by omega)
theorem loops_ref {l:List Work} (ok:OkW l) {i:Nat} (hi:i<l.length):∃ b,smithyardref9_loops.f l (i:Int)=some b∧(b=true↔Pth (gW l) i i):=by
  have hlen:=ok.len
  unfold smithyardref9_loops.f
  rw [Int.toNat_natCast,guard?_true (by rw [decide_eq_true (by omega),room_of (by omega)]; rfl)]
  exact outer_walk ok hi (l.length+1) big (List.replicate l.length false) [i] (search_start hi) (by simp; omega) (by omega) (by unfold big; omega)
theorem e2_ref {l:List Work} (ok:OkW l):((∀ i,i<l.length→¬ Pth (gW l) i i)→smithyardref9_CheckWorks.e2 l=some 0)∧((∃ i,i<l.length∧Pth (gW l) i i)→smithyardref9_CheckWorks.e2 l=some 17):=by
  have hlen:=ok.len
  have main:∀ (d v k:Nat),v+d=l.length→d<k→((∀ i,v≤i→i<l.length→¬ Pth (gW l) i i)→smithyardref9_CheckWorks.l4 smithyardref9_CheckWorks.e3 k l (v:Int)=some 0)∧((∃ i,v≤i∧i<l.length∧Pth (gW l) i i)→smithyardref9_CheckWorks.l4 smithyardref9_CheckWorks.e3 k l (v:Int)=some 17):=by
    intro d
    induction d with
    | zero =>
      intro v k h1 h2
      obtain ⟨k,rfl⟩:∃ m,k=m+1:=⟨k - 1,by omega⟩
      rw [smithyardref9_CheckWorks.l4,decide_eq_false (by omega)]
      exact ⟨fun _=>rfl,fun ⟨i,h3,h4,_⟩=>by omega⟩
    | succ d ih =>
      intro v k h1 h2
      obtain ⟨k,rfl⟩:∃ m,k=m+1:=⟨k - 1,by omega⟩
      have hv:v<l.length:=by omega
      have hw:w64 ((v:Int)+1)=((v+1:Nat):Int):=by rw [w64_id (by omega) (by omega)]; omega
      obtain ⟨b,hb,hbi⟩:=loops_ref ok hv
      rw [smithyardref9_CheckWorks.l4,decide_eq_true (by omega),hb]
      simp only [cond_true,Option.bind_some,hw]
      obtain ⟨h3,h4⟩:=ih (v+1) k (by omega) (by omega)
      cases b
      · have hno:¬ Pth (gW l) v v:=fun h=>by have:=hbi.2 h; cases this
        refine ⟨fun h=>h3 (fun i hi hil=>h i (by omega) hil),fun ⟨i,hi,hil,hp⟩=>h4 ⟨i,?_,hil,hp⟩⟩
        rcases Nat.lt_or_ge v i with h | h
        · exact h
        · have:i=v:=by omega
          subst this
          exact absurd hp hno
      · exact ⟨fun h=>absurd (hbi.1 rfl) (h v (by omega) hv),fun _=>rfl⟩
  unfold smithyardref9_CheckWorks.e2
  obtain ⟨h3,h4⟩:=main l.length 0 big (by omega) (by unfold big; omega)
  exact ⟨fun h=>h3 (fun i _ hi=>h i hi),fun ⟨i,hi,hp⟩=>h4 ⟨i,by omega,hi,hp⟩⟩
theorem works_both {l:List Work} (hl:l.length≤2305843009213693952) (h:∀ x∈l,smallWork x):∃ r,workers_CheckWorks.f l=some r∧smithyardref9_CheckWorks.f l=some r:=by
  unfold workers_CheckWorks.f smithyardref9_CheckWorks.f
  cases hb:decide (200<(l.length:Int))
  · have hlen:l.length≤200:=by have:=of_decide_eq_false hb; omega
    simp only [cond_false]
    rw [works_prog (by omega) h,works_ref (by omega) h]
    rcases works_split l none with ⟨r,hr⟩ | ⟨h1,h2,_⟩
    · exact ⟨r,hr _,hr _⟩
    · rw [h1,h1,none_prog hl h h2,none_ref hl h h2]
      cases hla:lacks l
      · have ok:OkW l:=⟨hlen,h2,fun x hx d hd=>by
          have h3:=List.any_eq_false.1 hla x hx
          cases hq:hasW l d
          · exact absurd (List.any_eq_true.2 ⟨d,hd,by rw [hq]; rfl⟩) h3
          · rfl,h⟩
        simp only [cond_false]
        by_cases hp:∃ i,i<l.length∧Pth (gW l) i i
        · exact ⟨17,(e2_prog ok).2 hp,(e2_ref ok).2 hp⟩
        · have hn:∀ i,i<l.length→¬ Pth (gW l) i i:=fun i hi hq=>hp ⟨i,hi,hq⟩
          exact ⟨0,(e2_prog ok).1 hn,(e2_ref ok).1 hn⟩
      · exact ⟨9,rfl,rfl⟩
  · exact ⟨2,rfl,rfl⟩
end Go.Proofs.YteljhhgffmpgnaaDoor
