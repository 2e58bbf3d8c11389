/- Longest of any shards: both sides the same. -/
import Derived.Test.YtedkdnhhohcocaaDoorPShR
set_option linter.unusedVariables false
set_option linter.unusedSimpArgs false
namespace Go.Proofs.YtedkdnhhohcocaaDoor
open Go Go.Proofs.YtedkdnhhohcocaaDoor.Kit
def idxOf (t:Test) (s:ByteArray):Option Nat:=t.Cases.findIdx? (fun c=>sEq c.Name s)
def caseV (t:Test) (s:ByteArray):Int:=match idxOf t s with
  | some n=>(n:Int)
  | none => -1
theorem caseOf_prog {t:Test} (h:t.Cases.length≤4611686018427387904) (s:ByteArray):smithyardref10_caseOf.f t s=some (caseV t s):=by
  unfold smithyardref10_caseOf.f caseV idxOf
  rw [rangeS_all (S:=Unit) (L:=fun k _ v=>smithyardref10_caseOf.l2 smithyardref10_caseOf.e1 k t s v) (body:=fun v c s' f=>bif sEq c.Name s then some v else f s') (e:=fun _=>some (-1)) h (fun k s v=>by
    simp only [smithyardref10_caseOf.l2]
    rfl) (),findLoop t.Cases 0]
  cases t.Cases.findIdx? (fun c=>sEq c.Name s) with
  | none=>rfl
  | some n=>simp
theorem idx_none {t:Test} {s:ByteArray} (h:idxOf t s=none):mhas (tookM t.Cases []) s=false:=by
  unfold idxOf at h
  rw [List.findIdx?_eq_none_iff] at h
  unfold mhas
  rw [took_other t.Cases [] s (fun c hc e=>by have:=h c hc; rw [e,sEq_self] at this; cases this)]
  rfl
theorem idx_some {t:Test} (ok:OkT t) {s:ByteArray} {i:Nat} (h:idxOf t s=some i):∃ hi:i<t.Cases.length,t.Cases[i].Name=s∧mhas (tookM t.Cases []) s=true∧mgetD (tookM t.Cases []) s 0=t.Cases[i].Seconds:=by
  unfold idxOf at h
  obtain ⟨h1,h2,_⟩:=List.findIdx?_eq_some_iff_getElem.1 h
  have e:=sEq_iff.1 h2
  obtain ⟨a,b⟩:=secM_at ok (List.getElem_mem h1)
  rw [e] at a b
  exact ⟨h1,e,b,a⟩
theorem name_ne {t:Test} (ok:OkT t) {i j:Nat} (hi:i<t.Cases.length) (hj:j<t.Cases.length) (hne:i≠j):t.Cases[i].Name≠t.Cases[j].Name:=by
  have hp:=names_ne ok.srt
  rcases Nat.lt_or_gt_of_ne hne with h | h
  · exact List.pairwise_iff_getElem.1 hp i j hi hj h
  · exact fun e=>List.pairwise_iff_getElem.1 hp j i hj hi h e.symm
structure Rl (t:Test) (m:List (ByteArray × Bool)) (L:List Bool):Prop where
  len:L.length=t.Cases.length
  at_:∀ (i:Nat) (h:i<t.Cases.length),mget m t.Cases[i].Name=if L.getD i false=true then some true else none
  cnt:m.length=L.count true
theorem Rl.put {t:Test} (ok:OkT t) {m:List (ByteArray × Bool)} {L:List Bool} (h:Rl t m L) {i:Nat} (hi:i<t.Cases.length) (hL:L.getD i false=false):Rl t (mput m t.Cases[i].Name true) (L.set i true):=by
  have hiL:i<L.length:=by rw [h.len]; exact hi
  have hg:L[i]=false:=by
    rw [List.getD_eq_getElem?_getD,List.getElem?_eq_getElem hiL] at hL
    exact hL
  refine ⟨by rw [List.length_set]; exact h.len,fun j hj=>?_,?_⟩
  · rw [mget_put,List.getD_eq_getElem?_getD,List.getElem?_set]
    by_cases he:i=j
    · subst he
      rw [if_pos rfl,if_pos rfl,if_pos hiL]
      rfl
    · rw [if_neg (name_ne ok hi hj he),if_neg he,h.at_ j hj,List.getD_eq_getElem?_getD]
  · rw [put_len _ _ _ (by rw [h.at_ i hi,hL]; rfl),h.cnt,List.count_set hiL,hg]
    simp
theorem inner_both {t:Test} (ok:OkT t) {out:List (List ByteArray)} {most v44:Int} {E:Test→List (List ByteArray)→List (ByteArray × Int)→Int→Int→List (ByteArray × Bool)→Int→Option (Int × Int)} {E':Test→List (List ByteArray)→Int→Int→List Bool→Int→Option (Int × Int)} {names:List ByteArray} (hn:names.length≤4611686018427387904)
    (hE:∀ m L sum,Rl t m L→∃ r,E t out (tookM t.Cases []) most v44 m sum=some r∧E' t out most v44 L sum=some r) :
    ∀ (l:List ByteArray) (k k' v:Nat) (m:List (ByteArray × Bool)) (L:List Bool) (sum:Int),names.drop v=l→v≤names.length→Rl t m L→l.length<k→l.length<k' →
      ∃ r,trials_Longest.l5 E k t out (tookM t.Cases []) most v44 names m sum (v:Int)=some r∧smithyardref10_Longest.l4 E' k' t out most v44 names L sum (v:Int)=some r:=by
  intro l
  induction l with
  | nil =>
    intro k k' v m L sum h1 h2 hR h6 h7
    obtain ⟨k,rfl⟩:∃ m,k=m+1:=⟨k - 1,by omega⟩
    obtain ⟨k',rfl⟩:∃ m,k'=m+1:=⟨k' - 1,by omega⟩
    have hv:names.length≤v:=List.drop_eq_nil_iff.1 h1
    rw [trials_Longest.l5,smithyardref10_Longest.l4,decide_eq_false (by omega)]
    exact hE m L sum hR
  | cons x l ih =>
    intro k k' v m L sum h1 h2 hR h6 h7
    simp only [List.length_cons] at h6 h7
    obtain ⟨k,rfl⟩:∃ m,k=m+1:=⟨k - 1,by omega⟩
    obtain ⟨k',rfl⟩:∃ m,k'=m+1:=⟨k' - 1,by omega⟩
    have hv:v<names.length:=by
      rcases Nat.lt_or_ge v names.length with h | h
      · exact h
      · rw [List.drop_eq_nil_of_le h] at h1; cases h1
    rw [List.drop_eq_getElem_cons hv] at h1
    injection h1 with g1 g2
    have hl:=ok.len
    have hw:w64 ((v:Int)+1)=((v+1:Nat):Int):=by rw [w64_id (by omega) (by omega)]; omega
    rw [trials_Longest.l5,smithyardref10_Longest.l4,decide_eq_true (by omega),at_nat hv,g1]
    simp only [cond_true,Option.bind_some]
    rw [caseOf_prog (by omega)]
    simp only [Option.bind_some]
    cases hx:idxOf t x with
    | none =>
      have hcv:caseV t x = -1:=by unfold caseV; rw [hx]
      rw [idx_none hx,hcv]
      exact ⟨_,rfl,rfl⟩
    | some i =>
      obtain ⟨i1,i2,i3,i4⟩:=idx_some ok hx
      have hiL:i<L.length:=by rw [hR.len]; exact i1
      have e0:caseV t x=((i:Nat):Int):=by unfold caseV; rw [hx]
      have hgd:L.getD i false=L[i]:=by rw [List.getD_eq_getElem?_getD,List.getElem?_eq_getElem hiL]; rfl
      have hat:=hR.at_ i i1
      rw [i2] at hat
      simp only [i3,Bool.not_true,cond_false]
      rw [e0,decide_eq_false (by omega),at_nat hiL,at_nat i1]
      simp only [cond_false,Option.bind_some]
      cases hb:L[i]
      · rw [hgd,hb] at hat
        have e1:mgetD m x false=false:=by unfold mgetD; rw [hat]; rfl
        rw [e1,i4,hw,Int.toNat_natCast]
        simp only [cond_false]
        have:=hR.put ok i1 (by rw [hgd,hb])
        rw [i2] at this
        exact ih k k' (v+1) _ _ _ g2 (by omega) this (by omega) (by omega)
      · rw [hgd,hb] at hat
        have e1:mgetD m x false=true:=by unfold mgetD; rw [hat]; rfl
        rw [e1]
        exact ⟨_,rfl,rfl⟩
theorem contains_false {L:List Bool} (h:L.length≤4611686018427387904):slices_Contains_bool.f L false=some (decide (L.count true<L.length)):=by
  unfold slices_Contains_bool.f slices_Index_bool.f
  rw [rangeS_all (S:=Unit) (L:=fun k _ v=>slices_Index_bool.l2 slices_Index_bool.e1 k L false v) (body:=fun v x s f=>bif false == x then some v else f s) (e:=fun _=>some (-1)) h (fun k s v=>by
    simp only [slices_Index_bool.l2]
    rfl) (),findLoop L 0]
  simp only [Option.bind_some,Option.some.injEq]
  have hle:=List.count_le_length (a:=true) (l:=L)
  cases hf:L.findIdx? (fun x=>false == x) with
  | none =>
    rw [List.findIdx?_eq_none_iff] at hf
    have:L.count true=L.length:=List.count_eq_length.2 (fun b hb=>by have:=hf b hb; cases b <;> simp_all)
    show decide ((0:Int) ≤ -1)=_
    exact (show decide ((0:Int) ≤ -1)=false from rfl).trans (decide_eq_false (by omega)).symm
  | some n =>
    obtain ⟨h1,h2,_⟩:=List.findIdx?_eq_some_iff_getElem.1 hf
    have hne:L.count true≠L.length:=fun e=>by
      have:=List.count_eq_length.1 e _ (List.getElem_mem h1)
      rw [← this] at h2
      cases h2
    show decide ((0:Int)≤0+(n:Int))=_
    exact (decide_eq_true (by omega)).trans (decide_eq_true (show L.count true<L.length by omega)).symm
theorem outer_both {t:Test} (ok:OkT t) {out:List (List ByteArray)} (ho:out.length≤100) (hsz:∀ x∈out,x.length≤4611686018427387904) :
    ∀ (l:List (List ByteArray)) (k k' v:Nat) (m:List (ByteArray × Bool)) (L:List Bool) (most:Int),out.drop v=l→v≤out.length→Rl t m L→l.length<k→l.length<k' →
      ∃ r,trials_Longest.l3 trials_Longest.e2 k t out (tookM t.Cases []) m most (v:Int)=some r∧smithyardref10_Longest.l2 smithyardref10_Longest.e1 k' t out L most (v:Int)=some r:=by
  intro l
  induction l with
  | nil =>
    intro k k' v m L most h1 h2 hR h6 h7
    obtain ⟨k,rfl⟩:∃ m,k=m+1:=⟨k - 1,by omega⟩
    obtain ⟨k',rfl⟩:∃ m,k'=m+1:=⟨k' - 1,by omega⟩
    have hv:out.length≤v:=List.drop_eq_nil_iff.1 h1
    have hl:=ok.len
    rw [trials_Longest.l3,smithyardref10_Longest.l2,decide_eq_false (by omega)]
    simp only [cond_false]
    unfold trials_Longest.e2 smithyardref10_Longest.e1
    rw [contains_false (by rw [hR.len]; omega),hR.cnt,hR.len]
    simp only [Option.bind_some]
    have:decide (((L.count true:Nat):Int)<(t.Cases.length:Int))=decide (L.count true<t.Cases.length):=by simp
    rw [this]
    cases decide (L.count true<t.Cases.length) <;> exact ⟨_,rfl,rfl⟩
  | cons x l ih =>
    intro k k' v m L most h1 h2 hR h6 h7
    simp only [List.length_cons] at h6 h7
    obtain ⟨k,rfl⟩:∃ m,k=m+1:=⟨k - 1,by omega⟩
    obtain ⟨k',rfl⟩:∃ m,k'=m+1:=⟨k' - 1,by omega⟩
    have hv:v<out.length:=by
      rcases Nat.lt_or_ge v out.length with h | h
      · exact h
      · rw [List.drop_eq_nil_of_le h] at h1; cases h1
    rw [List.drop_eq_getElem_cons hv] at h1
    injection h1 with g1 g2
    have hm:=List.getElem_mem hv
    rw [g1] at hm
    have hw:w64 ((v:Int)+1)=((v+1:Nat):Int):=by rw [w64_id (by omega) (by omega)]; omega
    rw [trials_Longest.l3,smithyardref10_Longest.l2,decide_eq_true (by omega),at_nat hv,g1]
    simp only [cond_true,Option.bind_some]
    have hs:=hsz x hm
    have:=inner_both ok (out:=out) (most:=most) (v44:=(v:Int)) (E:=trials_Longest.e4 (trials_Longest.l3 trials_Longest.e2 k)) (E':=smithyardref10_Longest.e3 (smithyardref10_Longest.l2 smithyardref10_Longest.e1 k')) hs (fun m L sum hR=>by
      unfold trials_Longest.e4 smithyardref10_Longest.e3
      rw [hw]
      exact ih k k' (v+1) m L _ g2 (by omega) hR (by omega) (by omega)) x big big 0 m L 0 rfl (by omega) hR (by unfold big; omega) (by unfold big; omega)
    rw [show ((0:Nat):Int)=0 from rfl] at this
    exact this
theorem longest_both {t:Test} (h:smallT t) (hnm:t.Name.size<4294967281) {out:List (List ByteArray)} (hsz:∀ x∈out,x.length≤4611686018427387904):∃ r,trials_Longest.f t out=some r∧smithyardref10_Longest.f t out=some r:=by
  unfold trials_Longest.f smithyardref10_Longest.f
  rw [tst_prog h,tst_ref h hnm]
  obtain ⟨f,hf⟩:=tst_some t
  rw [hf]
  simp only [Option.bind_some]
  cases h0:f != 0
  · have hz:f=0:=by simpa using h0
    subst hz
    have ok:=tst_ok hf
    have hl:=ok.len
    simp only [cond_false]
    cases h1:decide (100<(out.length:Int))
    · have ho:out.length≤100:=by have:=of_decide_eq_false h1; omega
      simp only [cond_false]
      rw [rangeS_all (xs:=t.Cases) (L:=fun k m v=>trials_Longest.l6 trials_Longest.e1 k t out m v) (body:=fun _ c m f=>f (mput m c.Name c.Seconds)) (e:=fun m=>trials_Longest.e1 t out m) h.len (fun k m v=>by
        simp only [trials_Longest.l6]) [],fold_rng]
      show ∃ r,trials_Longest.e1 t out (tookM t.Cases [])=some r∧_
      unfold trials_Longest.e1
      rw [guard?_true (by rw [decide_eq_true (by omega),room_of (by rw [Int.toNat_natCast]; omega)]; rfl),Int.toNat_natCast]
      have hR:Rl t [] (List.replicate t.Cases.length false):=⟨by simp,fun i hi=>by
        rw [List.getD_eq_getElem?_getD,List.getElem?_replicate,if_pos hi]
        rfl,by rw [List.count_replicate]; rfl⟩
      have e:=outer_both ok ho hsz out big big 0 [] (List.replicate t.Cases.length false) 0 rfl (by omega) hR (by unfold big; omega) (by unfold big; omega)
      rw [show ((0:Nat):Int)=0 from rfl] at e
      exact e
    · exact ⟨_,rfl,rfl⟩
  · exact ⟨_,rfl,rfl⟩
end Go.Proofs.YtedkdnhhohcocaaDoor
