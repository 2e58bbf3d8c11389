/- TrialsAffectedByParts over plain data: what changes affect is what each of two parts of them affects, together. -/
import Derived.Test.YtkgbgapheigjcaaDoorPAffP
import Derived.Test.YtkgbgapheigjcaaDoorPSrt
import Derived.Test.YtkgbgapheigjcaaDoorPSame
import Derived.Test.YtkgbgapheigjcaaDoorPureSTrialsAffectedByParts
import Derived.KernelRfl
set_option linter.unusedVariables false
set_option linter.unusedSimpArgs false
namespace Go.Proofs.YtkgbgapheigjcaaDoor
open Go Go.Proofs.YtkgbgapheigjcaaDoor.Kit
theorem awake_eq:smithyardlaw10_awake.f=some true:=by kernel_rfl
theorem below_eq (x:Int) {n:Nat} (h:n≤4611686018427387904):∃ y:Int,smithyardref10_Below.f x ((n:Int)+1)=some y∧0≤y∧y≤n:=by
  have hpos:(0:Int)<(n:Int)+1:=by omega
  have h1:=Int.tmod_lt_of_pos x hpos
  have h2:=Int.lt_tmod_of_pos x hpos
  unfold smithyardref10_Below.f smithyardref10_Below.j1
  rw [guard?_true (by simp; omega)]
  by_cases hn:x.tmod ((n:Int)+1)<0
  · rw [decide_eq_true hn]
    refine ⟨_,rfl,?_⟩
    rw [w64_id (by omega) (by omega)]
    omega
  · rw [decide_eq_false hn]
    exact ⟨_,rfl,by omega,by omega⟩
theorem concat_two {a b:List ByteArray} (ha:a.length≤1048576) (hb:b.length≤1048576):slices_Concat_string.f [a,b]=some (a++b):=by
  unfold slices_Concat_string.f
  have h1:=rangeS_all (xs:=[a,b]) (L:=fun k s v=>slices_Concat_string.l4 slices_Concat_string.e1 k [a,b] s v) (body:=fun _ x2 s f=>bif decide ((w64 (s+(x2.length:Int)))<0) then none else f (w64 (s+(x2.length:Int)))) (e:=fun s=>slices_Concat_string.e1 [a,b] s) (by simp) (fun k s v=>rfl) 0
  rw [h1]
  simp only [rangeS]
  have e1:w64 ((0:Int)+(a.length:Int))=(a.length:Int):=by rw [w64_id (by omega) (by omega)]; omega
  have e2:w64 ((a.length:Int)+(b.length:Int))=((a.length+b.length:Nat):Int):=by rw [w64_id (by omega) (by omega)]; omega
  rw [e1,e2,decide_eq_false (by omega),decide_eq_false (by omega)]
  simp only [cond_false]
  unfold slices_Concat_string.e1 slices_Grow_string.f
  rw [guard?_true (by
    rw [decide_eq_true (by omega:(0:Int)≤((a.length+b.length:Nat):Int)),room_of (by rw [Int.toNat_natCast]; omega)]
    rfl)]
  simp only [Option.bind_some]
  have h2:=rangeS_all (xs:=[a,b]) (L:=fun k s v=>slices_Concat_string.l3 slices_Concat_string.e2 k [a,b] s v) (body:=fun _ x1 s f=>guard? (room s.length x1.length 16) (f (s++x1))) (e:=fun s=>some s) (by simp) (fun k s v=>by
    simp only [slices_Concat_string.l3,slices_Concat_string.e2]) []
  rw [h2]
  simp only [rangeS]
  rw [guard?_true (room_of (by simp; omega)),guard?_true (room_of (by simp; omega))]
  simp
theorem TrialsAffectedByParts_pure:TrialsAffectedByParts_Pure:=by
  intro l c k ⟨hl,hll⟩ ⟨hc,hcc⟩ hk
  simp only [reachBytes] at hl hc
  have hlen:∀ x∈l,x.Paths.length≤2305843009213693952∧x.Looked.length≤2305843009213693952:=fun x hx=>by
    obtain ⟨_,⟨h2,_⟩,h4,_⟩:=hll x hx
    simp only [reachBytes] at h2 h4
    omega
  have hA:∀ m:List TreeChange,m.length≤4611686018427387904→trials_Affected.f l m=affS l m:=fun m hm=>affected_prog' (by omega) hlen hm
  unfold smithyardlaw10_TrialsAffectedByParts.f
  rw [hA c (by omega),awake_eq]
  obtain ⟨r1,h1⟩:=crS_some' l
  obtain ⟨r2,h2⟩:=ccS_some' c
  have hX:∀ m r,ccS m=some r→affS l m=bif r1 != 0 then some ([],r1) else bif r != 0 then some ([],r) else some ((l.filter (affB m)).map (fun x=>x.Test),0):=fun m r hm=>by
    unfold affS
    rw [h1,hm]
    rfl
  rw [hX c r2 h2]
  by_cases e1:r1=0
  · subst e1
    simp only [bne_self_eq_false,cond_false] at hX ⊢
    by_cases e2:r2=0
    · subst e2
      simp only [bne_self_eq_false,cond_false,Option.bind_some]
      rw [w64_id (n:=(c.length:Int)+1) (by omega) (by omega)]
      obtain ⟨y,hy,y0,y1⟩:=below_eq k (n:=c.length) (by omega)
      rw [hy]
      simp only [Option.bind_some]
      rw [decide_eq_true y0,decide_eq_true y1]
      simp only [Bool.and_self,guard?,cond_true]
      have ht:=cc_part h2 (List.take_sublist y.toNat c)
      have hd:=cc_part h2 (List.drop_sublist y.toNat c)
      have hs:=cr_small h1
      have hs1:=hs.1
      rw [hA _ (by simp; omega),hA _ (by simp; omega),hX _ 0 ht,hX _ 0 hd]
      simp only [bne_self_eq_false,cond_false,Option.bind_some]
      have la:∀ m,((l.filter (affB m)).map (fun x=>x.Test)).length≤l.length:=fun m=>by simpa using List.length_filter_le _ _
      have l1:=la (c.take y.toNat)
      have l2:=la (c.drop y.toNat)
      rw [concat_two (by omega) (by omega)]
      simp only [Option.bind_some]
      have hm:∀ x,x∈(l.filter (affB (c.take y.toNat))).map (fun x=>x.Test)++(l.filter (affB (c.drop y.toNat))).map (fun x=>x.Test)↔x∈(l.filter (affB c)).map (fun x=>x.Test):=fun x=>by
        have e:∀ r,affB c r=(affB (c.take y.toNat) r||affB (c.drop y.toNat) r):=fun r=>by
          rw [affB_eq,affB_eq,affB_eq,← List.any_append,List.take_append_drop]
        simp only [List.mem_append,List.mem_map,List.mem_filter,e,Bool.or_eq_true]
        constructor
        · rintro (⟨r,⟨hr,ha⟩,rfl⟩ | ⟨r,⟨hr,ha⟩,rfl⟩)
          · exact ⟨r,⟨hr,Or.inl ha⟩,rfl⟩
          · exact ⟨r,⟨hr,Or.inr ha⟩,rfl⟩
        · rintro ⟨r,⟨hr,ha | ha⟩,rfl⟩
          · exact Or.inl ⟨r,⟨hr,ha⟩,rfl⟩
          · exact Or.inr ⟨r,⟨hr,ha⟩,rfl⟩
      have hsort:((l.filter (affB c)).map (fun x=>x.Test)).Pairwise (fun a b=>sLt a b=true):=by
        rw [List.pairwise_map]
        exact (cr_sorted h1).sublist List.filter_sublist
      have key:=sort_compact hsort hm
      unfold slices_Sort_string.f
      rw [guard?_true (decide_eq_true (by rw [List.length_append]; omega))]
      simp only [Option.bind_some]
      unfold slices_Compact_string.f
      rw [guard?_true (decide_eq_true (by rw [List.length_map,List.length_mergeSort,List.length_map,List.length_append]; omega)),key]
      simp only [Option.bind_some]
      rw [slices_Equal_string_self (by have:=la c; omega)]
      rfl
    · have:(r2 != 0)=true:=by simpa using e2
      rw [this]
      simp only [cond_true,Option.bind_some,this]
      rfl
  · have:(r1 != 0)=true:=by simpa using e1
    rw [this]
    simp only [cond_true,Option.bind_some,this]
    rfl
end Go.Proofs.YtkgbgapheigjcaaDoor
