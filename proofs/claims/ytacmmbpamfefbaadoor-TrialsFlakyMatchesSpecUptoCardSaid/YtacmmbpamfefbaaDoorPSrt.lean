/- Lists of strings, sorted and made compact: what is left, in order. -/
import Derived.Test.YtacmmbpamfefbaaDoorPO
import Derived.Sort.Walk0
import Derived.Lib.SlicesCompact
set_option linter.unusedVariables false
set_option linter.unusedSimpArgs false
namespace Go.Proofs.YtacmmbpamfefbaaDoor
open Go Go.Proofs.YtacmmbpamfefbaaDoor.Kit
abbrev bl (a b:List UInt8):Prop:=Op.bytesLess a b=true
theorem le_dec (x y:List UInt8):decide (x≤y)=!Op.bytesLess y x:=by
  rw [Go.Proofs.bytesLess_eq]
  by_cases h:y<x
  · rw [decide_eq_true h,decide_eq_false (by simpa using h)]
    rfl
  · rw [decide_eq_false h,decide_eq_true (by simpa using h)]
    rfl
theorem strict_ext:∀ {l m:List (List UInt8)},l.Pairwise bl→m.Pairwise bl→(∀ x,x∈l↔x∈m)→l=m
  | [],[],_,_,_=>rfl
  | [],b::m,_,_,h=>by have:=(h b).2 (by simp); simp at this
  | a::l,[],_,_,h=>by have:=(h a).1 (by simp); simp at this
  | a::l,b::m,hl,hm,h=>by
    obtain ⟨hl1,hl2⟩:=List.pairwise_cons.1 hl
    obtain ⟨hm1,hm2⟩:=List.pairwise_cons.1 hm
    have irr:∀ {x y:List UInt8},bl x y→x≠y:=fun {x y} hxy he=>by
      subst he
      have:=bless_irrefl x
      unfold bl at hxy
      rw [hxy] at this
      cases this
    have hab:a=b:=by
      rcases List.mem_cons.1 ((h a).1 (by simp)) with he | he
      · exact he
      · rcases List.mem_cons.1 ((h b).2 (by simp)) with hf | hf
        · exact hf.symm
        · exact absurd rfl (irr (bless_trans _ _ _ (hm1 a he) (hl1 b hf)))
    subst hab
    congr 1
    refine strict_ext hl2 hm2 fun x=>⟨fun hx=>?_,fun hx=>?_⟩
    · rcases List.mem_cons.1 ((h x).1 (by simp [hx])) with he | he
      · exact absurd he.symm (irr (hl1 x hx))
      · exact he
    · rcases List.mem_cons.1 ((h x).2 (by simp [hx])) with he | he
      · exact absurd he.symm (irr (hm1 x hx))
      · exact he
theorem sorted_le (l:List (List UInt8)):(l.mergeSort fun x y=>decide (x≤y)).Pairwise (fun a b=>Op.bytesLess b a=false):=by
  have:=List.pairwise_mergeSort (le:=fun x y:List UInt8=>decide (x≤y)) (fun a b c h1 h2=>by
    rw [le_dec] at h1 h2 ⊢
    simp only [Bool.not_eq_true'] at h1 h2 ⊢
    cases hc:Op.bytesLess c a
    · rfl
    · by_cases hab:a=b
      · subst hab
        rw [hc] at h2
        cases h2
      · have hab':=bless_total b a h1 (fun e=>hab e.symm)
        have:=bless_trans _ _ _ hc hab'
        rw [this] at h2
        cases h2) (fun a b=>by
    rw [le_dec,le_dec]
    cases h1:Op.bytesLess b a
    · rfl
    · cases h2:Op.bytesLess a b
      · rfl
      · have:=bless_trans _ _ _ h1 h2
        rw [bless_irrefl] at this
        cases this) l
  refine this.imp fun {a b} h=>?_
  rw [le_dec] at h
  simpa using h
theorem compact_sorted {zs:List (List UInt8)} (hs:zs.Pairwise (fun a b=>Op.bytesLess b a=false)):(Lib.compact zs).Pairwise bl∧∀ x,x∈Lib.compact zs↔x∈zs:=by
  have get:∀ j (h:j<zs.length),zs.toArray[j]! = zs[j]:=fun j h=>by rw [getElem!_pos _ j (by simpa using h)]; simp
  have hle:∀ i j (hi:i<zs.length) (hj:j<zs.length),i≤j→Op.bytesLess zs[j] zs[i]=false:=fun i j hi hj hij=>by
    by_cases h:i=j
    · subst h
      exact bless_irrefl _
    · exact List.pairwise_iff_getElem.1 hs i j hi hj (by omega)
  refine ⟨?_,fun x=>⟨fun hx=>?_,fun hx=>?_⟩⟩
  · unfold Lib.compact Lib.compactUpTo
    rw [List.pairwise_map]
    have h0:((List.range zs.length).filter (Lib.keeps zs.toArray)).Pairwise (·<·):=List.Pairwise.filter _ List.pairwise_lt_range
    refine h0.imp_of_mem fun {i j} hi hj hij=>?_
    have hj':=List.mem_filter.1 hj
    have hi':=List.mem_filter.1 hi
    have hjn:j<zs.length:=by simpa using hj'.1
    have hin:i<zs.length:=by simpa using hi'.1
    rw [get i hin,get j hjn]
    have hk:=hj'.2
    unfold Lib.keeps at hk
    have hj1:j - 1<zs.length:=by omega
    have hne:zs[j]≠zs[j - 1]:=by
      rw [get j hjn,get (j - 1) hj1] at hk
      simp at hk
      rcases hk with hk | hk
      · omega
      · exact hk
    have h1:=bless_total _ _ (hle (j - 1) j hj1 hjn (by omega)) hne
    by_cases h:i=j - 1
    · subst h
      exact h1
    · have h2:=hle i (j - 1) hin hj1 (by omega)
      by_cases he:zs[i]=zs[j - 1]
      · rw [he]
        exact h1
      · exact bless_trans _ _ _ (bless_total _ _ h2 (fun e=>he e.symm)) h1
  · unfold Lib.compact Lib.compactUpTo at hx
    obtain ⟨j,hj,rfl⟩:=List.mem_map.1 hx
    have hjn:j<zs.length:=by simpa using (List.mem_filter.1 hj).1
    rw [get j hjn]
    exact List.getElem_mem hjn
  · obtain ⟨n,hn,hx⟩:=List.getElem_of_mem hx
    -- the least place
    have:∀ (n:Nat) (hn:n<zs.length),zs[n]=x→x∈Lib.compact zs:=by
      intro n
      induction n with
      | zero =>
        intro hn he
        unfold Lib.compact Lib.compactUpTo
        refine List.mem_map.2 ⟨0,List.mem_filter.2 ⟨by simpa using hn,by simp [Lib.keeps]⟩,?_⟩
        rw [get 0 hn]
        exact he
      | succ n ih =>
        intro hn he
        by_cases h:zs[n]=x
        · exact ih (by omega) h
        · unfold Lib.compact Lib.compactUpTo
          refine List.mem_map.2 ⟨n+1,List.mem_filter.2 ⟨by simpa using hn,?_⟩,?_⟩
          · unfold Lib.keeps
            rw [get (n+1) hn,show n+1 - 1=n from rfl,get n (by omega),he]
            simp
            exact fun e=>h e.symm
          · rw [get (n+1) hn]
            exact he
    exact this n hn hx
theorem sort_compact {l m:List ByteArray} (hm:m.Pairwise (fun a b=>sLt a b=true)) (h:∀ x,x∈l↔x∈m):(Lib.compact ((((l.map (fun s=>s.data.toList)).mergeSort fun x y=>decide (x≤y)).map fun l=>(⟨l.toArray⟩:ByteArray)).map (fun s=>s.data.toList))).map (fun l=>(⟨l.toArray⟩:ByteArray))=m:=by
  have e1:(((l.map (fun s=>s.data.toList)).mergeSort fun x y=>decide (x≤y)).map fun l=>(⟨l.toArray⟩:ByteArray)).map (fun s=>s.data.toList)=(l.map (fun s=>s.data.toList)).mergeSort fun x y=>decide (x≤y):=by
    rw [List.map_map]
    exact List.map_id _
  rw [e1]
  obtain ⟨h1,h2⟩:=compact_sorted (sorted_le (l.map (fun s=>s.data.toList)))
  have e2:Lib.compact ((l.map (fun s=>s.data.toList)).mergeSort fun x y=>decide (x≤y))=m.map (fun s=>s.data.toList):=by
    refine strict_ext h1 ?_ fun x=>?_
    · rw [List.pairwise_map]
      refine hm.imp fun {a b} hab=>?_
      rw [sLt_data] at hab
      exact hab
    · rw [h2,List.mem_mergeSort]
      simp only [List.mem_map]
      exact ⟨fun ⟨s,hs,he⟩=>⟨s,(h s).1 hs,he⟩,fun ⟨s,hs,he⟩=>⟨s,(h s).2 hs,he⟩⟩
  rw [e2,List.map_map]
  exact List.map_id _
end Go.Proofs.YtacmmbpamfefbaaDoor
