/- Words of our own: the keys of a map of the call's own, sorted by the library. -/
import Derived.Test.YtacmmbpamfefbaaDoorKitY
import Derived.Sort.KeysCollected
import Derived.Laws.AppendOwn
set_option linter.unusedVariables false
namespace Go.Proofs.YtacmmbpamfefbaaDoor.Kit
open Go Go.RowKit Go.Sort Go.Maps
open Go.WideElems (rd rg pl)

/-! ### 73. The keys of a map -/
theorem All2.len {α β:Type} {R:α→β→Prop} {l:List α} {m:List β} (h:All2 R l m):l.length=m.length:=by
  induction h with
  | nil=>rfl
  | cons _ _ ih=>simp [ih]
theorem All2.map_eq {α β γ:Type} {R:α→β→Prop} {f:α→γ} {g:β→γ} {l:List α} {m:List β} (h:All2 R l m) (hf:∀ a b,b∈m→R a b→f a=g b):l.map f=m.map g:=by
  induction h with
  | nil=>rfl
  | cons h1 _ ih =>
    rw [List.map_cons,List.map_cons,hf _ _ (by simp) h1,ih (fun a b hb=>hf a b (by simp [hb]))]
theorem All2.mem {α β:Type} {R:α→β→Prop} {l:List α} {m:List β} (h:All2 R l m) {a:α} (ha:a∈l):∃ b∈m,R a b:=by
  induction h with
  | nil=>cases ha
  | cons h1 _ ih =>
    rcases List.mem_cons.1 ha with rfl | ha
    · exact ⟨_,by simp,h1⟩
    · obtain ⟨b,hb,hr⟩:=ih ha
      exact ⟨b,by simp [hb],hr⟩
def anyR (_:Value):Option (DataW Unit × List MemPlace):=some (.nil,[])
theorem owns_map {P:Program} {k:TypeId} {ν:Type} {kd:Kd ν} {ag:Bool} {H:Hp} {w:World} {b clock:Nat} {es:Array MapEntry} {m:List (ByteArray × ν)} (hb:w.heap[b]? = some (.map es clock)) (s:Stm es clock)
    (h:MRep Value.string kd ag H es.toList m) (hk:P.underlying k=some .string) (h1:∀ p∈m,p.1.size≤maxLen) (h2:(m.map Prod.fst).Nodup) (h3:m.length≤maxLen) :
    ∃ D:DataW Unit,w.ownsMap P k anyR b m.length D∧Maps.size D=m.length∧(strKeys D).Perm (m.map fun p=>p.1.data.toList):=by
  have hlen:es.size=m.length:=by simpa using h.len
  have hkeys:es.toList.map (·.key)=m.map (fun p=>Value.string p.1):=h.map_eq fun a q _ hr=>hr.1
  have hkey:∀ (e:MapEntry) (q:ByteArray × ν),q∈m→e.key=Value.string q.1→keyOf P k e.key=some (.string q.1.data.toList):=fun e q hq he=>by
    rw [he]
    simp [keyOf,hk,mapKey,h1 q hq]
  have hrd:∀ e∈es.toList,∃ y,rd P k anyR e=some y:=fun e he=>by
    obtain ⟨q,hq,hr⟩:=h.mem he
    exact ⟨(.string q.1.data.toList,.nil),by simp [rd,hkey e q hq hr.1,anyR]⟩
  have hrg:es.toList.map (rg P k anyR)=m.map (fun p=>((.string p.1.data.toList,.nil):Lit × DataW Unit)):=h.map_eq fun e q hq hr=>by simp [rg,rd,hkey e q hq hr.1,anyR]
  have hnd:(es.toList.map (·.key)).Nodup:=by
    rw [hkeys,show m.map (fun p=>Value.string p.1)=(m.map Prod.fst).map Value.string by rw [List.map_map]; rfl]
    exact List.pairwise_map.2 (h2.imp fun {a b} hne he=>hne (by injection he))
  refine ⟨.map ((es.toList.map (rg P k anyR)).foldr DataW.insert []),⟨es,clock,hb,⟨by omega,⟨s.1,s.2,hnd⟩,hrd⟩,by omega,rfl⟩,?_,?_⟩
  · rw [Maps.size_eq,(Go.WideShapes.sorted_perm _).length_eq,List.length_map,Array.length_toList,hlen]
  · have hp:=(Go.WideShapes.sorted_perm (es.toList.map (rg P k anyR))).map (fun p:Lit × DataW Unit=>strOf p.1)
    refine hp.trans ?_
    rw [hrg,List.map_map]
    exact List.Perm.refl _
theorem keys_calls {P:Program} {n nI:FuncId} {t:TypeId} {g:Nat} {H:Hp} {w0:World} {cs:List Ch}
    (hC:∀ (mb:Option Nat) (W:World),Calls P n #[.map mb] W fun e w'=>e=.returned (.func (.func nI) #[] #[.pointer (some ⟨W.heap.size,0,none⟩)])∧w'=W.alloc (.cells #[.map mb] t)) :
    CallsH P n #[.map (some g)] H w0 cs (fun v H' cs'=>∃ r,H=H'∧v=.func (.func nI) #[] #[.pointer (some ⟨r,0,none⟩)]∧some (r,.cells #[.map (some g)] t (0,0))::cs=cs'):=by
  intro w hh
  refine (hC (some g) w).mono ?_
  rintro e w' ⟨rfl,rfl⟩
  exact ⟨_,rfl,H,_,Le.refl H,hh.push (Ext.push w _) rfl (heap_alloc_new w _),w.heap.size,rfl,rfl,rfl⟩
theorem heap_below {H:Hp} {w0 w w':World} {cs:List Ch} {g:Nat} {o:Obj} (hh:Heap H w0 w cs) (hx:Below w.heap.size w w') (hg:w.heap.size≤g) (hb:w'.heap[g]? = some o):Heap H w0 w' (some (g,o)::cs):=by
  have hE:Ext w w':=⟨hx.os,hx.tape,hx.output,hx.size,hx.block⟩
  have lt:∀ (i:Nat) (q:Nat × Obj),cs[i]? = some (some q)→q.1<w.heap.size:=fun i q hq=>(Array.getElem?_eq_some_iff.1 (hh.own i q hq).2.2).1
  have h2:=hh.later hE
  refine ⟨h2.ext,h2.sub,fun i q hq=>?_,fun i j q r hq hr hne=>?_⟩
  · cases i with
    | zero =>
      simp at hq
      subst hq
      refine ⟨Nat.le_trans hh.ext.size hg,?_,hb⟩
      cases hH:H g with
      | none=>rfl
      | some o' =>
        have:=(Array.getElem?_eq_some_iff.1 (hh.sub _ _ hH)).1
        omega
    | succ i =>
      simp at hq
      exact h2.own i q hq
  · cases i with
    | zero =>
      simp at hq
      subst hq
      cases j with
      | zero=>exact absurd rfl hne
      | succ j =>
        simp at hr
        have:=lt j r hr
        simp only
        omega
    | succ i =>
      simp at hq
      cases j with
      | zero =>
        simp at hr
        subst hr
        have:=lt i q hq
        simp only
        omega
      | succ j =>
        simp at hr
        exact h2.dif i j q r hq hr (fun e=>hne (by rw [e]))
theorem sorted_calls {P:Program} {n nI:FuncId} {k t e:TypeId} {g r kB kM:Nat} {ν:Type} {kd:Kd ν} {ag:Bool} {H:Hp} {w0:World} {cs:List Ch} {chM:Ch} {m:List (ByteArray × ν)} {ys:List ByteArray}
    (hk:P.underlying k=some .string)
    (hC:∀ (Bm b nn:Nat) (D0:DataW Unit) (w:World),Bm<w.heap.size→w.cell? ⟨Bm,0,none⟩=some (.map (some b))→w.ownsMap P k anyR b nn D0→Maps.size D0≤maxLen→Maps.size D0*16≤140737488355328 →
      Calls P n #[.func (.func nI) #[] #[.pointer (some ⟨Bm,0,none⟩)]] w fun x w'=>∃ (v:Value) (ss:List (List UInt8)),x=.returned v∧ss.Perm (strKeys D0) ∧
        w'.ownsRow w.heap.size e 1 v ss.length ((ss.mergeSort (fun x y=>decide (x≤y))).map encStr)∧(v=.slice none 0 0↔ss=[])∧Below w.heap.size w w')
    (hB:cs[kB]? = some (some (r,.cells #[.map (some g)] t (0,0)))) (hM:cs[kM]? = some chM) (hm:MpOwn Value.string kd ag H g m chM) (hy:keysB m=some ys) :
    CallsH P n #[.func (.func nI) #[] #[.pointer (some ⟨r,0,none⟩)]] H w0 cs (fun v H' cs'=>∃ (A:Option Addr) (c:Nat) (ch:Ch),H=H'∧v=.slice A ys.length c∧ch::cs=cs'∧SlOwn Kd.string e H' A c ys ch):=by
  intro w hh
  obtain ⟨es,clock,rfl,s1,s2⟩:=hm
  obtain ⟨hg,hy⟩:=guard?_some hy
  have hy:some (sortB (m.map Prod.fst))=some ys:=hy
  obtain rfl:=Option.some.inj hy
  simp only [Bool.and_eq_true,decide_eq_true_eq,List.all_eq_true] at hg
  obtain ⟨g1,g2,g3⟩:=hg
  have hmax:maxLen=9223372036854775807:=rfl
  have hbB:=hh.chin kB hB
  obtain ⟨D,d1,d2,d3⟩:=owns_map (P:=P) (k:=k) (hh.chin kM hM) s1 s2 hk (fun p hp=>by have:=g2 p hp; omega) g3 (by omega)
  refine (hC r g m.length D w (Array.getElem?_eq_some_iff.1 hbB).1 ?_ d1 (by omega) (by omega)).mono ?_
  · exact blk_cell hbB rfl
  rintro x w' ⟨v,ss,rfl,hS,hrow,hnil,hx⟩
  have hss:(ss.mergeSort fun x y=>decide (x≤y)).map (fun l=>(⟨l.toArray⟩:ByteArray))=sortB (m.map Prod.fst):=by
    unfold sortB
    rw [mergeSort_of_perm (hS.trans d3),List.map_map]
    rfl
  have hlen:(sortB (m.map Prod.fst)).length=ss.length:=by rw [← hss]; simp
  rcases hrow.2 with ⟨rfl,hz⟩ | ⟨gb,cap,cur,rfl,hbase,hgb,r1,r2,r3,r4⟩
  · have hE:Ext w w':=⟨hx.os,hx.tape,hx.output,hx.size,hx.block⟩
    exact ⟨_,rfl,H,_,Le.refl H,(hh.later hE).noneCh,none,0,none,rfl,by rw [hlen,hz],rfl,.inl ⟨List.eq_nil_of_length_eq_zero (by omega),rfl,rfl⟩⟩
  · have e1:(Kd.string).sz=1:=rfl
    refine ⟨_,rfl,H,_,Le.refl H,heap_below hh hx hbase hgb,_,cap,_,rfl,by rw [hlen],rfl,.inr ⟨gb,0,cur,rfl,rfl,by omega,r2,by rw [e1]; omega,fun i x hx=>?_⟩⟩
    rw [← hss] at hx
    obtain ⟨hi,hxe⟩:=List.getElem?_eq_some_iff.1 hx
    rw [List.length_map] at hi
    refine ⟨[.string x],rfl,fun j v hv=>?_⟩
    have hj:j=0:=by
      cases j with
      | zero=>rfl
      | succ j=>simp at hv
    subst hj
    simp at hv
    subst hv
    rw [e1,Nat.mul_one,Nat.add_zero,Nat.zero_add]
    have h5:(cur.toList.take (ss.length*1))[i]? = some (.string x):=by
      rw [r4,List.getElem?_map,List.getElem?_eq_getElem hi]
      rw [List.getElem_map] at hxe
      simp [encStr,hxe]
    rw [List.getElem?_take] at h5
    split at h5
    · simpa using h5
    · cases h5
end Go.Proofs.YtacmmbpamfefbaaDoor.Kit
