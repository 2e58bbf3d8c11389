/- Caches: what a find leaves, and that what was stored is found. -/
import Derived.Test.YtkjilepjblffeaaDoorPFol
set_option linter.unusedVariables false
set_option linter.unusedSimpArgs false
namespace Go.Proofs.YtkjilepjblffeaaDoor
open Go Go.Proofs.YtkjilepjblffeaaDoor.Kit
def LsdAt (c:Cache) (key:ByteArray) (t:Int):Prop:=∀ n∈c.Entries,n.Key=key→∀ r∈n.Refs,∃ b∈c.Blobs,b.Digest=r∧b.Used=t∧t+c.Lease≤b.Until
theorem search_done {c:Cache} (ok:OkCache c) {e:CacheEvent} (h:(searchS c e).1.Done=true):∃ x,x∈c.Entries∧x.Key=e.Key∧c.Entries[placeOf (fun x:Entry=>x.Key) c.Entries e.Key]? = some x∧missingS c x.Refs=[] ∧
    searchS c e=(yesA,⟨c.Room,c.Lease,touchL e.At c.Lease true true x.Refs c.Blobs,c.Entries.set (placeOf (fun x:Entry=>x.Key) c.Entries e.Key) ⟨x.Key,x.Refs,e.At⟩⟩):=by
  unfold searchS at h ⊢
  rcases getE_cases ok.es e.Key with ⟨g1,g2⟩ | ⟨x,g1,g2,g3,g4,g5,g6⟩
  · rw [g1] at h
    cases h
  · rw [g1] at h ⊢
    simp only at h ⊢
    cases hm:decide (0<((missingS c x.Refs).length:Int))
    · have:=of_decide_eq_false hm
      exact ⟨x,g4,g5,g6,List.eq_nil_of_length_eq_zero (by omega),by simp only [cond_false]⟩
    · rw [hm] at h
      cases h
theorem search_whole {c:Cache} (ok:OkCache c) {e:CacheEvent} (h:(searchS c e).1.Done=true):wholeB (searchS c e).2 e.Key=true∧LsdAt (searchS c e).2 e.Key e.At:=by
  obtain ⟨x,x1,x2,x3,x4,x5⟩:=search_done ok h
  rw [x5]
  have hlt:placeOf (fun x:Entry=>x.Key) c.Entries e.Key<c.Entries.length:=by
    rcases Nat.lt_or_ge (placeOf (fun x:Entry=>x.Key) c.Entries e.Key) c.Entries.length with h | h
    · exact h
    · rw [List.getElem?_eq_none h] at x3; cases x3
  constructor
  · unfold wholeB
    rw [List.any_eq_true]
    refine ⟨⟨x.Key,x.Refs,e.At⟩,List.mem_set hlt _,?_⟩
    rw [missing_touch,x4,x2,sEq_self]
    rfl
  · intro n hn hk r hr
    have hrefs:n.Refs=x.Refs:=by
      rcases mem_set_or hn with rfl | hn
      · rfl
      · rw [key_inj (key:=fun y:Entry=>y.Key) ok.es n hn x x1 (hk.trans x2.symm)]
    rw [hrefs] at hr
    have hb:=missing_nil.1 (show (missingS c x.Refs).isEmpty=true by rw [x4]; rfl) r hr
    obtain ⟨b,b1,b2⟩:=hasB_iff.1 hb
    refine ⟨touchB e.At c.Lease true true b,List.mem_map.2 ⟨b,b1,?_⟩,b2,rfl,?_⟩
    · rw [b2,memB_iff.2 hr]
      rfl
    · show e.At+c.Lease≤max2 b.Until (e.At+c.Lease)
      unfold max2
      split <;> omega
theorem search_of_whole {c:Cache} (ok:OkCache c) {e:CacheEvent} (h:wholeB c e.Key=true):(searchS c e).1.Done=true:=by
  unfold wholeB at h
  obtain ⟨y,y1,y2⟩:=List.any_eq_true.1 h
  rw [Bool.and_eq_true] at y2
  obtain ⟨y2,y3⟩:=y2
  unfold searchS
  rcases getE_cases ok.es e.Key with ⟨g1,g2⟩ | ⟨x,g1,g2,g3,g4,g5,g6⟩
  · rw [List.any_eq_true.2 ⟨y,y1,y2⟩] at g2
    cases g2
  · rw [g1]
    have:y=x:=key_inj (key:=fun y:Entry=>y.Key) ok.es y y1 x g4 ((sEq_iff.1 y2).trans g5.symm)
    subst this
    have hl:(missingS c y.Refs).length=0:=by simpa using y3
    simp only
    rw [decide_eq_false (by omega)]
    rfl
theorem store_done {c:Cache} (ok:OkCache c) {e:CacheEvent} (h:(storeS c e).1.Done=true):missingS c e.Digests=[]∧∃ es,storeS c e=(yesA,⟨c.Room,c.Lease,touchL e.At c.Lease true false e.Digests c.Blobs,es⟩)∧(⟨e.Key,e.Digests,e.At⟩:Entry)∈es:=by
  unfold storeS at h ⊢
  cases hm:decide (0<((missingS c e.Digests).length:Int))
  · have:=of_decide_eq_false hm
    refine ⟨List.eq_nil_of_length_eq_zero (by omega),?_⟩
    cases ha:c.Entries.any (fun x=>sEq x.Key e.Key)
    · exact ⟨_,rfl,(ins_perm _ _ _).mem_iff.2 (by simp)⟩
    · obtain ⟨y,hy,hym,hye,hyg⟩:=placeOf_get (key:=fun y:Entry=>y.Key) ok.es ha
      have hlt:placeOf (fun x:Entry=>x.Key) c.Entries e.Key<c.Entries.length:=by
        rcases Nat.lt_or_ge (placeOf (fun x:Entry=>x.Key) c.Entries e.Key) c.Entries.length with h | h
        · exact h
        · rw [List.getElem?_eq_none h] at hyg; cases hyg
      exact ⟨_,rfl,List.mem_set hlt _⟩
  · rw [hm] at h
    cases h
theorem store_whole {c:Cache} (ok:OkCache c) {e:CacheEvent} (h:(storeS c e).1.Done=true):wholeB (storeS c e).2 e.Key=true∧∃ n∈(storeS c e).2.Entries,n.Key=e.Key∧n.Refs=e.Digests:=by
  obtain ⟨h1,es,h2,h3⟩:=store_done ok h
  rw [h2]
  refine ⟨?_,⟨_,h3,rfl,rfl⟩⟩
  unfold wholeB
  rw [List.any_eq_true]
  refine ⟨_,h3,?_⟩
  rw [missing_touch,h1,sEq_self]
  rfl
def findEv (key:ByteArray) (t:Int):CacheEvent:=⟨7,t,ByteArray.empty,[],key,0⟩
theorem find_ev {key:ByteArray} {t:Int} (h1:isDigB key=true) (h2:0≤t) (h3:t≤1000000000):eventS (findEv key t)=some 0:=by
  have e1:strayS (findEv key t)=false:=by
    unfold strayS findEv
    simp only [fieldsS,show sEq ByteArray.empty ({ data:=#[] }:ByteArray)=true from sEq_self _]
    rfl
  have e2:badS (findEv key t)=false:=by
    unfold badS findEv
    simp only [h1]
    rfl
  unfold eventS
  rw [e1,e2]
  have e3:inR 0 1000000000 t=true:=by unfold inR; rw [decide_eq_true h2,decide_eq_true h3]; rfl
  show (bif !inR 1 8 7 then some 4 else bif false then some 3 else bif false then some 3 else (digestsS [] 200).bind fun y=>bif y != 0 then some y else bif (!inR 0 100000000 0||!inR 0 1000000000 t) then some 1 else some 0)=some 0
  rw [e3]
  rfl
theorem find_do {c:Cache} (ok:OkCache c) {key:ByteArray} {t:Int} (h1:isDigB key=true) (h2:0≤t) (h3:t≤1000000000) (hn:newestS c≤t):doS c (findEv key t)=some ((searchS c (findEv key t)).2,(searchS c (findEv key t)).1,0):=by
  unfold doS
  rw [ok.check,find_ev h1 h2 h3]
  simp only [Option.bind_some,bne_self_eq_false,cond_false]
  rw [decide_eq_false (show ¬ (findEv key t).At<newestS c by show ¬ t<newestS c; omega)]
  rfl
end Go.Proofs.YtkjilepjblffeaaDoor
