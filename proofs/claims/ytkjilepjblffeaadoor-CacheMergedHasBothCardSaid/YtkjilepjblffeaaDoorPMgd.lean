/- Caches: what two caches merged come to, the plain law of both sides. -/
import Derived.Test.YtkjilepjblffeaaDoorPRef7
set_option linter.unusedVariables false
set_option linter.unusedSimpArgs false
namespace Go.Proofs.YtkjilepjblffeaaDoor
open Go Go.Proofs.YtkjilepjblffeaaDoor.Kit
def insAt {α:Type} (l:List α) (p:Nat) (x:α):List α:=l.take p++[x]++l.drop p
theorem ins_len {α:Type} {l:List α} {p:Nat} {x:α}:(insAt l p x).length=l.length+1:=by
  unfold insAt
  simp
  omega
theorem ins_mem {α:Type} {l:List α} {p:Nat} {x y:α} (h:y∈insAt l p x):y=x∨y∈l:=by
  unfold insAt at h
  rcases List.mem_append.1 h with h | h
  · rcases List.mem_append.1 h with h | h
    · exact .inr (List.mem_of_mem_take h)
    · exact .inl (by simpa using h)
  · exact .inr (List.mem_of_mem_drop h)
theorem ins_srt {α:Type} {key:α→ByteArray} {l:List α} {x:α} (hs:l.Pairwise (fun a b=>sLt (key a) (key b)=true)) (hn:l.any (fun y=>sEq (key y) (key x))=false) :
    (insAt l (placeOf key l (key x)) x).Pairwise (fun a b=>sLt (key a) (key b)=true):=by
  have hp:=placeOf_le (key:=key) l (key x)
  have hA:∀ y∈l.take (placeOf key l (key x)),sLt (key y) (key x)=true:=by
    intro y hy
    obtain ⟨n,hn,e⟩:=List.mem_iff_getElem.1 hy
    rw [List.getElem_take] at e
    rw [← e]
    have:n<placeOf key l (key x):=by simp at hn; omega
    exact placeOf_lt l _ n (by omega) this
  have hB:∀ y∈l.drop (placeOf key l (key x)),sLt (key x) (key y)=true:=by
    intro y hy
    obtain ⟨n,hn',e⟩:=List.mem_iff_getElem.1 hy
    rw [List.getElem_drop] at e
    have hlt:placeOf key l (key x)+n<l.length:=by simp at hn'; omega
    have h1:=placeOf_ge (key:=key) l (key x) hs (placeOf key l (key x)+n) hlt (by omega)
    rw [e] at h1
    have hm:y∈l:=by rw [← e]; exact List.getElem_mem hlt
    have h2:sEq (key y) (key x)=false:=by
      cases hc:sEq (key y) (key x)
      · rfl
      · rw [List.any_eq_true.2 ⟨y,hm,hc⟩] at hn; cases hn
    exact sLt_total (by rw [h1,h2]; rfl)
  unfold insAt
  refine List.pairwise_append.2 ⟨List.pairwise_append.2 ⟨hs.sublist (List.take_sublist _ _),List.pairwise_singleton _ _,fun a ha b hb=>?_⟩,hs.sublist (List.drop_sublist _ _),fun a ha b hb=>?_⟩
  · simp only [List.mem_singleton] at hb
    subst hb
    exact hA a ha
  · rcases List.mem_append.1 ha with ha | ha
    · exact sLt_trans (hA a ha) (hB b hb)
    · simp only [List.mem_singleton] at ha
      subst ha
      exact hB b hb
theorem set_srt {α:Type} {key:α→ByteArray} {l:List α} {p:Nat} {y z:α} (hs:l.Pairwise (fun a b=>sLt (key a) (key b)=true)) (hy:l[p]? = some y) (hk:key z=key y) :
    (l.set p z).Pairwise (fun a b=>sLt (key a) (key b)=true):=by
  have e:(l.set p z).map key=l.map key:=by
    apply List.ext_getElem?
    intro n
    rw [List.getElem?_map,List.getElem?_map,List.getElem?_set]
    by_cases h:p=n
    · subst h
      have hl:p<l.length:=by
        rcases Nat.lt_or_ge p l.length with h | h
        · exact h
        · rw [List.getElem?_eq_none h] at hy; cases hy
      simp [hl,hy,hk]
      rw [List.getElem?_eq_getElem hl] at hy
      injection hy with hy
      rw [hy]
    · simp [h]
  have h1:(l.map key).Pairwise (fun a b=>sLt a b=true):=List.pairwise_map.2 hs
  rw [← e] at h1
  exact List.pairwise_map.1 h1
def mergeB (y x:Blob):Blob:=⟨y.Digest,y.Size,max2 y.Used x.Used,max2 y.Until x.Until,max2 y.Pins x.Pins⟩
def mergeE (y x:Entry):Entry:=⟨y.Key,y.Refs,max2 y.Used x.Used⟩
def stepB (bl:List Blob) (x:Blob):Option (List Blob) :=
  bif bl.any (fun y=>sEq y.Digest x.Digest) then (match bl[placeOf (fun y:Blob=>y.Digest) bl x.Digest]? with | some y=>bif y.Size != x.Size then none else some (bl.set (placeOf (fun y:Blob=>y.Digest) bl x.Digest) (mergeB y x)) | none=>none)
  else some (insAt bl (placeOf (fun y:Blob=>y.Digest) bl x.Digest) x)
def stepE (es:List Entry) (x:Entry):List Entry :=
  bif es.any (fun y=>sEq y.Key x.Key) then (match es[placeOf (fun y:Entry=>y.Key) es x.Key]? with | some y=>es.set (placeOf (fun y:Entry=>y.Key) es x.Key) (mergeE y x) | none=>es)
  else insAt es (placeOf (fun y:Entry=>y.Key) es x.Key) x
def mB:List Blob→List Blob→Option (List Blob)
  | [],bl=>some bl
  | x::r,bl=>(stepB bl x).bind (mB r)
def mE:List Entry→List Entry→List Entry
  | [],es=>es
  | x::r,es=>mE r (stepE es x)
def IB (bl:List Blob) (n:Nat):Prop:=bl.length≤3000+n∧bl.Pairwise (fun a b=>sLt a.Digest b.Digest=true)∧∀ x∈bl,x.Digest.size=16
def IE (es:List Entry) (n:Nat):Prop:=es.length≤1000+n∧es.Pairwise (fun a b=>sLt a.Key b.Key=true)∧∀ x∈es,x.Key.size=16∧x.Refs.length≤200∧∀ y∈x.Refs,y.size=16
theorem mem_set_or {α:Type} {l:List α} {p:Nat} {y z:α} (h:y∈l.set p z):y=z∨y∈l:=by
  rcases List.mem_or_eq_of_mem_set h with h | h
  · exact .inr h
  · exact .inl h
theorem stepB_inv {bl b:List Blob} {n:Nat} {x:Blob} (h:IB bl n) (hx:x.Digest.size=16) (e:stepB bl x=some b):IB b (n+1):=by
  obtain ⟨h1,h2,h3⟩:=h
  unfold stepB at e
  cases ha:bl.any (fun y=>sEq y.Digest x.Digest)
  · rw [ha,cond_false] at e
    injection e with e
    subst e
    refine ⟨by rw [ins_len]; omega,ins_srt (key:=fun y:Blob=>y.Digest) h2 ha,fun y hy=>?_⟩
    rcases ins_mem hy with rfl | hy
    · exact hx
    · exact h3 y hy
  · rw [ha,cond_true] at e
    cases hg:bl[placeOf (fun y:Blob=>y.Digest) bl x.Digest]? with
    | none=>rw [hg] at e; cases e
    | some y =>
      rw [hg] at e
      simp only at e
      cases hz:y.Size != x.Size
      · rw [hz,cond_false] at e
        injection e with e
        subst e
        refine ⟨by rw [List.length_set]; omega,set_srt (key:=fun y:Blob=>y.Digest) h2 hg rfl,fun z hz=>?_⟩
        rcases mem_set_or hz with rfl | hz
        · exact h3 y (List.mem_of_getElem? hg)
        · exact h3 z hz
      · rw [hz,cond_true] at e; cases e
theorem stepE_inv {es:List Entry} {n:Nat} {x:Entry} (h:IE es n) (hx:x.Key.size=16∧x.Refs.length≤200∧∀ y∈x.Refs,y.size=16):IE (stepE es x) (n+1):=by
  obtain ⟨h1,h2,h3⟩:=h
  unfold stepE
  cases ha:es.any (fun y=>sEq y.Key x.Key)
  · rw [cond_false]
    refine ⟨by rw [ins_len]; omega,ins_srt (key:=fun y:Entry=>y.Key) h2 ha,fun y hy=>?_⟩
    rcases ins_mem hy with rfl | hy
    · exact hx
    · exact h3 y hy
  · rw [cond_true]
    cases hg:es[placeOf (fun y:Entry=>y.Key) es x.Key]? with
    | none=>exact ⟨by simp only; omega,h2,h3⟩
    | some y =>
      refine ⟨by simp only; rw [List.length_set]; omega,set_srt (key:=fun y:Entry=>y.Key) h2 hg rfl,fun z hz=>?_⟩
      rcases mem_set_or hz with rfl | hz
      · exact h3 y (List.mem_of_getElem? hg)
      · exact h3 z hz
theorem small_of {c:Cache} {bl:List Blob} {es:List Entry} {n m:Nat} (hb:IB bl n) (he:IE es m) (hn:n≤3000) (hm:m≤1000):smallCache ⟨c.Room,c.Lease,bl,es⟩:=by
  obtain ⟨h1,h2,h3⟩:=hb
  obtain ⟨k1,k2,k3⟩:=he
  refine ⟨⟨by simp only; omega,fun x hx=>by rw [h3 x hx]; omega⟩,⟨by simp only; omega,fun x hx=>?_⟩⟩
  obtain ⟨j1,j2,j3⟩:=k3 x hx
  exact ⟨by rw [j1]; omega,by omega,fun y hy=>by rw [j3 y hy]; omega⟩
def finM (c:Cache) (bl:List Blob) (es:List Entry):Option (Cache × Int) :=
  (cacheS ⟨c.Room,c.Lease,bl,es⟩).bind fun f=>bif f != 0 then some ((⟨0,0,[],[]⟩:Cache),f) else some ((⟨c.Room,c.Lease,bl,es⟩:Cache),0)
def mergedS (c d:Cache):Option (Cache × Int) :=
  (cacheS c).bind fun f1=>bif f1 != 0 then some ((⟨0,0,[],[]⟩:Cache),f1) else (cacheS d).bind fun f2=>bif f2 != 0 then some ((⟨0,0,[],[]⟩:Cache),f2) else
    match mB d.Blobs c.Blobs with | none=>some ((⟨0,0,[],[]⟩:Cache),12) | some bl=>finM c bl (mE d.Entries c.Entries)
theorem ents_ix {c d:Cache} {bl:List Blob} {n:Nat} (hb:IB bl n) (hn:n≤3000) (hd:OkCache d):∀ (l:List Entry) (k v:Nat) (es:List Entry),d.Entries.drop v=l→v≤d.Entries.length→IE es v→l.length<k →
    cache_Merged.l3 cache_Merged.e2 k c d bl es (v:Int)=finM c bl (mE l es):=by
  intro l
  induction l with
  | nil =>
    intro k v es h1 h2 h3 h5
    have hel:=hd.el
    obtain ⟨k,rfl⟩:∃ m,k=m+1:=⟨k - 1,by omega⟩
    have hv:d.Entries.length≤v:=List.drop_eq_nil_iff.1 h1
    rw [cache_Merged.l3,decide_eq_false (by omega),cond_false,cache_Merged.e2,check_prog (small_of hb h3 hn (by omega))]
    rfl
  | cons x l ih =>
    intro k v es h1 h2 h3 h5
    have hel:=hd.el
    simp only [List.length_cons] at h5
    obtain ⟨k,rfl⟩:∃ m,k=m+1:=⟨k - 1,by omega⟩
    have hv:v<d.Entries.length:=by
      rcases Nat.lt_or_ge v d.Entries.length with h | h
      · exact h
      · rw [List.drop_eq_nil_of_le h] at h1; cases h1
    rw [List.drop_eq_getElem_cons hv] at h1
    injection h1 with g1 g2
    have hm:=List.getElem_mem hv
    rw [g1] at hm
    obtain ⟨x1,x2,x3,_⟩:=hd.ee x hm
    have hx:x.Key.size=16∧x.Refs.length≤200∧∀ y∈x.Refs,y.size=16:=⟨dig_size x1,x2,fun y hy=>dig_size (x3.1 y hy)⟩
    have hw:w64 ((v:Int)+1)=((v+1:Nat):Int):=by rw [w64_id (by omega) (by omega)]; omega
    have hinv:=stepE_inv h3 hx
    rw [cache_Merged.l3,decide_eq_true (by omega),at_nat hv,g1]
    simp only [cond_true,Option.bind_some]
    rw [entryAt_prog (small_of hb h3 hn (by omega)) h3.2.1]
    simp only [Option.bind_some,cache_Merged.j4,hw]
    show _=finM c bl (mE l (stepE es x))
    rw [← ih k (v+1) (stepE es x) g2 (by omega) hinv (by omega)]
    have hp:=placeOf_le (key:=fun y:Entry=>y.Key) es x.Key
    have hl:=h3.1
    cases ha:es.any (fun y=>sEq y.Key x.Key)
    · simp only [cond_false,stepE,ha]
      unfold slices_Insert_Entry.f
      rw [decide_eq_true (by omega),decide_eq_true (by omega)]
      rw [guard?_true (by
        simp only [Bool.true_and,List.length_singleton,Bool.and_eq_true]
        exact ⟨by simp,room_of (by omega)⟩)]
      rfl
    · obtain ⟨y,hy,hym,hye,hyg⟩:=placeOf_get (key:=fun y:Entry=>y.Key) h3.2.1 ha
      simp only [cond_true,stepE,ha,hy,Option.bind_some,hyg,Int.toNat_natCast,mergeE]
theorem blobs_ix {c d:Cache} (hc:OkCache c) (hd:OkCache d):∀ (l:List Blob) (k v:Nat) (bl:List Blob),d.Blobs.drop v=l→v≤d.Blobs.length→IB bl v→l.length<k →
    cache_Merged.l5 cache_Merged.e1 k c d bl (v:Int)=match mB l bl with | none=>some ((⟨0,0,[],[]⟩:Cache),12) | some b=>finM c b (mE d.Entries c.Entries):=by
  have hIE:IE c.Entries 0:=⟨hc.el,hc.es,fun x hx=>by obtain ⟨x1,x2,x3,_⟩:=hc.ee x hx; exact ⟨dig_size x1,x2,fun y hy=>dig_size (x3.1 y hy)⟩⟩
  intro l
  induction l with
  | nil =>
    intro k v bl h1 h2 h3 h5
    have hbl:=hd.bl
    obtain ⟨k,rfl⟩:∃ m,k=m+1:=⟨k - 1,by omega⟩
    have hv:d.Blobs.length≤v:=List.drop_eq_nil_iff.1 h1
    rw [cache_Merged.l5,decide_eq_false (by omega),cond_false,cache_Merged.e1]
    exact ents_ix h3 (by omega) hd d.Entries big 0 c.Entries rfl (by omega) hIE (by have:=hd.el; unfold big; omega)
  | cons x l ih =>
    intro k v bl h1 h2 h3 h5
    have hbl:=hd.bl
    simp only [List.length_cons] at h5
    obtain ⟨k,rfl⟩:∃ m,k=m+1:=⟨k - 1,by omega⟩
    have hv:v<d.Blobs.length:=by
      rcases Nat.lt_or_ge v d.Blobs.length with h | h
      · exact h
      · rw [List.drop_eq_nil_of_le h] at h1; cases h1
    rw [List.drop_eq_getElem_cons hv] at h1
    injection h1 with g1 g2
    have hm:=List.getElem_mem hv
    rw [g1] at hm
    have hx:=dig_size (hd.be x hm).1
    have hw:w64 ((v:Int)+1)=((v+1:Nat):Int):=by rw [w64_id (by omega) (by omega)]; omega
    have hinv:=fun b e=>stepB_inv (b:=b) h3 hx e
    rw [cache_Merged.l5,decide_eq_true (by omega),at_nat hv,g1]
    simp only [cond_true,Option.bind_some]
    rw [find_prog (small_of h3 hIE (by omega) (by omega)) h3.2.1]
    simp only [Option.bind_some,cache_Merged.j6,hw,mB]
    have hp:=placeOf_le (key:=fun y:Blob=>y.Digest) bl x.Digest
    have hl:=h3.1
    cases ha:bl.any (fun y=>sEq y.Digest x.Digest)
    · have e:stepB bl x=some (insAt bl (placeOf (fun y:Blob=>y.Digest) bl x.Digest) x):=by unfold stepB; rw [ha]; rfl
      rw [e]
      simp only [Bool.not_false,cond_true,Option.bind_some]
      rw [← ih k (v+1) _ g2 (by omega) (hinv _ e) (by omega)]
      unfold slices_Insert_Blob.f
      rw [decide_eq_true (by omega),decide_eq_true (by omega)]
      rw [guard?_true (by
        simp only [Bool.true_and,List.length_singleton,Bool.and_eq_true]
        exact ⟨by simp,room_of (by omega)⟩)]
      rfl
    · obtain ⟨y,hy,hym,hye,hyg⟩:=placeOf_get (key:=fun y:Blob=>y.Digest) h3.2.1 ha
      simp only [Bool.not_true,cond_false,hy,Option.bind_some,Int.toNat_natCast]
      have hlt:placeOf (fun y:Blob=>y.Digest) bl x.Digest<bl.length:=by
        rcases Nat.lt_or_ge (placeOf (fun y:Blob=>y.Digest) bl x.Digest) bl.length with h | h
        · exact h
        · rw [List.getElem?_eq_none h] at hyg; cases hyg
      have hset:∀ z:Blob,at? (bl.set (placeOf (fun y:Blob=>y.Digest) bl x.Digest) z) ((placeOf (fun y:Blob=>y.Digest) bl x.Digest:Nat):Int)=some z:=fun z=>by
        rw [at_nat (by rw [List.length_set]; exact hlt)]
        simp
      cases hz:y.Size != x.Size
      · have e:stepB bl x=some (bl.set (placeOf (fun y:Blob=>y.Digest) bl x.Digest) (mergeB y x)):=by unfold stepB; rw [ha,cond_true,hyg]; simp only [hz,cond_false]
        rw [e]
        simp only [cond_false,Option.bind_some,hset,List.set_set]
        rw [← ih k (v+1) _ g2 (by omega) (hinv _ e) (by omega)]
        rfl
      · have e:stepB bl x=none:=by unfold stepB; rw [ha,cond_true,hyg]; simp only [hz,cond_true]
        rw [e]
        rfl
theorem merged_prog {c d:Cache} (hf:Fit c) (hg:Fit d):cache_Merged.f c d=mergedS c d:=by
  unfold cache_Merged.f mergedS
  rw [check_prog hf.small,check_prog hg.small,own_id hf.fb hf.fe hf.fr,own_id hg.fb hg.fe hg.fr]
  obtain ⟨f1,e1⟩:=cacheS_some c
  obtain ⟨f2,e2⟩:=cacheS_some d
  rw [e1,e2]
  simp only [Option.bind_some]
  by_cases z1:f1=0
  · by_cases z2:f2=0
    · subst z1
      subst z2
      have hc:=cacheS_ok e1
      have hd:=cacheS_ok e2
      exact blobs_ix hc hd d.Blobs big 0 c.Blobs rfl (by omega) ⟨hc.bl,hc.bs,fun x hx=>dig_size (hc.be x hx).1⟩ (by have:=hd.bl; unfold big; omega)
    · have:(f2 != 0)=true:=by simp [z2]
      rw [this]
      cases f1 != 0 <;> rfl
  · have:(f1 != 0)=true:=by simp [z1]
    rw [this]
    rfl
end Go.Proofs.YtkjilepjblffeaaDoor
