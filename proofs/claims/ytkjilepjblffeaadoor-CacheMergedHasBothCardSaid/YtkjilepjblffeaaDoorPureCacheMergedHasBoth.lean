/- CacheMergedHasBoth over plain data: two caches merged have what both had, and a whole entry stays whole. -/
import Derived.Test.YtkjilepjblffeaaDoorPMgdR
import Derived.Test.YtkjilepjblffeaaDoorPureSCacheMergedHasBoth
set_option linter.unusedVariables false
set_option linter.unusedSimpArgs false
namespace Go.Proofs.YtkjilepjblffeaaDoor
open Go Go.Proofs.YtkjilepjblffeaaDoor.Kit
theorem fit_of {c:Cache} (h:fitCache c):Fit c:=by
  obtain ⟨-,-,⟨h3,h3'⟩,⟨h4,h4'⟩⟩:=h
  exact fit_raw h3 (fun x hx=>(h3' x hx).1) h4 (fun x hx=>⟨(h4' x hx).1,(h4' x hx).2.1.1,(h4' x hx).2.1.2⟩)
def hasK {α:Type} (key:α→ByteArray) (l:List α) (d:ByteArray):Bool:=l.any (fun x=>sEq (key x) d)
theorem hasK_iff {α:Type} {key:α→ByteArray} {l:List α} {d:ByteArray}:hasK key l d=true↔∃ x∈l,key x=d:=by
  unfold hasK
  rw [List.any_eq_true]
  constructor
  · rintro ⟨x,h1,h2⟩; exact ⟨x,h1,sEq_iff.1 h2⟩
  · rintro ⟨x,h1,h2⟩; exact ⟨x,h1,sEq_iff.2 h2⟩
theorem findPair {α:Type} {c:α→Bool} {z:α}:∀ (l:List α) (i:Int),rangeS (fun _ x (s:Unit) f=>bif c x then some (x,true) else f s) (fun _=>some (z,false)) i l ()=some (match l.find? c with | some x=>(x,true) | none=>(z,false))
  | [],_=>rfl
  | x::l,i=>by
    show (bif c x then _ else _)=_
    rw [List.find?_cons]
    cases h:c x
    · exact findPair l (i+1)
    · rfl
theorem find_spec {α:Type} {key:α→ByteArray} {z:α} (l:List α) (d:ByteArray):∃ y b,(match l.find? (fun x=>sEq (key x) d) with | some x=>(x,true) | none=>(z,false))=(y,b)∧b=hasK key l d∧(b=true→y∈l∧key y=d):=by
  cases h:l.find? (fun x=>sEq (key x) d) with
  | none =>
    refine ⟨z,false,rfl,?_,fun h=>by cases h⟩
    rw [List.find?_eq_none] at h
    unfold hasK
    symm
    rw [List.any_eq_false]
    exact h
  | some x =>
    have h1:=List.mem_of_find?_eq_some h
    have h2:=List.find?_some h
    exact ⟨x,true,rfl,(hasK_iff.2 ⟨x,h1,sEq_iff.1 h2⟩).symm,fun _=>⟨h1,sEq_iff.1 h2⟩⟩
theorem blob_law {c:Cache} (hb:c.Blobs.length≤4611686018427387904) (d:ByteArray):∃ y b,smithyardlaw7_blob.f c d=some (y,b)∧b=hasK (fun x:Blob=>x.Digest) c.Blobs d∧(b=true→y∈c.Blobs∧y.Digest=d):=by
  obtain ⟨y,b,e,h⟩:=find_spec (key:=fun x:Blob=>x.Digest) (z:=(⟨ByteArray.empty,0,0,0,0⟩:Blob)) c.Blobs d
  refine ⟨y,b,?_,h⟩
  unfold smithyardlaw7_blob.f
  rw [rangeS_all (S:=Unit) (L:=fun k _ v=>smithyardlaw7_blob.l2 smithyardlaw7_blob.e1 k c d v) (body:=fun _ x s f=>bif sEq x.Digest d then some (x,true) else f s) (e:=fun _=>some ((⟨ByteArray.empty,0,0,0,0⟩:Blob),false)) hb (fun k s v=>by
    simp only [smithyardlaw7_blob.l2]
    congr 1
    refine bind_at2 (fun x hat hx=>?_)
    simp only [hat,Option.bind_some]) (),findPair c.Blobs 0,e]
theorem entry_law {c:Cache} (hb:c.Entries.length≤4611686018427387904) (d:ByteArray):∃ y b,smithyardlaw7_entry.f c d=some (y,b)∧b=hasK (fun x:Entry=>x.Key) c.Entries d∧(b=true→y∈c.Entries∧y.Key=d):=by
  obtain ⟨y,b,e,h⟩:=find_spec (key:=fun x:Entry=>x.Key) (z:=(⟨ByteArray.empty,[],0⟩:Entry)) c.Entries d
  refine ⟨y,b,?_,h⟩
  unfold smithyardlaw7_entry.f
  rw [rangeS_all (S:=Unit) (L:=fun k _ v=>smithyardlaw7_entry.l2 smithyardlaw7_entry.e1 k c d v) (body:=fun _ x s f=>bif sEq x.Key d then some (x,true) else f s) (e:=fun _=>some ((⟨ByteArray.empty,[],0⟩:Entry),false)) hb (fun k s v=>by
    simp only [smithyardlaw7_entry.l2]
    congr 1
    refine bind_at2 (fun x hat hx=>?_)
    simp only [hat,Option.bind_some]) (),findPair c.Entries 0,e]
theorem ins_has {α:Type} {key:α→ByteArray} {l:List α} {p:Nat} {x:α} {d:ByteArray}:hasK key (insAt l p x) d=(hasK key l d||sEq (key x) d):=by
  have e:hasK key l d=(hasK key (l.take p) d||hasK key (l.drop p) d):=by
    unfold hasK
    rw [← List.any_append,List.take_append_drop]
  rw [e]
  unfold insAt hasK
  rw [List.any_append,List.any_append,List.any_cons,List.any_nil]
  cases (l.take p).any (fun x=>sEq (key x) d) <;> cases (l.drop p).any (fun x=>sEq (key x) d) <;> cases sEq (key x) d <;> rfl
theorem set_has {α:Type} {key:α→ByteArray} {l:List α} {p:Nat} {y z:α} {d:ByteArray} (hy:l[p]? = some y) (hk:key z=key y):hasK key (l.set p z) d=hasK key l d:=by
  apply Bool.eq_iff_iff.2
  rw [hasK_iff,hasK_iff]
  constructor
  · rintro ⟨x,h1,h2⟩
    rcases mem_set_or h1 with rfl | h1
    · exact ⟨y,List.mem_of_getElem? hy,by rw [← hk]; exact h2⟩
    · exact ⟨x,h1,h2⟩
  · rintro ⟨x,h1,h2⟩
    obtain ⟨n,hn⟩:=List.mem_iff_getElem?.1 h1
    by_cases hp:p=n
    · subst hp
      rw [hy] at hn
      injection hn with hn
      subst hn
      have hl:p<l.length:=by
        rcases Nat.lt_or_ge p l.length with h | h
        · exact h
        · rw [List.getElem?_eq_none h] at hy; cases hy
      exact ⟨z,List.mem_iff_getElem?.2 ⟨p,by rw [List.getElem?_set]; simp [hl]⟩,by rw [hk]; exact h2⟩
    · exact ⟨x,List.mem_iff_getElem?.2 ⟨n,by rw [List.getElem?_set]; simp [hp,hn]⟩,h2⟩
theorem any_or {α:Type} {key:α→ByteArray} {l:List α} {x d:ByteArray} (h:hasK key l x=true):hasK key l d=(hasK key l d||sEq x d):=by
  cases he:sEq x d
  · simp
  · rw [← sEq_iff.1 he,h]; rfl
theorem stepB_has {bl b:List Blob} {x:Blob} (hs:bl.Pairwise (fun a b=>sLt a.Digest b.Digest=true)) (e:stepB bl x=some b) (d:ByteArray):hasK (fun x:Blob=>x.Digest) b d=(hasK (fun x:Blob=>x.Digest) bl d||sEq x.Digest d):=by
  unfold stepB at e
  cases ha:bl.any (fun y=>sEq y.Digest x.Digest)
  · rw [ha,cond_false] at e
    injection e with e
    subst e
    exact ins_has (key:=fun x:Blob=>x.Digest)
  · obtain ⟨y,hy,hym,hye,hyg⟩:=placeOf_get (key:=fun y:Blob=>y.Digest) hs ha
    rw [ha,cond_true,hyg] at e
    simp only at e
    cases hz:y.Size != x.Size
    · rw [hz,cond_false] at e
      injection e with e
      subst e
      rw [set_has (key:=fun x:Blob=>x.Digest) (z:=mergeB y x) hyg rfl]
      exact any_or ha
    · rw [hz,cond_true] at e; cases e
theorem stepE_has {es:List Entry} {x:Entry} (hs:es.Pairwise (fun a b=>sLt a.Key b.Key=true)) (d:ByteArray):hasK (fun x:Entry=>x.Key) (stepE es x) d=(hasK (fun x:Entry=>x.Key) es d||sEq x.Key d):=by
  unfold stepE
  cases ha:es.any (fun y=>sEq y.Key x.Key)
  · exact ins_has (key:=fun x:Entry=>x.Key)
  · obtain ⟨y,hy,hym,hye,hyg⟩:=placeOf_get (key:=fun y:Entry=>y.Key) hs ha
    rw [cond_true,hyg]
    simp only
    rw [set_has (key:=fun x:Entry=>x.Key) (z:=mergeE y x) hyg rfl]
    exact any_or ha
theorem mB_has:∀ {l bl b:List Blob} {n:Nat},IB bl n→(∀ x∈l,x.Digest.size=16)→mB l bl=some b→∀ d,hasK (fun x:Blob=>x.Digest) b d=(hasK (fun x:Blob=>x.Digest) bl d||hasK (fun x:Blob=>x.Digest) l d)
  | [],bl,b,n,hi,hl,e,d=>by
    injection e with e
    subst e
    simp [hasK]
  | x::l,bl,b,n,hi,hl,e,d=>by
    unfold mB at e
    cases h:stepB bl x with
    | none=>rw [h] at e; cases e
    | some b1 =>
      rw [h] at e
      simp only [Option.bind_some] at e
      rw [mB_has (stepB_inv hi (hl x (by simp)) h) (fun y hy=>hl y (by simp [hy])) e d,stepB_has hi.2.1 h d]
      unfold hasK
      rw [List.any_cons,Bool.or_assoc]
theorem mE_has:∀ {l es:List Entry} {n:Nat},IE es n→(∀ x∈l,x.Key.size=16∧x.Refs.length≤200∧∀ y∈x.Refs,y.size=16)→∀ d,hasK (fun x:Entry=>x.Key) (mE l es) d=(hasK (fun x:Entry=>x.Key) es d||hasK (fun x:Entry=>x.Key) l d)
  | [],es,n,hi,hl,d=>by simp [mE,hasK]
  | x::l,es,n,hi,hl,d=>by
    unfold mE
    rw [mE_has (stepE_inv hi (hl x (by simp))) (fun y hy=>hl y (by simp [hy])) d,stepE_has hi.2.1 d]
    unfold hasK
    rw [List.any_cons,Bool.or_assoc]
theorem mem_ins {α:Type} {l:List α} {p:Nat} {x y:α} (h:y=x∨y∈l):y∈insAt l p x:=by
  unfold insAt
  rcases h with rfl | h
  · simp
  · rw [← List.take_append_drop p l] at h
    rcases List.mem_append.1 h with h | h
    · exact List.mem_append.2 (.inl (List.mem_append.2 (.inl h)))
    · exact List.mem_append.2 (.inr h)
theorem stepE_refs {es:List Entry} {x z:Entry} (hs:es.Pairwise (fun a b=>sLt a.Key b.Key=true)) (hz:z∈es):∃ y∈stepE es x,y.Key=z.Key∧y.Refs=z.Refs:=by
  unfold stepE
  cases ha:es.any (fun y=>sEq y.Key x.Key)
  · exact ⟨z,mem_ins (.inr hz),rfl,rfl⟩
  · obtain ⟨y,hy,hym,hye,hyg⟩:=placeOf_get (key:=fun y:Entry=>y.Key) hs ha
    rw [cond_true,hyg]
    simp only
    generalize placeOf (fun y:Entry=>y.Key) es x.Key=p at *
    obtain ⟨n,hn⟩:=List.mem_iff_getElem?.1 hz
    by_cases hp:p=n
    · subst hp
      rw [hyg] at hn
      injection hn with hn
      subst hn
      have hl:p<es.length:=by
        rcases Nat.lt_or_ge p es.length with h | h
        · exact h
        · rw [List.getElem?_eq_none h] at hyg; cases hyg
      exact ⟨mergeE y x,List.mem_iff_getElem?.2 ⟨p,by rw [List.getElem?_set]; simp [hl]⟩,rfl,rfl⟩
    · exact ⟨z,List.mem_iff_getElem?.2 ⟨n,by rw [List.getElem?_set]; simp [hp,hn]⟩,rfl,rfl⟩
theorem mE_refs:∀ {l es:List Entry} {n:Nat},IE es n→(∀ x∈l,x.Key.size=16∧x.Refs.length≤200∧∀ y∈x.Refs,y.size=16)→∀ z∈es,∃ y∈mE l es,y.Key=z.Key∧y.Refs=z.Refs
  | [],es,n,hi,hl,z,hz=>⟨z,hz,rfl,rfl⟩
  | x::l,es,n,hi,hl,z,hz=>by
    obtain ⟨w,hw,e1,e2⟩:=stepE_refs (x:=x) hi.2.1 hz
    obtain ⟨y,hy,e3,e4⟩:=mE_refs (l:=l) (stepE_inv hi (hl x (by simp))) (fun y hy=>hl y (by simp [hy])) w hw
    exact ⟨y,hy,e3.trans e1,e4.trans e2⟩
theorem mE_refs2:∀ {l es:List Entry} {n:Nat},IE es n→l.Pairwise (fun a b=>sLt a.Key b.Key=true)→(∀ x∈l,x.Key.size=16∧x.Refs.length≤200∧∀ y∈x.Refs,y.size=16)→∀ z∈l,hasK (fun x:Entry=>x.Key) es z.Key=false→∃ y∈mE l es,y.Key=z.Key∧y.Refs=z.Refs
  | x::l,es,n,hi,hs,hl,z,hz,hno=>by
    obtain ⟨s1,s2⟩:=List.pairwise_cons.1 hs
    have hi2:=stepE_inv hi (hl x (by simp))
    have hl2:∀ y∈l,y.Key.size=16∧y.Refs.length≤200∧∀ w∈y.Refs,w.size=16:=fun y hy=>hl y (by simp [hy])
    rcases List.mem_cons.1 hz with rfl | hz
    · have hm:z∈stepE es z:=by
        unfold stepE
        rw [show es.any (fun y=>sEq y.Key z.Key)=false from hno]
        exact mem_ins (.inl rfl)
      exact mE_refs hi2 hl2 z hm
    · refine mE_refs2 hi2 s2 hl2 z hz ?_
      rw [stepE_has hi.2.1,hno,sLt_ne (s1 z hz)]
      rfl
theorem set_same {α:Type} {l:List α} {p:Nat} {x:α} (h:l[p]? = some x):l.set p x=l:=by
  apply List.ext_getElem?
  intro n
  rw [List.getElem?_set]
  by_cases hp:p=n
  · subst hp
    have hl:p<l.length:=by
      rcases Nat.lt_or_ge p l.length with h' | h'
      · exact h'
      · rw [List.getElem?_eq_none h'] at h; cases h
    simp [hl,h]
    rw [List.getElem?_eq_getElem hl] at h
    injection h with h
    exact h.symm
  · simp [hp]
theorem max2_self (a:Int):max2 a a=a:=by unfold max2; simp
theorem mB_self {bl:List Blob} (hs:bl.Pairwise (fun a b=>sLt a.Digest b.Digest=true)):∀ (l:List Blob),(∀ x∈l,x∈bl)→mB l bl=some bl
  | [],_=>rfl
  | x::l,hl=>by
    have hx:=hl x (by simp)
    have ha:bl.any (fun y=>sEq y.Digest x.Digest)=true:=List.any_eq_true.2 ⟨x,hx,sEq_self _⟩
    obtain ⟨y,hy,hym,hye,hyg⟩:=placeOf_get (key:=fun y:Blob=>y.Digest) hs ha
    have:=key_inj (key:=fun y:Blob=>y.Digest) hs y hym x hx (sEq_iff.1 hye)
    subst this
    have e:stepB bl y=some bl:=by
      unfold stepB
      rw [ha,cond_true,hyg]
      simp only [bne_self_eq_false,cond_false,mergeB,max2_self]
      rw [set_same hyg]
    unfold mB
    rw [e]
    exact mB_self hs l (fun z hz=>hl z (by simp [hz]))
theorem mE_self {es:List Entry} (hs:es.Pairwise (fun a b=>sLt a.Key b.Key=true)):∀ (l:List Entry),(∀ x∈l,x∈es)→mE l es=es
  | [],_=>rfl
  | x::l,hl=>by
    have hx:=hl x (by simp)
    have ha:es.any (fun y=>sEq y.Key x.Key)=true:=List.any_eq_true.2 ⟨x,hx,sEq_self _⟩
    obtain ⟨y,hy,hym,hye,hyg⟩:=placeOf_get (key:=fun y:Entry=>y.Key) hs ha
    have:=key_inj (key:=fun y:Entry=>y.Key) hs y hym x hx (sEq_iff.1 hye)
    subst this
    have e:stepE es y=es:=by
      unfold stepE
      rw [ha,cond_true,hyg]
      simp only [mergeE,max2_self]
      rw [set_same hyg]
    unfold mE
    rw [e]
    exact mE_self hs l (fun z hz=>hl z (by simp [hz]))
theorem mergedS_cases (c d:Cache):(∃ f,f≠0∧mergedS c d=some ((⟨0,0,[],[]⟩:Cache),f))∨(∃ bl,OkCache c∧OkCache d∧mB d.Blobs c.Blobs=some bl∧mergedS c d=some ((⟨c.Room,c.Lease,bl,mE d.Entries c.Entries⟩:Cache),0)∧OkCache ⟨c.Room,c.Lease,bl,mE d.Entries c.Entries⟩):=by
  unfold mergedS
  obtain ⟨f1,e1⟩:=cacheS_some c
  obtain ⟨f2,e2⟩:=cacheS_some d
  rw [e1,e2]
  simp only [Option.bind_some]
  cases z1:f1 != 0
  · have w1:f1=0:=by simpa using z1
    subst w1
    cases z2:f2 != 0
    · have w2:f2=0:=by simpa using z2
      subst w2
      simp only [cond_false]
      cases hm:mB d.Blobs c.Blobs with
      | none=>exact .inl ⟨12,by decide,rfl⟩
      | some bl =>
        simp only [finM]
        obtain ⟨f,e⟩:=cacheS_some ⟨c.Room,c.Lease,bl,mE d.Entries c.Entries⟩
        rw [e]
        simp only [Option.bind_some]
        cases z:f != 0
        · have:f=0:=by simpa using z
          subst this
          exact .inr ⟨bl,cacheS_ok e1,cacheS_ok e2,rfl,rfl,cacheS_ok e⟩
        · exact .inl ⟨f,by simpa using z,rfl⟩
    · exact .inl ⟨f2,by simpa using z2,rfl⟩
  · exact .inl ⟨f1,by simpa using z1,rfl⟩
theorem CacheMergedHasBoth_pure:CacheMergedHasBoth_Pure:=by
  intro c d key hc hd hkey
  have hf:=fit_of hc
  have hg:=fit_of hd
  unfold smithyardlaw7_CacheMergedHasBoth.f
  obtain ⟨r1,h1,h2⟩:∃ r,mergedS c c=some r∧(r.2=0→r.1=c):=by
    rcases mergedS_cases c c with ⟨f,hf0,e⟩ | ⟨bl,ok,_,hm,e,_⟩
    · exact ⟨_,e,fun h=>absurd h hf0⟩
    · rw [mB_self ok.bs c.Blobs (fun x hx=>hx)] at hm
      injection hm with hm
      subst hm
      refine ⟨_,e,fun _=>?_⟩
      rw [mE_self ok.es c.Entries (fun x hx=>hx)]
  have t1:(bif r1.2 == 0 then ((smithyardref7_Same.f (⟨r1.1.Room,r1.1.Lease,r1.1.Blobs,r1.1.Entries⟩:Cache) c).bind fun y2=>some (!y2)) else some false)=some false:=by
    cases hz:r1.2 == 0
    · rfl
    · have:=h2 (by simpa using hz)
      rw [this]
      have e5:smithyardref7_Same.f (⟨c.Room,c.Lease,c.Blobs,c.Entries⟩:Cache) c=some true:=same_self hf.small
      rw [e5]
      rfl
  rw [merged_prog hf hf,h1]
  simp only [Option.bind_some,t1,cond_false]
  rw [merged_prog hf hg]
  rcases mergedS_cases c d with ⟨f,hf0,e⟩ | ⟨bl,ok,okd,hm,e,okm⟩
  · rw [e]
    have:(f != 0)=true:=by simpa using hf0
    simp only [Option.bind_some,this,cond_true,awake7]
    rfl
  rw [e]
  have hcE:∀ x∈c.Entries,x.Key.size=16∧x.Refs.length≤200∧∀ y∈x.Refs,y.size=16:=fun x hx=>by
    obtain ⟨x1,x2,x3,_⟩:=ok.ee x hx
    exact ⟨dig_size x1,x2,fun y hy=>dig_size (x3.1 y hy)⟩
  have hdE:∀ x∈d.Entries,x.Key.size=16∧x.Refs.length≤200∧∀ y∈x.Refs,y.size=16:=fun x hx=>by
    obtain ⟨x1,x2,x3,_⟩:=okd.ee x hx
    exact ⟨dig_size x1,x2,fun y hy=>dig_size (x3.1 y hy)⟩
  have iB:IB c.Blobs 0:=⟨ok.bl,ok.bs,fun x hx=>dig_size (ok.be x hx).1⟩
  have iE:IE c.Entries 0:=⟨ok.el,ok.es,hcE⟩
  have hB:=mB_has iB (fun x hx=>dig_size (okd.be x hx).1) hm
  have hE:=mE_has iE hdE
  have hR1:=mE_refs (l:=d.Entries) iE hdE
  have hR2:=mE_refs2 iE okd.es hdE
  generalize mE d.Entries c.Entries=es at *
  have l1:=ok.bl
  have l2:=ok.el
  have l3:=okd.bl
  have l4:=okd.el
  have l5:bl.length≤3000:=okm.bl
  have l6:es.length≤1000:=okm.el
  have s6:smithyardlaw7_CacheMergedHasBoth.e6 c key ((⟨c.Room,c.Lease,bl,es⟩:Cache),0)=some true:=by
    unfold smithyardlaw7_CacheMergedHasBoth.e6
    rw [whole_prog hf ok key]
    simp only [Option.bind_some]
    rw [whole_prog okm.fit okm key]
    simp only [Option.bind_some]
    cases hk:isDigB key
    · simp only [cond_false,awake7]
      rfl
    · simp only [cond_true,bne_self_eq_false,cond_false,awake7,Option.bind_some]
      cases hw:wholeB c key
      · rfl
      · have hw2:wholeB ⟨c.Room,c.Lease,bl,es⟩ key=true:=by
          unfold wholeB at hw ⊢
          rw [List.any_eq_true] at hw
          obtain ⟨x,hx,hx2⟩:=hw
          rw [Bool.and_eq_true] at hx2
          obtain ⟨y,hy,k1,k2⟩:=hR1 x hx
          refine List.any_eq_true.2 ⟨y,hy,?_⟩
          rw [Bool.and_eq_true,k1,k2]
          refine ⟨hx2.1,?_⟩
          have h3:=hx2.2
          unfold missingS at h3 ⊢
          rw [List.isEmpty_iff,List.filter_eq_nil_iff] at h3 ⊢
          intro a ha
          have h4:=h3 a ha
          have h5:hasB c a=true:=by simpa using h4
          have h6:hasB ⟨c.Room,c.Lease,bl,es⟩ a=true:=by
            show hasK (fun x:Blob=>x.Digest) bl a=true
            rw [hB,show hasK (fun x:Blob=>x.Digest) c.Blobs a=true from h5]
            rfl
          simp [h6]
        rw [hw2]
        rfl
  have s5:smithyardlaw7_CacheMergedHasBoth.e5 c d key ((⟨c.Room,c.Lease,bl,es⟩:Cache),0)=some true:=by
    unfold smithyardlaw7_CacheMergedHasBoth.e5
    refine selfLoop (L:=fun k v=>smithyardlaw7_CacheMergedHasBoth.l7 smithyardlaw7_CacheMergedHasBoth.e6 k c d key ((⟨c.Room,c.Lease,bl,es⟩:Cache),0) v) (n:=es.length) (by omega) (fun k v v0 v1=>?_) (fun k=>?_)
    · obtain ⟨hn,hat⟩:=at?_get (xs:=es) v0 v1
      obtain ⟨y,b,eb,hb,_⟩:=entry_law (c:=c) (by omega) es[v.toNat].Key
      obtain ⟨y',b',eb',hb',_⟩:=entry_law (c:=d) (by omega) es[v.toNat].Key
      have hh:(b||b')=true:=by rw [hb,hb',← hE]; exact hasK_iff.2 ⟨_,List.getElem_mem hn,rfl⟩
      have hc1:(bif !b then some (!b') else some false)=some false:=by cases b <;> cases b' <;> simp_all
      simp only [smithyardlaw7_CacheMergedHasBoth.l7,decide_eq_true v1,cond_true,hat,Option.bind_some,eb,eb',hc1,cond_false]
      rw [w64_id (by omega) (by omega)]
    · simp only [smithyardlaw7_CacheMergedHasBoth.l7,decide_eq_false (Int.lt_irrefl _),cond_false,s6]
  have s4:smithyardlaw7_CacheMergedHasBoth.e4 c d key ((⟨c.Room,c.Lease,bl,es⟩:Cache),0)=some true:=by
    unfold smithyardlaw7_CacheMergedHasBoth.e4
    refine selfLoop (L:=fun k v=>smithyardlaw7_CacheMergedHasBoth.l8 smithyardlaw7_CacheMergedHasBoth.e5 k c d key ((⟨c.Room,c.Lease,bl,es⟩:Cache),0) v) (n:=bl.length) (by omega) (fun k v v0 v1=>?_) (fun k=>?_)
    · obtain ⟨hn,hat⟩:=at?_get (xs:=bl) v0 v1
      obtain ⟨y,b,eb,hb,_⟩:=blob_law (c:=c) (by omega) bl[v.toNat].Digest
      obtain ⟨y',b',eb',hb',_⟩:=blob_law (c:=d) (by omega) bl[v.toNat].Digest
      have hh:(b||b')=true:=by rw [hb,hb',← hB]; exact hasK_iff.2 ⟨_,List.getElem_mem hn,rfl⟩
      have hc1:(bif !b then some (!b') else some false)=some false:=by cases b <;> cases b' <;> simp_all
      simp only [smithyardlaw7_CacheMergedHasBoth.l8,decide_eq_true v1,cond_true,hat,Option.bind_some,eb,eb',hc1,cond_false]
      rw [w64_id (by omega) (by omega)]
    · simp only [smithyardlaw7_CacheMergedHasBoth.l8,decide_eq_false (Int.lt_irrefl _),cond_false,s5]
  have s3:smithyardlaw7_CacheMergedHasBoth.e3 c d key ((⟨c.Room,c.Lease,bl,es⟩:Cache),0)=some true:=by
    unfold smithyardlaw7_CacheMergedHasBoth.e3
    refine selfLoop (L:=fun k v=>smithyardlaw7_CacheMergedHasBoth.l9 smithyardlaw7_CacheMergedHasBoth.e4 k c d key ((⟨c.Room,c.Lease,bl,es⟩:Cache),0) v) (n:=d.Entries.length) (by omega) (fun k v v0 v1=>?_) (fun k=>?_)
    · obtain ⟨hn,hat⟩:=at?_get (xs:=d.Entries) v0 v1
      have hmem:=List.getElem_mem hn
      obtain ⟨y,b,eb,hb,_⟩:=entry_law (c:=c) (by omega) d.Entries[v.toNat].Key
      obtain ⟨y',b',eb',hb',hy'⟩:=entry_law (c:=(⟨c.Room,c.Lease,bl,es⟩:Cache)) (by show es.length≤_; omega) d.Entries[v.toNat].Key
      have hbt:b'=true:=by
        rw [hb']
        show hasK (fun x:Entry=>x.Key) es _=true
        rw [hE,hasK_iff.2 ⟨_,hmem,rfl⟩,Bool.or_true]
      subst hbt
      have hc1:(bif !b then (slices_Equal_string.f y'.Refs d.Entries[v.toNat].Refs).bind fun y18=>some (!y18) else some false)=some false:=by
        cases hbb:b
        · obtain ⟨w,hw,w1,w2⟩:=hR2 _ hmem (by rw [← hb,hbb])
          have:=key_inj (key:=fun x:Entry=>x.Key) okm.es y' (hy' rfl).1 w hw ((hy' rfl).2.trans w1.symm)
          subst this
          rw [w2,slices_Equal_string_self (by have:=(hdE _ hmem).2.1; omega)]
          rfl
        · rfl
      simp only [smithyardlaw7_CacheMergedHasBoth.l9,decide_eq_true v1,cond_true,hat,Option.bind_some,eb,eb',Bool.not_true,cond_false,hc1]
      rw [w64_id (by omega) (by omega)]
    · simp only [smithyardlaw7_CacheMergedHasBoth.l9,decide_eq_false (Int.lt_irrefl _),cond_false,s4]
  have s2:smithyardlaw7_CacheMergedHasBoth.e2 c d key ((⟨c.Room,c.Lease,bl,es⟩:Cache),0)=some true:=by
    unfold smithyardlaw7_CacheMergedHasBoth.e2
    refine selfLoop (L:=fun k v=>smithyardlaw7_CacheMergedHasBoth.l10 smithyardlaw7_CacheMergedHasBoth.e3 k c d key ((⟨c.Room,c.Lease,bl,es⟩:Cache),0) v) (n:=c.Entries.length) (by omega) (fun k v v0 v1=>?_) (fun k=>?_)
    · obtain ⟨hn,hat⟩:=at?_get (xs:=c.Entries) v0 v1
      have hmem:=List.getElem_mem hn
      obtain ⟨y',b',eb',hb',hy'⟩:=entry_law (c:=(⟨c.Room,c.Lease,bl,es⟩:Cache)) (by show es.length≤_; omega) c.Entries[v.toNat].Key
      have hbt:b'=true:=by
        rw [hb']
        show hasK (fun x:Entry=>x.Key) es _=true
        rw [hE,hasK_iff.2 ⟨_,hmem,rfl⟩,Bool.true_or]
      subst hbt
      obtain ⟨w,hw,w1,w2⟩:=hR1 _ hmem
      have:=key_inj (key:=fun x:Entry=>x.Key) okm.es y' (hy' rfl).1 w hw ((hy' rfl).2.trans w1.symm)
      subst this
      have hc1:slices_Equal_string.f y'.Refs c.Entries[v.toNat].Refs=some true:=by
        rw [w2,slices_Equal_string_self (by have:=(hcE _ hmem).2.1; omega)]
      simp only [smithyardlaw7_CacheMergedHasBoth.l10,decide_eq_true v1,cond_true,hat,Option.bind_some,eb',Bool.not_true,cond_false,hc1]
      rw [w64_id (by omega) (by omega)]
    · simp only [smithyardlaw7_CacheMergedHasBoth.l10,decide_eq_false (Int.lt_irrefl _),cond_false,s3]
  have s1:smithyardlaw7_CacheMergedHasBoth.e1 c d key ((⟨c.Room,c.Lease,bl,es⟩:Cache),0)=some true:=by
    unfold smithyardlaw7_CacheMergedHasBoth.e1
    refine selfLoop (L:=fun k v=>smithyardlaw7_CacheMergedHasBoth.l11 smithyardlaw7_CacheMergedHasBoth.e2 k c d key ((⟨c.Room,c.Lease,bl,es⟩:Cache),0) v) (n:=d.Blobs.length) (by omega) (fun k v v0 v1=>?_) (fun k=>?_)
    · obtain ⟨hn,hat⟩:=at?_get (xs:=d.Blobs) v0 v1
      obtain ⟨y',b',eb',hb',_⟩:=blob_law (c:=(⟨c.Room,c.Lease,bl,es⟩:Cache)) (by show bl.length≤_; omega) d.Blobs[v.toNat].Digest
      have hbt:b'=true:=by
        rw [hb']
        show hasK (fun x:Blob=>x.Digest) bl _=true
        rw [hB,hasK_iff.2 ⟨_,List.getElem_mem hn,rfl⟩,Bool.or_true]
      subst hbt
      simp only [smithyardlaw7_CacheMergedHasBoth.l11,decide_eq_true v1,cond_true,hat,Option.bind_some,eb',Bool.not_true,cond_false]
      rw [w64_id (by omega) (by omega)]
    · simp only [smithyardlaw7_CacheMergedHasBoth.l11,decide_eq_false (Int.lt_irrefl _),cond_false,s2]
  simp only [Option.bind_some,bne_self_eq_false,cond_false]
  refine selfLoop (L:=fun k v=>smithyardlaw7_CacheMergedHasBoth.l12 smithyardlaw7_CacheMergedHasBoth.e1 k c d key ((⟨c.Room,c.Lease,bl,es⟩:Cache),0) v) (n:=c.Blobs.length) (by omega) (fun k v v0 v1=>?_) (fun k=>?_)
  · obtain ⟨hn,hat⟩:=at?_get (xs:=c.Blobs) v0 v1
    obtain ⟨y',b',eb',hb',_⟩:=blob_law (c:=(⟨c.Room,c.Lease,bl,es⟩:Cache)) (by show bl.length≤_; omega) c.Blobs[v.toNat].Digest
    have hbt:b'=true:=by
      rw [hb']
      show hasK (fun x:Blob=>x.Digest) bl _=true
      rw [hB,hasK_iff.2 ⟨_,List.getElem_mem hn,rfl⟩,Bool.true_or]
    subst hbt
    simp only [smithyardlaw7_CacheMergedHasBoth.l12,decide_eq_true v1,cond_true,hat,Option.bind_some,eb',Bool.not_true,cond_false]
    rw [w64_id (by omega) (by omega)]
  · simp only [smithyardlaw7_CacheMergedHasBoth.l12,decide_eq_false (Int.lt_irrefl _),cond_false,s1]
end Go.Proofs.YtkjilepjblffeaaDoor
