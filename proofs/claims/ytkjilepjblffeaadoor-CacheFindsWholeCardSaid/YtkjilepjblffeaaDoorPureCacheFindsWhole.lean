/- CacheFindsWhole over plain data: what is found is whole, used and leased; what is stored is whole and is found. -/
import Derived.Test.YtkjilepjblffeaaDoorPFind
import Derived.Test.YtkjilepjblffeaaDoorPureSCacheFindsWhole
set_option linter.unusedVariables false
set_option linter.unusedSimpArgs false
namespace Go.Proofs.YtkjilepjblffeaaDoor
open Go Go.Proofs.YtkjilepjblffeaaDoor.Kit
theorem fit_of {c:Cache} (h:fitCache c):Fit c:=by
  obtain ⟨-,-,⟨h3,h3'⟩,⟨h4,h4'⟩⟩:=h
  exact fit_raw h3 (fun x hx=>(h3' x hx).1) h4 (fun x hx=>⟨(h4' x hx).1,(h4' x hx).2.1.1,(h4' x hx).2.1.2⟩)
theorem leased_prog {x:Cache} (hx:OkCache x) {key:ByteArray} {t:Int} (ht0:0≤t) (ht1:t≤1000000000) (h:LsdAt x key t):smithyardlaw7_leased.f x key t=some true:=by
  have hel:=hx.el
  have hl0:=hx.lease0
  have hl1:=hx.lease1
  have ht:w64 (t+x.Lease)=t+x.Lease:=w64_id (by omega) (by omega)
  unfold smithyardlaw7_leased.f
  refine selfLoop (L:=fun k v=>smithyardlaw7_leased.l2 smithyardlaw7_leased.e1 k x key t v) (n:=x.Entries.length) (by omega) (fun k v v0 v1=>?_) (fun k=>?_)
  · obtain ⟨hn,hat⟩:=at?_get (xs:=x.Entries) v0 v1
    have hm:=List.getElem_mem hn
    have hl:=h _ hm
    have hrl:=(hx.ee _ hm).2.1
    generalize x.Entries[v.toNat]=n at *
    have hw:w64 (v+1)=v+1:=w64_id (by omega) (by omega)
    simp only [smithyardlaw7_leased.l2,decide_eq_true v1,cond_true]
    have hend:smithyardlaw7_leased.e3 (smithyardlaw7_leased.l2 smithyardlaw7_leased.e1 k) x key t v=smithyardlaw7_leased.l2 smithyardlaw7_leased.e1 k x key t (v+1):=by
      unfold smithyardlaw7_leased.e3
      rw [hw]
    rw [← hend]
    cases hk:sEq n.Key key
    · obtain ⟨m,hm'⟩:∃ m,big=m+1:=⟨big - 1,by unfold big; omega⟩
      rw [hm',smithyardlaw7_leased.l4,hat]
      simp only [Option.bind_some,hk]
      cases decide ((0:Int)<(n.Refs.length:Int)) <;> rfl
    · have hkk:=sEq_iff.1 hk
      refine selfLoop (L:=fun k' v'=>smithyardlaw7_leased.l4 (smithyardlaw7_leased.e3 (smithyardlaw7_leased.l2 smithyardlaw7_leased.e1 k)) k' x key t v v') (n:=n.Refs.length) (by omega) (fun k' v' v0' v1'=>?_) (fun k'=>?_)
      · obtain ⟨hn',hat'⟩:=at?_get (xs:=n.Refs) v0' v1'
        obtain ⟨b,b1,b2,b3,b4⟩:=hl hkk _ (List.getElem_mem hn')
        obtain ⟨z,bb,eb,hbb,hz⟩:=blob_law (c:=x) (by have:=hx.bl; omega) n.Refs[v'.toNat]
        have hbt:bb=true:=by rw [hbb]; exact hasK_iff.2 ⟨b,b1,b2⟩
        obtain ⟨z1,z2⟩:=hz hbt
        have:z=b:=key_inj (key:=fun x:Blob=>x.Digest) hx.bs z z1 b b1 (z2.trans b2.symm)
        subst this
        simp only [smithyardlaw7_leased.l4,hat,Option.bind_some,decide_eq_true v1',cond_true,hk,hat',eb,hbt,Bool.not_true,cond_false,ht]
        rw [b3,decide_eq_false (by omega),w64_id (by omega) (by omega)]
        simp only [bne_self_eq_false,cond_false,Option.bind_some]
      · simp only [smithyardlaw7_leased.l4,hat,Option.bind_some,decide_eq_false (Int.lt_irrefl _),cond_false]
  · simp only [smithyardlaw7_leased.l2,decide_eq_false (Int.lt_irrefl _),cond_false,smithyardlaw7_leased.e1]
theorem whole_yes {c:Cache} (ok:OkCache c) {key:ByteArray} (h1:isDigB key=true) (h2:wholeB c key=true):cache_Whole.f (⟨c.Room,c.Lease,c.Blobs,c.Entries⟩:Cache) key=some (true,0):=by
  refine (wholeP (c:=c) ok.fit key).trans ?_
  unfold wholeS
  rw [ok.check]
  simp only [Option.bind_some,bne_self_eq_false,cond_false,h1,cond_true,h2]
theorem CacheFindsWhole_pure:CacheFindsWhole_Pure:=by
  intro c key ds t hc hkey hds ht
  have hf:=fit_of hc
  have hsd:=(strs_raw hds.1 hds.2).1
  have hs0:smallStrs (findEv key t).Digests:=⟨Nat.zero_le _,fun x hx=>by cases hx⟩
  have hj:smithyardlaw7_CacheFindsWhole.j1 c key ds t=some true:=by
    unfold smithyardlaw7_CacheFindsWhole.j1
    rw [doS_prog (e:=(⟨6,t,ByteArray.empty,ds,key,0⟩:CacheEvent)) hf hsd]
    rcases doS_cases c (⟨6,t,ByteArray.empty,ds,key,0⟩:CacheEvent) with ⟨f,hf0,q⟩ | ⟨ok,hev,hn,h0,q⟩
    · rw [q]
      have:(f != 0)=true:=by simpa using hf0
      simp only [Option.bind_some,this,cond_true,noA,Bool.not_false,awake7]
    rw [q]
    have hk:doK c (⟨6,t,ByteArray.empty,ds,key,0⟩:CacheEvent)=((storeS c (⟨6,t,ByteArray.empty,ds,key,0⟩:CacheEvent)).1,0,(storeS c (⟨6,t,ByteArray.empty,ds,key,0⟩:CacheEvent)).2):=rfl
    obtain ⟨ok',hn'⟩:=doK_ok ok hev hn h0
    obtain ⟨hdl,_,⟨ht0,ht1⟩,_,hbad,_⟩:=eventS_zero hev
    simp only at ht0 ht1 hdl
    have hdig:isDigB key=true:=by
      unfold badS at hbad
      rw [Bool.or_eq_false_iff] at hbad
      simpa [fieldsS] using hbad.2
    rw [hk] at ok' hn' ⊢
    simp only at ok' hn' ⊢
    have hsw:=store_whole (c:=c) ok (e:=(⟨6,t,ByteArray.empty,ds,key,0⟩:CacheEvent))
    simp only at hsw
    generalize storeS c (⟨6,t,ByteArray.empty,ds,key,0⟩:CacheEvent)=r at *
    simp only [Option.bind_some,bne_self_eq_false,cond_false]
    cases hd:r.1.Done
    · simp only [Bool.not_false,cond_true,awake7,Option.bind_some]
    · obtain ⟨w1,n,n1,n2,n3⟩:=hsw hd
      have hyl:=ok'.el
      have e4:=whole_yes ok' hdig w1
      obtain ⟨z,b,eb,hbb,hz⟩:=entry_law (c:=r.2) (by omega) key
      have e5:smithyardlaw7_entry.f (⟨r.2.Room,r.2.Lease,r.2.Blobs,r.2.Entries⟩:Cache) key=some (z,b):=eb
      have hbt:b=true:=by rw [hbb]; exact hasK_iff.2 ⟨n,n1,n2⟩
      obtain ⟨z1,z2⟩:=hz hbt
      have:z=n:=key_inj (key:=fun x:Entry=>x.Key) ok'.es z z1 n n1 (z2.trans n2.symm)
      subst this
      have e6:cache_Do.f (⟨r.2.Room,r.2.Lease,r.2.Blobs,r.2.Entries⟩:Cache) (⟨7,t,ByteArray.empty,([]:List ByteArray),key,0⟩:CacheEvent)=some ((searchS r.2 (findEv key t)).2,(searchS r.2 (findEv key t)).1,0) :=
        (doS_prog (c:=r.2) (e:=findEv key t) ok'.fit hs0).trans (find_do ok' hdig ht0 ht1 hn')
      have hdone:=search_of_whole ok' (e:=findEv key t) w1
      have hls:=(search_whole ok' (e:=findEv key t) hdone).2
      obtain ⟨ok2,_⟩:=doK_ok ok' (find_ev hdig ht0 ht1) hn' (show (doK r.2 (findEv key t)).2.1=0 from rfl)
      have ok2':OkCache (searchS r.2 (findEv key t)).2:=ok2
      have e8:=leased_prog ok2' ht0 ht1 hls
      have e8':smithyardlaw7_leased.f (⟨(searchS r.2 (findEv key t)).2.Room,(searchS r.2 (findEv key t)).2.Lease,(searchS r.2 (findEv key t)).2.Blobs,(searchS r.2 (findEv key t)).2.Entries⟩:Cache) key t=some true:=e8
      simp only [Bool.not_true,cond_false,e4,e5,e6,Option.bind_some,beq_self_eq_true,cond_true,hbt,n3,slices_Equal_string_self (show ds.length≤4611686018427387904 by omega),hdone,e8',awake7]
  unfold smithyardlaw7_CacheFindsWhole.f
  have e1:cache_Do.f c (⟨7,t,ByteArray.empty,([]:List ByteArray),key,0⟩:CacheEvent)=doS c (findEv key t):=doS_prog hf hs0
  rw [e1]
  rcases doS_cases c (findEv key t) with ⟨f,hf0,q⟩ | ⟨ok,hev,hn,h0,q⟩
  · rw [q]
    have:(f == 0)=false:=by simpa using hf0
    simp only [Option.bind_some,this,cond_false,hj]
  rw [q]
  have hk:doK c (findEv key t)=((searchS c (findEv key t)).1,0,(searchS c (findEv key t)).2):=rfl
  obtain ⟨ok',hn'⟩:=doK_ok ok hev hn h0
  obtain ⟨hdl,_,⟨ht0,ht1⟩,_,hbad,_⟩:=eventS_zero hev
  have ht0:0≤t:=ht0
  have ht1:t≤1000000000:=ht1
  have hdig:isDigB key=true:=by
    unfold badS at hbad
    rw [Bool.or_eq_false_iff] at hbad
    simpa [fieldsS,findEv] using hbad.2
  rw [hk] at ok' ⊢
  simp only at ok' ⊢
  have hsw:=search_whole (c:=c) ok (e:=findEv key t)
  have hkk:(findEv key t).Key=key:=rfl
  have htt:(findEv key t).At=t:=rfl
  rw [hkk,htt] at hsw
  generalize searchS c (findEv key t)=r at *
  simp only [Option.bind_some,beq_self_eq_true,cond_true]
  cases hd:r.1.Done
  · simp only [cond_false,hj]
  · obtain ⟨w1,w2⟩:=hsw hd
    have e8:smithyardlaw7_leased.f (⟨r.2.Room,r.2.Lease,r.2.Blobs,r.2.Entries⟩:Cache) key t=some true:=leased_prog ok' ht0 ht1 w2
    simp only [cond_true,whole_yes ok' hdig w1,Option.bind_some,bne_self_eq_false,cond_false,Bool.not_true,e8,hj]
end Go.Proofs.YtkjilepjblffeaaDoor
