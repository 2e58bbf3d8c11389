/- Texts of caches: the loops of Read and Text. -/
import Derived.Test.YtnfgkhmhdefagaaGreatDoorPCt7
set_option linter.unusedVariables false
set_option linter.unusedSimpArgs false
namespace Go.Proofs.YtnfgkhmhdefagaaGreatDoor
open Go Go.Proofs.YtnfgkhmhdefagaaGreatDoor.Kit
/-! cutting lines -/
theorem byte_no (c:UInt8):∀ (a:List UInt8),c ∉ a→Lib.indexByte a c = -1
  | [],_=>rfl
  | b::a,h=>by
    have hb:b≠c:=fun e=>h (by simp [e])
    rw [Lib.indexByte,if_neg (by simpa using hb),byte_no c a (fun e=>h (by simp [e]))]
    rfl
theorem cut_no {s:ByteArray} (h:(10:UInt8) ∉ s.data.toList):strings_Cut.f s ({ data:=#[10] }:ByteArray)=some (s,({ data:=#[] }:ByteArray),false):=by
  have hi:stringslite_Index.f s ({ data:=#[10] }:ByteArray)=some (-1):=by
    unfold stringslite_Index.f
    rw [guard?_true (show decide (({ data:=#[10] }:ByteArray).data.toList.length=1)=true from rfl)]
    show some (Lib.indexByte s.data.toList 10)=_
    rw [byte_no 10 _ h]
  unfold strings_Cut.f stringslite_Cut.f
  rw [hi]
  rfl
theorem cut_any (s:ByteArray) (hz:s.size≤1000000000):(∃ a r:ByteArray,s.data.toList=a.data.toList++10::r.data.toList∧a.size+1+r.size=s.size∧strings_Cut.f s ({ data:=#[10] }:ByteArray)=some (a,r,true))∨strings_Cut.f s ({ data:=#[10] }:ByteArray)=some (s,({ data:=#[] }:ByteArray),false):=by
  by_cases h:(10:UInt8)∈s.data.toList
  · obtain ⟨a,r,hs,ha⟩:=List.eq_append_cons_of_mem h
    have hs':s.data.toList=(⟨a.toArray⟩:ByteArray).data.toList++10::(⟨r.toArray⟩:ByteArray).data.toList:=hs
    refine .inl ⟨⟨a.toArray⟩,⟨r.toArray⟩,hs',?_,cut_at hs' ha hz⟩
    rw [← ba_len s,hs',List.length_append,List.length_cons,ba_len,ba_len]
    omega
  · exact .inr (cut_no h)
/-! what a line's words say of the text -/
theorem num_line {s:ByteArray} (h:numB s=true):numT (valN s)=s:=by
  obtain ⟨n,h1,h2,_⟩:=num_back h
  unfold valN
  rw [h1]
  exact h2
theorem head_text {c c':Cache} {ws:List ByteArray} (h:headV c ws=some c'):ws=headWs c'.Room c'.Lease∧c'.Blobs=c.Blobs∧c'.Entries=c.Entries:=by
  unfold headV at h
  split at h
  · rename_i w a b
    cases hc:sEq w cacheW&&(numB a&&numB b)
    · rw [hc] at h; cases h
    · rw [hc] at h
      simp only [Bool.and_eq_true] at hc
      obtain ⟨h1,h2,h3⟩:=hc
      obtain rfl:=Option.some.inj h
      unfold headWs
      rw [sEq_iff.1 h1,num_line h2,num_line h3]
      exact ⟨rfl,rfl,rfl⟩
  · cases h
theorem ent_text {c c':Cache} {ws:List ByteArray} (h:entV c ws=some c'):∃ x,ws=entWs x∧c'=⟨c.Room,c.Lease,c.Blobs,c.Entries++[x]⟩:=by
  unfold entV at h
  split at h
  · rename_i w k u refs
    cases hc:sEq w entryW&&numB u
    · rw [hc] at h; cases h
    · rw [hc] at h
      simp only [Bool.and_eq_true] at hc
      obtain rfl:=Option.some.inj h
      refine ⟨⟨k,refs,valN u⟩,?_,rfl⟩
      unfold entWs
      rw [sEq_iff.1 hc.1,num_line hc.2]
  · cases h
theorem blob_text {c c':Cache} {ws:List ByteArray} (h:blobV c ws=some c'):(∃ x,ws=entWs x∧c'=⟨c.Room,c.Lease,c.Blobs,c.Entries++[x]⟩)∨(c.Entries=[]∧∃ x,ws=blobWs x∧c'=⟨c.Room,c.Lease,c.Blobs++[x],c.Entries⟩):=by
  by_cases h6:∃ w d a b e f,ws=[w,d,a,b,e,f]
  · obtain ⟨w,d,a,b,e,f,rfl⟩:=h6
    rw [blobV_six] at h
    cases hc:sEq w blobW&&decide (c.Entries.length=0)
    · rw [hc] at h
      exact .inl (ent_text h)
    · rw [hc] at h
      cases hn:(numB a&&(numB b&&(numB e&&numB f)))
      · rw [hn] at h; cases h
      · rw [hn] at h
        simp only [Bool.and_eq_true,decide_eq_true_eq] at hc hn
        obtain rfl:=Option.some.inj h
        refine .inr ⟨List.eq_nil_of_length_eq_zero hc.2,⟨d,valN a,valN b,valN e,valN f⟩,?_,rfl⟩
        unfold blobWs
        rw [sEq_iff.1 hc.1,num_line hn.1,num_line hn.2.1,num_line hn.2.2.1,num_line hn.2.2.2]
  · have e:blobV c ws=entV c ws:=by
      unfold blobV
      split
      · exact absurd ⟨_,_,_,_,_,_,rfl⟩ h6
      · rfl
    rw [e] at h
    exact .inl (ent_text h)
def pieces (c:Cache) (first:Bool):List UInt8:=bif first then [] else textL c
theorem line_text {c c':Cache} {first:Bool} {s:ByteArray} (h:lineV c first (wordsOf s)=some c') (h0:first=true→c.Blobs=[]∧c.Entries=[]):textL c'=pieces c first++(s.data.toList++[10]):=by
  obtain ⟨hj,_,_⟩:=join_words s
  unfold lineV at h
  rw [← hj]
  generalize wordsOf s=ws at *
  cases ha:ws.any (fun x=>sEq emptyW x)
  · rw [ha] at h
    cases first
    · simp only [cond_false] at h
      unfold pieces textL
      simp only [cond_false]
      rcases blob_text h with ⟨x,rfl,rfl⟩ | ⟨he,x,rfl,rfl⟩
      · simp [lineL]
      · simp [he,lineL]
    · simp only [cond_false,cond_true] at h
      obtain ⟨rfl,h1,h2⟩:=head_text h
      obtain ⟨k1,k2⟩:=h0 rfl
      unfold pieces textL
      rw [h1,h2,k1,k2]
      simp [lineL]
  · rw [ha] at h; cases h
/-! sizes -/
theorem mem_join {w:ByteArray}:∀ {ws:List ByteArray},w∈ws→w.size≤(joinB ws).length
  | [x],h=>by
    obtain rfl:w=x:=by simpa using h
    simp [joinB,joinK]
  | x::y::l,h=>by
    rw [joinB_cons x (by simp),List.length_append,List.length_cons,ba_len]
    rcases List.mem_cons.1 h with rfl | h
    · omega
    · have:=mem_join h
      omega
theorem words_size {s w:ByteArray} (h:w∈wordsOf s):w.size≤s.size:=by
  have:=mem_join h
  rw [(join_words s).1,ba_len] at this
  exact this
def bndC (c:Cache) (n:Nat):Prop:=c.Blobs.length+c.Entries.length≤n∧(∀ x∈c.Blobs,x.Digest.size≤4000000)∧∀ x∈c.Entries,x.Key.size≤4000000∧x.Refs.length≤4000000∧∀ y∈x.Refs,y.size≤4000000
theorem bnd_small {c:Cache} {n:Nat} (h:bndC c n) (hn:n≤4000000):smallCache c:=by
  obtain ⟨h1,h2,h3⟩:=h
  exact ⟨⟨by omega,fun x hx=>by have:=h2 x hx; omega⟩,⟨by omega,fun x hx=>by
    obtain ⟨k1,k2,k3⟩:=h3 x hx
    exact ⟨by omega,by omega,fun y hy=>by have:=k3 y hy; omega⟩⟩⟩
theorem line_bnd {c c':Cache} {first:Bool} {s:ByteArray} {n:Nat} (hs:s.size≤3000000) (h:lineV c first (wordsOf s)=some c') (hb:bndC c n):bndC c' (n+1):=by
  have hz:∀ w∈wordsOf s,w.size≤4000000:=fun w hw=>by have:=words_size hw; omega
  have hl:=wordsOf_length s
  obtain ⟨h1,h2,h3⟩:=hb
  unfold lineV at h
  generalize wordsOf s=ws at *
  have ent:(∃ x,ws=entWs x∧c'=⟨c.Room,c.Lease,c.Blobs,c.Entries++[x]⟩)→bndC c' (n+1):=by
    rintro ⟨x,rfl,rfl⟩
    refine ⟨by simp; omega,h2,fun y hy=>?_⟩
    rcases List.mem_append.1 hy with hy | hy
    · exact h3 y hy
    · obtain rfl:y=x:=by simpa using hy
      have hlen:y.Refs.length+3≤s.size+1:=by simpa [entWs] using hl
      exact ⟨hz _ (by simp [entWs]),by omega,fun z hz'=>hz z (by simp [entWs,hz'])⟩
  cases ha:ws.any (fun x=>sEq emptyW x)
  · rw [ha] at h
    cases first
    · simp only [cond_false] at h
      rcases blob_text h with h | ⟨he,x,rfl,rfl⟩
      · exact ent h
      · refine ⟨by simp; omega,fun y hy=>?_,h3⟩
        rcases List.mem_append.1 hy with hy | hy
        · exact h2 y hy
        · obtain rfl:y=x:=by simpa using hy
          exact hz _ (by simp [blobWs])
    · simp only [cond_false,cond_true] at h
      obtain ⟨_,k1,k2⟩:=head_text h
      exact ⟨by rw [k1,k2]; omega,by rw [k1]; exact h2,by rw [k2]; exact h3⟩
  · rw [ha] at h; cases h
/-! Read -/
def noC:Cache:=⟨0,0,[],[]⟩
def readE (c:Cache):Option (Cache × Int × Int):=(cacheS c).bind fun y=>bif y != 0 then some (noC,0,y) else some (c,0,0)
def readV:Nat→ByteArray→Cache→Int→Option (Cache × Int × Int)
  | 0,_,_,_=>none
  | k+1,t,c,i=>bif (i == 0)||!sEq t emptyW then
      (strings_Cut.f t ({ data:=#[10] }:ByteArray)).bind fun y=>bif !y.2.2 then some (noC,i+1,10) else match lineV c (i == 0) (wordsOf y.1) with
        | none=>some (noC,i+1,10)
        | some c'=>readV k y.2.1 c' (i+1)
    else readE c
theorem read_loop:∀ (k:Nat) (t:ByteArray) (c:Cache) (i:Int) (n:Nat),0≤i→bndC c n→n+t.size≤3000000→i+t.size≤4000000→cache_Read.l2 cache_Read.e1 k t c.Room c.Lease c.Blobs c.Entries i=readV k t c i
  | 0,t,c,i,n,_,_,_,_=>rfl
  | k+1,t,c,i,n,h0,hb,hn,hi=>by
    rw [cache_Read.l2,readV]
    have e1:(bif i == 0 then (some true) else (some (!sEq t ({ data:=#[] }:ByteArray))))=some ((i == 0)||!sEq t emptyW):=by
      cases i == 0 <;> rfl
    rw [e1]
    simp only [Option.bind_some]
    cases hc:((i == 0)||!sEq t emptyW)
    · simp only [cond_false]
      unfold cache_Read.e1 readE
      rw [check_prog (bnd_small hb (by omega))]
      obtain ⟨r,hr⟩:=cacheS_some c
      rw [hr]
      rfl
    · simp only [cond_true]
      have hw:w64 (i+1)=i+1:=w64_id (by omega) (by omega)
      rcases cut_any t (by omega) with ⟨a,r,hs,hz,hcut⟩ | hcut
      · rw [hcut]
        simp only [Option.bind_some,Bool.not_true,cond_false]
        rw [line_prog (c:=c) (by omega) (by have:=hb.1; omega) (by have:=hb.1; omega)]
        simp only [Option.bind_some]
        cases hl:lineV c (i == 0) (wordsOf a) with
        | none =>
          simp only [lineO,Bool.not_false,cond_true,hw]
          rfl
        | some c' =>
          simp only [lineO,Bool.not_true,cond_false,hw]
          exact read_loop k r c' (i+1) (n+1) (by omega) (line_bnd (by omega) hl hb) (by omega) (by omega)
      · rw [hcut]
        simp only [Option.bind_some,Bool.not_false,cond_true,hw]
        rfl
theorem readV_spec:∀ (k:Nat) (t:ByteArray) (c:Cache) (i:Int),0≤i→(i=0→c.Blobs=[]∧c.Entries=[])→t.size+(bif i == 0 then 1 else 0)<k→t.size≤3000000 →
    (∃ n f,readV k t c i=some (noC,n,f)∧f≠0)∨(∃ c',readV k t c i=some (c',0,0)∧cacheS c'=some 0∧textL c'=pieces c (i == 0)++t.data.toList)
  | 0,t,c,i,_,_,hk,_=>by omega
  | k+1,t,c,i,h0,hc0,hk,ht=>by
    rw [readV]
    cases hc:((i == 0)||!sEq t emptyW)
    · simp only [cond_false]
      unfold readE
      obtain ⟨r,hr⟩:=cacheS_some c
      rw [hr]
      simp only [Option.bind_some]
      simp only [Bool.or_eq_false_iff,Bool.not_eq_false'] at hc
      by_cases hr0:r=0
      · subst hr0
        refine .inr ⟨c,rfl,hr,?_⟩
        unfold pieces
        rw [hc.1,sEq_iff.1 hc.2]
        simp [emptyW]
      · have:(r != 0)=true:=by simpa using hr0
        rw [this]
        exact .inl ⟨_,_,rfl,hr0⟩
    · simp only [cond_true]
      rcases cut_any t (by omega) with ⟨a,r,hs,hz,hcut⟩ | hcut
      · rw [hcut]
        simp only [Option.bind_some,Bool.not_true,cond_false]
        cases hl:lineV c (i == 0) (wordsOf a) with
        | none=>exact .inl ⟨_,_,rfl,by decide⟩
        | some c' =>
          have h1:((i+1 == 0):Bool)=false:=by simp; omega
          have hlt:=line_text hl (fun h=>hc0 (by simpa using h))
          rcases readV_spec k r c' (i+1) (by omega) (fun h=>by omega) (by rw [h1]; simp only [cond_false]; cases hi:(i == 0) <;> (rw [hi] at hk; simp at hk; omega)) (by omega) with h | ⟨c2,k1,k2,k3⟩
          · exact .inl h
          · refine .inr ⟨c2,k1,k2,?_⟩
            rw [k3,h1,hs]
            unfold pieces at hlt ⊢
            simp only [cond_false]
            rw [hlt]
            simp
      · rw [hcut]
        exact .inl ⟨_,_,rfl,by decide⟩
theorem read_prog {t:ByteArray} (ht:t.size≤2000000):cache_Read.f t=readV big t noC 0:=by
  unfold cache_Read.f
  rw [decide_eq_false (by omega),cond_false]
  exact read_loop big t noC 0 0 (by omega) ⟨by simp [noC],fun x hx=>by simp [noC] at hx,fun x hx=>by simp [noC] at hx⟩ (by omega) (by omega)
end Go.Proofs.YtnfgkhmhdefagaaGreatDoor
