/- Texts of caches: Text, and that Read reads what Text wrote. -/
import Derived.Test.YtphcmcgdinkjbaaDoorPCu7
set_option linter.unusedVariables false
set_option linter.unusedSimpArgs false
namespace Go.Proofs.YtphcmcgdinkjbaaDoor
open Go Go.Proofs.YtphcmcgdinkjbaaDoor.Kit
/-! words of a right cache -/
def cleanW (s:ByteArray):Prop:=(32:UInt8) ∉ s.data.toList∧(10:UInt8) ∉ s.data.toList∧sEq emptyW s=false
theorem clean_of {p:UInt8→Bool} (h0:p 32=false) (h1:p 10=false) {s:ByteArray} (hs:1≤s.size) (ha:s.data.toList.all p=true):cleanW s:=by
  rw [List.all_eq_true] at ha
  refine ⟨fun h=>?_,fun h=>?_,?_⟩
  · have:=ha _ h; rw [h0] at this; cases this
  · have:=ha _ h; rw [h1] at this; cases this
  · obtain ⟨b,l,hl,_,_⟩:=head_cases hs
    rw [sEq_data,hl]
    simp [emptyW]
theorem clean_num {n:Int} (h0:0≤n) (h1:n≤9999999999):cleanW (numT n)∧numB (numT n)=true∧valN (numT n)=n∧(numT n).size≤10:=by
  obtain ⟨z1,z2⟩:=numT_size h0 h1
  have hv:=numV_numT h0 h1
  have hb:numB (numT n)=true:=by
    cases h:numB (numT n)
    · unfold numV at hv; rw [h] at hv; cases hv
    · rfl
  refine ⟨clean_of (p:=digitB) rfl rfl z1 (by rw [numT_data h0]; exact dd_all _),hb,by unfold valN; rw [hv],z2⟩
theorem clean_dig {s:ByteArray} (h:isDigB s=true):cleanW s∧s.size=16:=by
  unfold isDigB at h
  rw [Bool.and_eq_true,decide_eq_true_eq] at h
  exact ⟨clean_of (p:=digB) rfl rfl (by omega) h.2,h.1⟩
theorem clean_cache:cleanW cacheW:=⟨by decide,by decide,by kernel_rfl⟩
theorem clean_blob:cleanW blobW:=⟨by decide,by decide,by kernel_rfl⟩
theorem clean_entry:cleanW entryW:=⟨by decide,by decide,by kernel_rfl⟩
def cleanL (ws:List ByteArray):Prop:=ws≠[]∧∀ w∈ws,cleanW w
theorem clean_any {ws:List ByteArray} (h:cleanL ws):ws.any (fun x=>sEq emptyW x)=false:=by
  rw [List.any_eq_false]
  intro x hx
  rw [(h.2 x hx).2.2]
  simp
theorem mem_joinB {b:UInt8}:∀ {ws:List ByteArray},b∈joinB ws→b=32∨∃ w∈ws,b∈w.data.toList
  | [],h=>by simp [joinB,joinK] at h
  | [x],h=>.inr ⟨x,by simp,by simpa [joinB,joinK] using h⟩
  | x::y::l,h=>by
    rw [joinB_cons x (by simp)] at h
    rcases List.mem_append.1 h with h | h
    · exact .inr ⟨x,by simp,h⟩
    · rcases List.mem_cons.1 h with h | h
      · exact .inl h
      · rcases mem_joinB h with h | ⟨w,hw,hb⟩
        · exact .inl h
        · exact .inr ⟨w,by simp only [List.mem_cons] at hw ⊢; exact .inr hw,hb⟩
theorem line_no {ws:List ByteArray} (h:cleanL ws):(10:UInt8) ∉ joinB ws:=fun hm=>by
  rcases mem_joinB hm with h1 | ⟨w,hw,hb⟩
  · cases h1
  · exact (h.2 w hw).2.1 hb
theorem read_step {ws:List ByteArray} (h:cleanL ws) {t r:ByteArray} (ht:t.data.toList=lineL ws++r.data.toList) (hz:t.size≤3000000) {c c':Cache} {i:Int} (hl:lineV c (i == 0) ws=some c') (k:Nat):readV (k+1) t c i=readV k r c' (i+1):=by
  have hs:t.data.toList=(⟨(joinB ws).toArray⟩:ByteArray).data.toList++10::r.data.toList:=by rw [ht]; simp [lineL]
  have hw:wordsOf (⟨(joinB ws).toArray⟩:ByteArray)=ws:=words_join h.1 (fun w hw=>(h.2 w hw).1) rfl
  have he:sEq t emptyW=false:=by
    rw [sEq_data,hs]
    simp [emptyW]
  rw [readV,he,cut_at hs (line_no h) (by omega)]
  simp only [Bool.not_false,Bool.or_true,cond_true,Option.bind_some,Bool.not_true,cond_false,hw,hl]
theorem head_line {c:Cache} (h:OkCache c):cleanL (headWs c.Room c.Lease)∧lineV noC true (headWs c.Room c.Lease)=some ⟨c.Room,c.Lease,[],[]⟩:=by
  obtain ⟨a1,a2,a3,_⟩:=clean_num h.room0 (show c.Room≤9999999999 by have:=h.room1; omega)
  obtain ⟨b1,b2,b3,_⟩:=clean_num h.lease0 (show c.Lease≤9999999999 by have:=h.lease1; omega)
  have hc:cleanL (headWs c.Room c.Lease):=⟨by simp [headWs],fun w hw=>by
    simp only [headWs,List.mem_cons,List.not_mem_nil,or_false] at hw
    rcases hw with rfl | rfl | rfl
    · exact clean_cache
    · exact a1
    · exact b1⟩
  refine ⟨hc,?_⟩
  unfold lineV
  rw [clean_any hc]
  simp only [cond_false,cond_true,headWs,headV,a2,a3,b2,b3,noC,sEq_self,Bool.and_self]
theorem blob_line {x:Blob} (h:okBlob x):cleanL (blobWs x)∧∀ R L B,lineV ⟨R,L,B,[]⟩ false (blobWs x)=some ⟨R,L,B++[x],[]⟩:=by
  obtain ⟨h1,h2,h3,h4,h5,h6,h7,h8,h9⟩:=h
  obtain ⟨a1,a2,a3,_⟩:=clean_num h2 (show x.Size≤9999999999 by omega)
  obtain ⟨b1,b2,b3,_⟩:=clean_num h4 (show x.Used≤9999999999 by omega)
  obtain ⟨c1,c2,c3,_⟩:=clean_num h6 (show x.Until≤9999999999 by omega)
  obtain ⟨d1,d2,d3,_⟩:=clean_num h8 (show x.Pins≤9999999999 by omega)
  have hc:cleanL (blobWs x):=⟨by simp [blobWs],fun w hw=>by
    simp only [blobWs,List.mem_cons,List.not_mem_nil,or_false] at hw
    rcases hw with rfl | rfl | rfl | rfl | rfl | rfl
    · exact clean_blob
    · exact (clean_dig h1).1
    · exact a1
    · exact b1
    · exact c1
    · exact d1⟩
  refine ⟨hc,fun R L B=>?_⟩
  unfold lineV
  rw [clean_any hc]
  simp only [cond_false,blobWs,blobV_six,a2,a3,b2,b3,c2,c3,d2,d3,sEq_self,Bool.and_self,List.length_nil,decide_true,cond_true]
theorem ent_line {x:Entry} (h:okEntry x):cleanL (entWs x)∧∀ R L B E,lineV ⟨R,L,B,E⟩ false (entWs x)=some ⟨R,L,B,E++[x]⟩:=by
  obtain ⟨h1,h2,h3,h4,h5⟩:=h
  obtain ⟨a1,a2,a3,_⟩:=clean_num h4 (show x.Used≤9999999999 by omega)
  have hc:cleanL (entWs x):=⟨by simp [entWs],fun w hw=>by
    simp only [entWs,List.mem_cons] at hw
    rcases hw with rfl | rfl | rfl | hw
    · exact clean_entry
    · exact (clean_dig h1).1
    · exact a1
    · exact (clean_dig (h3.1 w hw)).1⟩
  refine ⟨hc,fun R L B E=>?_⟩
  have hb:∀ c:Cache,blobV c (entWs x)=entV c (entWs x):=by
    intro c
    by_cases h6:∃ w d a b e f,entWs x=[w,d,a,b,e,f]
    · obtain ⟨w,d,a,b,e,f,h6⟩:=h6
      rw [h6,blobV_six]
      have hw:w=entryW:=by
        have:=congrArg List.head? h6
        simpa [entWs] using this.symm
      subst hw
      rw [show sEq entryW blobW=false by kernel_rfl]
      rfl
    · unfold blobV
      split
      · rename_i heq
        exact absurd ⟨_,_,_,_,_,_,heq⟩ h6
      · rfl
  unfold lineV
  rw [clean_any hc]
  simp only [cond_false,hb]
  simp only [entWs,entV,a2,a3,sEq_self,Bool.and_self,cond_true]
theorem read_ents {R L:Int} {B:List Blob}:∀ (es E:List Entry) (k:Nat) (i:Int) (t:ByteArray),1≤i→(∀ x∈es,okEntry x)→t.data.toList=es.flatMap (fun x=>lineL (entWs x))→es.length<k→t.size≤3000000→readV k t ⟨R,L,B,E⟩ i=readE ⟨R,L,B,E++es⟩
  | [],E,k,i,t,hi,_,ht,hk,_=>by
    obtain ⟨k,rfl⟩:∃ m,k=m+1:=⟨k - 1,by simp at hk; omega⟩
    have h1:((i == 0):Bool)=false:=by simp; omega
    have h2:sEq t emptyW=true:=by rw [sEq_data,ht]; simp [emptyW]
    rw [readV,h1,h2,List.append_nil]
    rfl
  | x::es,E,k,i,t,hi,ho,ht,hk,hz=>by
    obtain ⟨k,rfl⟩:∃ m,k=m+1:=⟨k - 1,by simp at hk; omega⟩
    have h1:((i == 0):Bool)=false:=by simp; omega
    obtain ⟨hc,hl⟩:=ent_line (ho x (by simp))
    have ht':t.data.toList=lineL (entWs x)++(⟨(es.flatMap (fun x=>lineL (entWs x))).toArray⟩:ByteArray).data.toList:=by rw [ht]; simp
    have hsz:(⟨(es.flatMap (fun x=>lineL (entWs x))).toArray⟩:ByteArray).size≤t.size:=by
      rw [← ba_len t,ht',List.length_append,ba_len]
      omega
    rw [read_step hc ht' hz (c':=⟨R,L,B,E++[x]⟩) (by rw [h1]; exact hl R L B E),read_ents es (E++[x]) k (i+1) _ (by omega) (fun y hy=>ho y (by simp [hy])) rfl (by simpa using hk) (by omega),List.append_assoc]
    rfl
theorem read_blobs {R L:Int} {es:List Entry} (he:∀ x∈es,okEntry x):∀ (bs B:List Blob) (k:Nat) (i:Int) (t:ByteArray),1≤i→(∀ x∈bs,okBlob x)→t.data.toList=bs.flatMap (fun x=>lineL (blobWs x))++es.flatMap (fun x=>lineL (entWs x))→bs.length+es.length<k→t.size≤3000000 →
    readV k t ⟨R,L,B,[]⟩ i=readE ⟨R,L,B++bs,es⟩
  | [],B,k,i,t,hi,_,ht,hk,hz=>by
    rw [read_ents es [] k i t hi he (by simpa using ht) (by simpa using hk) hz,List.append_nil]
    rfl
  | x::bs,B,k,i,t,hi,ho,ht,hk,hz=>by
    obtain ⟨k,rfl⟩:∃ m,k=m+1:=⟨k - 1,by simp at hk; omega⟩
    have h1:((i == 0):Bool)=false:=by simp; omega
    obtain ⟨hc,hl⟩:=blob_line (ho x (by simp))
    have ht':t.data.toList=lineL (blobWs x)++(⟨(bs.flatMap (fun x=>lineL (blobWs x))++es.flatMap (fun x=>lineL (entWs x))).toArray⟩:ByteArray).data.toList:=by rw [ht]; simp
    have hsz:(⟨(bs.flatMap (fun x=>lineL (blobWs x))++es.flatMap (fun x=>lineL (entWs x))).toArray⟩:ByteArray).size≤t.size:=by
      rw [← ba_len t,ht',List.length_append,ba_len]
      omega
    rw [read_step hc ht' hz (c':=⟨R,L,B++[x],[]⟩) (by rw [h1]; exact hl R L B),read_blobs he bs (B++[x]) k (i+1) _ (by omega) (fun y hy=>ho y (by simp [hy])) rfl (by rw [List.length_cons] at hk; omega) (by omega),List.append_assoc]
    rfl
theorem read_text {c:Cache} (hc:cacheS c=some 0) (hz:(textS c).size≤2000000):readV big (textS c) noC 0=some (c,0,0):=by
  have ho:=cacheS_ok hc
  obtain ⟨h1,h2⟩:=head_line ho
  have ht:(textS c).data.toList=lineL (headWs c.Room c.Lease)++(⟨(c.Blobs.flatMap (fun x=>lineL (blobWs x))++c.Entries.flatMap (fun x=>lineL (entWs x))).toArray⟩:ByteArray).data.toList:=rfl
  have hsz:(⟨(c.Blobs.flatMap (fun x=>lineL (blobWs x))++c.Entries.flatMap (fun x=>lineL (entWs x))).toArray⟩:ByteArray).size≤(textS c).size:=by
    rw [← ba_len (textS c),ht,List.length_append,ba_len]
    omega
  obtain ⟨k,hk⟩:∃ k,big=k+1:=⟨big - 1,by unfold big; omega⟩
  have hbig:100000<big:=by unfold big; omega
  rw [hk,read_step h1 ht (by omega) (c':=⟨c.Room,c.Lease,[],[]⟩) h2,read_blobs ho.ee c.Blobs [] k (0+1) _ (by omega) ho.be rfl (by have:=ho.bl; have:=ho.el; omega) (by omega)]
  have e:(⟨c.Room,c.Lease,[]++c.Blobs,c.Entries⟩:Cache)=c:=rfl
  rw [e]
  unfold readE
  rw [hc]
  rfl
/-! Text -/
def appB (b:ByteArray) (L:List UInt8):ByteArray:=⟨(b.data.toList++L).toArray⟩
theorem appB_size (b:ByteArray) (L:List UInt8):(appB b L).size=b.size+L.length:=by
  rw [← ba_len,← ba_len b]
  unfold appB
  simp
theorem appB_app (b:ByteArray) (L M:List UInt8):appB (appB b L) M=appB b (L++M):=by
  refine ba_ext ?_
  unfold appB
  simp
theorem appB_nil (b:ByteArray):appB b []=b:=by
  refine ba_ext ?_
  unfold appB
  simp
theorem text1 {x y:ByteArray} {l:List ByteArray} {b:ByteArray} (hz:x.size+y.size+sumZ l+l.length≤1000000) (hb:b.size≤50000000):cache_Text_1.f (x::y::l) b=some (appB b (lineL (x::y::l))):=by
  have hj:(joinS (x::y::l)).size≤2000010:=by
    have:=joinB_size (x::y::l)
    rw [← ba_len]
    show (joinB (x::y::l)).length≤_
    rw [sumZ,sumZ,List.length_cons,List.length_cons] at this
    omega
  have zn:({ data:=#[10] }:ByteArray).size=1:=rfl
  unfold cache_Text_1.f
  rw [join_gen (by omega)]
  simp only [Option.bind_some]
  rw [guard?_true (decide_eq_true (by rw [zn]; omega)),guard?_true (decide_eq_true (by rw [ByteArray.size_append,zn]; omega))]
  congr 1
theorem line_len (ws:List ByteArray):(lineL ws).length≤sumZ ws+ws.length+1:=by
  have:=joinB_size ws
  unfold lineL
  rw [List.length_append,List.length_singleton]
  omega
def blobT (x:Blob) (s:ByteArray) (f:ByteArray→Option (ByteArray × Int)):Option (ByteArray × Int) :=
  (strconv_Itoa.f x.Size).bind fun y7=>(strconv_Itoa.f x.Used).bind fun y8=>(strconv_Itoa.f x.Until).bind fun y9=>(strconv_Itoa.f x.Pins).bind fun y10 =>
  (cache_Text_1.f ([blobW,x.Digest,y7,y8,y9,y10]:List ByteArray) s).bind fun y11=>f y11
theorem blobT_eq {x:Blob} (h:okBlob x) {s:ByteArray} (hs:s.size≤50000000) (f:ByteArray→Option (ByteArray × Int)):blobT x s f=f (appB s (lineL (blobWs x)))∧(lineL (blobWs x)).length≤100:=by
  obtain ⟨h1,h2,h3,h4,h5,h6,h7,h8,h9⟩:=h
  obtain ⟨-,-,-,a⟩:=clean_num h2 (show x.Size≤9999999999 by omega)
  obtain ⟨-,-,-,b⟩:=clean_num h4 (show x.Used≤9999999999 by omega)
  obtain ⟨-,-,-,c⟩:=clean_num h6 (show x.Until≤9999999999 by omega)
  obtain ⟨-,-,-,d⟩:=clean_num h8 (show x.Pins≤9999999999 by omega)
  have e:=(clean_dig h1).2
  have zb:blobW.size=4:=rfl
  have hl:=line_len (blobWs x)
  simp only [blobWs,sumZ,List.length_cons,List.length_nil,zb,e] at hl
  refine ⟨?_,by unfold blobWs; omega⟩
  unfold blobT
  rw [itoa_eq (n:=x.Size) (by omega) (by omega),itoa_eq (n:=x.Used) (by omega) (by omega),itoa_eq (n:=x.Until) (by omega) (by omega),itoa_eq (n:=x.Pins) (by omega) (by omega)]
  simp only [Option.bind_some]
  rw [text1 (by simp only [sumZ,List.length_cons,List.length_nil,zb,e]; omega) hs]
  rfl
def entT (x:Entry) (s:ByteArray) (f:ByteArray→Option (ByteArray × Int)):Option (ByteArray × Int) :=
  (strconv_Itoa.f x.Used).bind fun y5=>guard? (room 3 x.Refs.length 16) ((cache_Text_1.f (([entryW,x.Key,y5]:List ByteArray)++x.Refs) s).bind fun y6=>f y6)
theorem entT_eq {x:Entry} (h:okEntry x) {s:ByteArray} (hs:s.size≤50000000) (f:ByteArray→Option (ByteArray × Int)):entT x s f=f (appB s (lineL (entWs x)))∧(lineL (entWs x)).length≤4000:=by
  obtain ⟨h1,h2,h3,h4,h5⟩:=h
  obtain ⟨-,-,-,a⟩:=clean_num h4 (show x.Used≤9999999999 by omega)
  have e:=(clean_dig h1).2
  have ze:entryW.size=5:=rfl
  have hr:sumZ x.Refs≤x.Refs.length*16:=sumZ_le (fun y hy=>by rw [(clean_dig (h3.1 y hy)).2]; omega)
  have hl:=line_len (entWs x)
  simp only [entWs,sumZ,List.length_cons,ze,e] at hl
  refine ⟨?_,by unfold entWs; omega⟩
  unfold entT
  rw [itoa_eq (n:=x.Used) (by omega) (by omega)]
  simp only [Option.bind_some]
  rw [guard?_true (room_of (by omega)),show (([entryW,x.Key,numT x.Used]:List ByteArray)++x.Refs)=entryW::x.Key::(numT x.Used::x.Refs) from rfl,text1 (by simp only [sumZ,List.length_cons,ze,e]; omega) hs]
  rfl
theorem ents_range {E:ByteArray→Option (ByteArray × Int)}:∀ (l:List Entry) (i:Int) (s:ByteArray),(∀ x∈l,okEntry x)→s.size+4000*l.length≤40000000→rangeS (fun _ x s f=>entT x s f) E i l s=E (appB s (l.flatMap (fun x=>lineL (entWs x))))
  | [],i,s,_,_=>by rw [List.flatMap_nil,appB_nil]; rfl
  | x::l,i,s,ho,hz=>by
    rw [List.length_cons] at hz
    obtain ⟨h1,h2⟩:=entT_eq (ho x (by simp)) (s:=s) (by omega) (fun s'=>rangeS (fun _ x s f=>entT x s f) E (i+1) l s')
    rw [rangeS,h1,ents_range l (i+1) _ (fun y hy=>ho y (by simp [hy])) (by rw [appB_size]; omega),appB_app,List.flatMap_cons]
theorem blobs_range {E:ByteArray→Option (ByteArray × Int)}:∀ (l:List Blob) (i:Int) (s:ByteArray),(∀ x∈l,okBlob x)→s.size+100*l.length≤40000000→rangeS (fun _ x s f=>blobT x s f) E i l s=E (appB s (l.flatMap (fun x=>lineL (blobWs x))))∧(l.flatMap (fun x=>lineL (blobWs x))).length≤100*l.length
  | [],i,s,_,_=>by rw [List.flatMap_nil,appB_nil]; exact ⟨rfl,Nat.le_refl _⟩
  | x::l,i,s,ho,hz=>by
    rw [List.length_cons] at hz
    obtain ⟨h1,h2⟩:=blobT_eq (ho x (by simp)) (s:=s) (by omega) (fun s'=>rangeS (fun _ x s f=>blobT x s f) E (i+1) l s')
    obtain ⟨k1,k2⟩:=blobs_range l (i+1) (appB s (lineL (blobWs x))) (fun y hy=>ho y (by simp [hy])) (by rw [appB_size]; omega)
    rw [rangeS,h1,k1,appB_app,List.flatMap_cons,List.length_append,List.length_cons]
    exact ⟨rfl,by omega⟩
def textR (c:Cache):Option (ByteArray × Int):=(cacheS c).bind fun y=>bif y != 0 then some (emptyW,y) else some (bif decide (2000000<((textS c).size:Int)) then (emptyW,2) else (textS c,0))
theorem text_prog {c:Cache} (h:smallCache c):cache_Text.f c=textR c:=by
  unfold cache_Text.f textR
  rw [check_prog h]
  obtain ⟨r,hr⟩:=cacheS_some c
  rw [hr]
  simp only [Option.bind_some]
  by_cases h0:r=0
  · subst h0
    have ho:=cacheS_ok hr
    simp only [bne_self_eq_false,cond_false]
    have r0:=ho.room0; have r1:=ho.room1; have l0:=ho.lease0; have l1:=ho.lease1
    obtain ⟨-,-,-,a⟩:=clean_num r0 (show c.Room≤9999999999 by omega)
    obtain ⟨-,-,-,b⟩:=clean_num l0 (show c.Lease≤9999999999 by omega)
    have zc:cacheW.size=5:=rfl
    have z0:(⟨#[]⟩:ByteArray).size=0:=rfl
    have hl:=line_len (headWs c.Room c.Lease)
    simp only [headWs,sumZ,List.length_cons,List.length_nil,zc] at hl
    have ht:=text1 (x:=cacheW) (y:=numT c.Room) (l:=[numT c.Lease]) (b:=⟨#[]⟩) (by simp only [sumZ,List.length_cons,List.length_nil,zc]; omega) (by omega)
    unfold cacheW at ht
    rw [itoa_eq (n:=c.Room) (by omega) (by omega),itoa_eq (n:=c.Lease) (by omega) (by omega)]
    simp only [Option.bind_some]
    rw [ht]
    simp only [Option.bind_some]
    have h1:=rangeS_all (xs:=c.Blobs) (S:=ByteArray) (L:=fun k s v=>cache_Text.l4 cache_Text.e1 k c s v) (body:=fun _ x s f=>blobT x s f) (e:=cache_Text.e1 c) (by have:=ho.bl; omega) (fun k s v=>by
      simp only [cache_Text.l4]
      congr 1) (appB ⟨#[]⟩ (lineL [({ data:=#[99,97,99,104,101] }:ByteArray),numT c.Room,numT c.Lease]))
    have e0:lineL [({ data:=#[99,97,99,104,101] }:ByteArray),numT c.Room,numT c.Lease]=lineL (headWs c.Room c.Lease):=rfl
    rw [e0] at h1 ⊢
    refine h1.trans ?_
    have hbl:=ho.bl
    have hel:=ho.el
    have hlh:(lineL (headWs c.Room c.Lease)).length≤100:=by unfold headWs; omega
    obtain ⟨k1,k2⟩:=blobs_range (E:=cache_Text.e1 c) c.Blobs 0 (appB ⟨#[]⟩ (lineL (headWs c.Room c.Lease))) ho.be (by rw [appB_size,z0]; omega)
    rw [k1]
    unfold cache_Text.e1
    have h2:=rangeS_all (xs:=c.Entries) (S:=ByteArray) (L:=fun k s v=>cache_Text.l3 cache_Text.e2 k c s v) (body:=fun _ x s f=>entT x s f) (e:=cache_Text.e2) (by omega) (fun k s v=>by
      simp only [cache_Text.l3]
      congr 1) (appB (appB ⟨#[]⟩ (lineL (headWs c.Room c.Lease))) (c.Blobs.flatMap (fun x=>lineL (blobWs x))))
    refine h2.trans ?_
    rw [ents_range c.Entries 0 _ ho.ee (by rw [appB_size,appB_size,z0]; omega),appB_app,appB_app]
    have e:appB ⟨#[]⟩ (lineL (headWs c.Room c.Lease)++(c.Blobs.flatMap (fun x=>lineL (blobWs x))++c.Entries.flatMap (fun x=>lineL (entWs x))))=textS c:=rfl
    rw [e]
    unfold cache_Text.e2
    cases decide (2000000<((textS c).size:Int)) <;> rfl
  · have:(r != 0)=true:=by simpa using h0
    rw [this]
    rfl
end Go.Proofs.YtphcmcgdinkjbaaDoor
