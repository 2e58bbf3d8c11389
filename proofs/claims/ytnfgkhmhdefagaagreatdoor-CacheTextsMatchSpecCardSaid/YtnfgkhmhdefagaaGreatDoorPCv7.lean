/- Texts of caches: Text, and that Read reads what Text wrote. -/
import Derived.Test.YtnfgkhmhdefagaaGreatDoorPCu7
set_option linter.unusedVariables false
set_option linter.unusedSimpArgs false
namespace Go.Proofs.YtnfgkhmhdefagaaGreatDoor
open Go Go.Proofs.YtnfgkhmhdefagaaGreatDoor.Kit
/-! words of a right cache -/
def cleanW (s:ByteArray):Prop:=(32:UInt8) ∉ s.data.toList∧(10:UInt8) ∉ s.data.toList∧sEq emptyW s=false
theorem clean_of {p:UInt8→Bool} (h0:p 32=false) (h1:p 10=false) {s:ByteArray} (hs:1≤s.size) (ha:s.data.toList.all p=true):cleanW s:=by
  rw [List.all_eq_true] at ha
  refine ⟨fun h=>?_,fun h=>?_,?_⟩
  · have:=ha _ h; rw [h0] at this; cases this
  · have:=ha _ h; rw [h1] at this; cases this
  · obtain ⟨b,l,hl,_,_⟩:=head_cases hs
    rw [sEq_data,hl]
    simp [emptyW]
theorem clean_num {n:Int} (h0:0≤n) (h1:n≤9999999999):cleanW (numT n)∧numB (numT n)=true∧valN (numT n)=n∧(numT n).size≤10:=by
  obtain ⟨z1,z2⟩:=numT_size h0 h1
  have hv:=numV_numT h0 h1
  have hb:numB (numT n)=true:=by
    cases h:numB (numT n)
    · unfold numV at hv; rw [h] at hv; cases hv
    · rfl
  refine ⟨clean_of (p:=digitB) rfl rfl z1 (by rw [numT_data h0]; exact dd_all _),hb,by unfold valN; rw [hv],z2⟩
theorem clean_dig {s:ByteArray} (h:isDigB s=true):cleanW s∧s.size=16:=by
  unfold isDigB at h
  rw [Bool.and_eq_true,decide_eq_true_eq] at h
  exact ⟨clean_of (p:=digB) rfl rfl (by omega) h.2,h.1⟩
/-! Text -/
def appB (b:ByteArray) (L:List UInt8):ByteArray:=⟨(b.data.toList++L).toArray⟩
theorem appB_size (b:ByteArray) (L:List UInt8):(appB b L).size=b.size+L.length:=by
  rw [← ba_len,← ba_len b]
  unfold appB
  simp
theorem appB_app (b:ByteArray) (L M:List UInt8):appB (appB b L) M=appB b (L++M):=by
  refine ba_ext ?_
  unfold appB
  simp
theorem appB_nil (b:ByteArray):appB b []=b:=by
  refine ba_ext ?_
  unfold appB
  simp
theorem text1 {x y:ByteArray} {l:List ByteArray} {b:ByteArray} (hz:x.size+y.size+sumZ l+l.length≤1000000) (hb:b.size≤50000000):cache_Text_1.f (x::y::l) b=some (appB b (lineL (x::y::l))):=by
  have hj:(joinS (x::y::l)).size≤2000010:=by
    have:=joinB_size (x::y::l)
    rw [← ba_len]
    show (joinB (x::y::l)).length≤_
    rw [sumZ,sumZ,List.length_cons,List.length_cons] at this
    omega
  have zn:({ data:=#[10] }:ByteArray).size=1:=rfl
  unfold cache_Text_1.f
  rw [join_gen (by omega)]
  simp only [Option.bind_some]
  rw [guard?_true (decide_eq_true (by rw [zn]; omega)),guard?_true (decide_eq_true (by rw [ByteArray.size_append,zn]; omega))]
  congr 1
theorem line_len (ws:List ByteArray):(lineL ws).length≤sumZ ws+ws.length+1:=by
  have:=joinB_size ws
  unfold lineL
  rw [List.length_append,List.length_singleton]
  omega
def blobT (x:Blob) (s:ByteArray) (f:ByteArray→Option (ByteArray × Int)):Option (ByteArray × Int) :=
  (strconv_Itoa.f x.Size).bind fun y7=>(strconv_Itoa.f x.Used).bind fun y8=>(strconv_Itoa.f x.Until).bind fun y9=>(strconv_Itoa.f x.Pins).bind fun y10 =>
  (cache_Text_1.f ([blobW,x.Digest,y7,y8,y9,y10]:List ByteArray) s).bind fun y11=>f y11
theorem blobT_eq {x:Blob} (h:okBlob x) {s:ByteArray} (hs:s.size≤50000000) (f:ByteArray→Option (ByteArray × Int)):blobT x s f=f (appB s (lineL (blobWs x)))∧(lineL (blobWs x)).length≤100:=by
  obtain ⟨h1,h2,h3,h4,h5,h6,h7,h8,h9⟩:=h
  obtain ⟨-,-,-,a⟩:=clean_num h2 (show x.Size≤9999999999 by omega)
  obtain ⟨-,-,-,b⟩:=clean_num h4 (show x.Used≤9999999999 by omega)
  obtain ⟨-,-,-,c⟩:=clean_num h6 (show x.Until≤9999999999 by omega)
  obtain ⟨-,-,-,d⟩:=clean_num h8 (show x.Pins≤9999999999 by omega)
  have e:=(clean_dig h1).2
  have zb:blobW.size=4:=rfl
  have hl:=line_len (blobWs x)
  simp only [blobWs,sumZ,List.length_cons,List.length_nil,zb,e] at hl
  refine ⟨?_,by unfold blobWs; omega⟩
  unfold blobT
  rw [itoa_eq (n:=x.Size) (by omega) (by omega),itoa_eq (n:=x.Used) (by omega) (by omega),itoa_eq (n:=x.Until) (by omega) (by omega),itoa_eq (n:=x.Pins) (by omega) (by omega)]
  simp only [Option.bind_some]
  rw [text1 (by simp only [sumZ,List.length_cons,List.length_nil,zb,e]; omega) hs]
  rfl
def entT (x:Entry) (s:ByteArray) (f:ByteArray→Option (ByteArray × Int)):Option (ByteArray × Int) :=
  (strconv_Itoa.f x.Used).bind fun y5=>guard? (room 3 x.Refs.length 16) ((cache_Text_1.f (([entryW,x.Key,y5]:List ByteArray)++x.Refs) s).bind fun y6=>f y6)
theorem entT_eq {x:Entry} (h:okEntry x) {s:ByteArray} (hs:s.size≤50000000) (f:ByteArray→Option (ByteArray × Int)):entT x s f=f (appB s (lineL (entWs x)))∧(lineL (entWs x)).length≤4000:=by
  obtain ⟨h1,h2,h3,h4,h5⟩:=h
  obtain ⟨-,-,-,a⟩:=clean_num h4 (show x.Used≤9999999999 by omega)
  have e:=(clean_dig h1).2
  have ze:entryW.size=5:=rfl
  have hr:sumZ x.Refs≤x.Refs.length*16:=sumZ_le (fun y hy=>by rw [(clean_dig (h3.1 y hy)).2]; omega)
  have hl:=line_len (entWs x)
  simp only [entWs,sumZ,List.length_cons,ze,e] at hl
  refine ⟨?_,by unfold entWs; omega⟩
  unfold entT
  rw [itoa_eq (n:=x.Used) (by omega) (by omega)]
  simp only [Option.bind_some]
  rw [guard?_true (room_of (by omega)),show (([entryW,x.Key,numT x.Used]:List ByteArray)++x.Refs)=entryW::x.Key::(numT x.Used::x.Refs) from rfl,text1 (by simp only [sumZ,List.length_cons,ze,e]; omega) hs]
  rfl
theorem ents_range {E:ByteArray→Option (ByteArray × Int)}:∀ (l:List Entry) (i:Int) (s:ByteArray),(∀ x∈l,okEntry x)→s.size+4000*l.length≤40000000→rangeS (fun _ x s f=>entT x s f) E i l s=E (appB s (l.flatMap (fun x=>lineL (entWs x))))
  | [],i,s,_,_=>by rw [List.flatMap_nil,appB_nil]; rfl
  | x::l,i,s,ho,hz=>by
    rw [List.length_cons] at hz
    obtain ⟨h1,h2⟩:=entT_eq (ho x (by simp)) (s:=s) (by omega) (fun s'=>rangeS (fun _ x s f=>entT x s f) E (i+1) l s')
    rw [rangeS,h1,ents_range l (i+1) _ (fun y hy=>ho y (by simp [hy])) (by rw [appB_size]; omega),appB_app,List.flatMap_cons]
theorem blobs_range {E:ByteArray→Option (ByteArray × Int)}:∀ (l:List Blob) (i:Int) (s:ByteArray),(∀ x∈l,okBlob x)→s.size+100*l.length≤40000000→rangeS (fun _ x s f=>blobT x s f) E i l s=E (appB s (l.flatMap (fun x=>lineL (blobWs x))))∧(l.flatMap (fun x=>lineL (blobWs x))).length≤100*l.length
  | [],i,s,_,_=>by rw [List.flatMap_nil,appB_nil]; exact ⟨rfl,Nat.le_refl _⟩
  | x::l,i,s,ho,hz=>by
    rw [List.length_cons] at hz
    obtain ⟨h1,h2⟩:=blobT_eq (ho x (by simp)) (s:=s) (by omega) (fun s'=>rangeS (fun _ x s f=>blobT x s f) E (i+1) l s')
    obtain ⟨k1,k2⟩:=blobs_range l (i+1) (appB s (lineL (blobWs x))) (fun y hy=>ho y (by simp [hy])) (by rw [appB_size]; omega)
    rw [rangeS,h1,k1,appB_app,List.flatMap_cons,List.length_append,List.length_cons]
    exact ⟨rfl,by omega⟩
def textR (c:Cache):Option (ByteArray × Int):=(cacheS c).bind fun y=>bif y != 0 then some (emptyW,y) else some (bif decide (2000000<((textS c).size:Int)) then (emptyW,2) else (textS c,0))
theorem text_prog {c:Cache} (h:smallCache c):cache_Text.f c=textR c:=by
  unfold cache_Text.f textR
  rw [check_prog h]
  obtain ⟨r,hr⟩:=cacheS_some c
  rw [hr]
  simp only [Option.bind_some]
  by_cases h0:r=0
  · subst h0
    have ho:=cacheS_ok hr
    simp only [bne_self_eq_false,cond_false]
    have r0:=ho.room0; have r1:=ho.room1; have l0:=ho.lease0; have l1:=ho.lease1
    obtain ⟨-,-,-,a⟩:=clean_num r0 (show c.Room≤9999999999 by omega)
    obtain ⟨-,-,-,b⟩:=clean_num l0 (show c.Lease≤9999999999 by omega)
    have zc:cacheW.size=5:=rfl
    have z0:(⟨#[]⟩:ByteArray).size=0:=rfl
    have hl:=line_len (headWs c.Room c.Lease)
    simp only [headWs,sumZ,List.length_cons,List.length_nil,zc] at hl
    have ht:=text1 (x:=cacheW) (y:=numT c.Room) (l:=[numT c.Lease]) (b:=⟨#[]⟩) (by simp only [sumZ,List.length_cons,List.length_nil,zc]; omega) (by omega)
    unfold cacheW at ht
    rw [itoa_eq (n:=c.Room) (by omega) (by omega),itoa_eq (n:=c.Lease) (by omega) (by omega)]
    simp only [Option.bind_some]
    rw [ht]
    simp only [Option.bind_some]
    have h1:=rangeS_all (xs:=c.Blobs) (S:=ByteArray) (L:=fun k s v=>cache_Text.l4 cache_Text.e1 k c s v) (body:=fun _ x s f=>blobT x s f) (e:=cache_Text.e1 c) (by have:=ho.bl; omega) (fun k s v=>by
      simp only [cache_Text.l4]
      congr 1) (appB ⟨#[]⟩ (lineL [({ data:=#[99,97,99,104,101] }:ByteArray),numT c.Room,numT c.Lease]))
    have e0:lineL [({ data:=#[99,97,99,104,101] }:ByteArray),numT c.Room,numT c.Lease]=lineL (headWs c.Room c.Lease):=rfl
    rw [e0] at h1 ⊢
    refine h1.trans ?_
    have hbl:=ho.bl
    have hel:=ho.el
    have hlh:(lineL (headWs c.Room c.Lease)).length≤100:=by unfold headWs; omega
    obtain ⟨k1,k2⟩:=blobs_range (E:=cache_Text.e1 c) c.Blobs 0 (appB ⟨#[]⟩ (lineL (headWs c.Room c.Lease))) ho.be (by rw [appB_size,z0]; omega)
    rw [k1]
    unfold cache_Text.e1
    have h2:=rangeS_all (xs:=c.Entries) (S:=ByteArray) (L:=fun k s v=>cache_Text.l3 cache_Text.e2 k c s v) (body:=fun _ x s f=>entT x s f) (e:=cache_Text.e2) (by omega) (fun k s v=>by
      simp only [cache_Text.l3]
      congr 1) (appB (appB ⟨#[]⟩ (lineL (headWs c.Room c.Lease))) (c.Blobs.flatMap (fun x=>lineL (blobWs x))))
    refine h2.trans ?_
    rw [ents_range c.Entries 0 _ ho.ee (by rw [appB_size,appB_size,z0]; omega),appB_app,appB_app]
    have e:appB ⟨#[]⟩ (lineL (headWs c.Room c.Lease)++(c.Blobs.flatMap (fun x=>lineL (blobWs x))++c.Entries.flatMap (fun x=>lineL (entWs x))))=textS c:=rfl
    rw [e]
    unfold cache_Text.e2
    cases decide (2000000<((textS c).size:Int)) <;> rfl
  · have:(r != 0)=true:=by simpa using h0
    rw [this]
    rfl
end Go.Proofs.YtnfgkhmhdefagaaGreatDoor
