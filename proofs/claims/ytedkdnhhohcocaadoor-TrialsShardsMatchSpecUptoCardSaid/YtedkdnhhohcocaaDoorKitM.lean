/- Words of our own: maps that a call has made, and maps that are read. -/
import Derived.Test.YtedkdnhhohcocaaDoorKitF
import Derived.MapKept
set_option linter.unusedSimpArgs false
set_option linter.unusedVariables false
set_option linter.unnecessarySimpa false
namespace Go.Proofs.YtedkdnhhohcocaaDoor.Kit
open Go Go.RowKit Go.MapKept

/-! ### 20. The entries of a map, as a list -/
inductive All2 {α β:Type} (R:α→β→Prop):List α→List β→Prop
  | nil:All2 R [] []
  | cons {a b l m}:R a b→All2 R l m→All2 R (a::l) (b::m)
theorem All2.imp {α β:Type} {R S:α→β→Prop} (f:∀ a b,R a b→S a b) {l:List α} {m:List β} (h:All2 R l m):All2 S l m:=by
  induction h with
  | nil=>exact .nil
  | cons h1 _ ih=>exact .cons (f _ _ h1) ih
theorem All2.append {α β:Type} {R:α→β→Prop} {l l':List α} {m m':List β} (h:All2 R l m) (k:All2 R l' m'):All2 R (l++l') (m++m'):=by
  induction h with
  | nil=>exact k
  | cons h1 _ ih=>exact .cons h1 ih
def Stm (es:Array MapEntry) (clock:Nat):Prop:=(∀ x∈es.toList,x.born<clock)∧(es.toList.map (·.born)).Nodup
theorem Stm.empty (clock:Nat):Stm #[] clock:=⟨by simp,by simp⟩
theorem Stm.push {es:Array MapEntry} {clock:Nat} (h:Stm es clock) (k v:Value):Stm (es.push { key:=k,val:=v,born:=clock }) (clock+1):=by
  obtain ⟨h1,h2⟩:=h
  refine ⟨fun x hx=>?_,?_⟩
  · simp only [Array.toList_push,List.mem_append,List.mem_singleton] at hx
    rcases hx with hx | hx
    · have:=h1 x hx
      omega
    · subst hx
      exact Nat.lt_succ_self _
  · simp only [Array.toList_push,List.map_append,List.map_cons,List.map_nil]
    rw [List.nodup_append]
    refine ⟨h2,by simp,?_⟩
    intro a ha b hb
    simp only [List.mem_singleton] at hb
    obtain ⟨x,hx,rfl⟩:=List.mem_map.1 ha
    have:=h1 x hx
    omega
theorem map_modify_born (l:List MapEntry) (j:Nat) (f:MapEntry→MapEntry) (hf:∀ e,(f e).born=e.born):(l.modify j f).map (·.born)=l.map (·.born):=by
  induction l generalizing j with
  | nil=>cases j <;> rfl
  | cons a l ih=>cases j with
    | zero=>simp [hf]
    | succ j=>simp [ih]
theorem Stm.modify {es:Array MapEntry} {clock:Nat} (h:Stm es clock) (j:Nat) (f:MapEntry→MapEntry) (hf:∀ e,(f e).born=e.born):Stm (es.modify j f) clock:=by
  obtain ⟨h1,h2⟩:=h
  have e:(es.modify j f).toList.map (·.born)=es.toList.map (·.born):=by rw [Array.toList_modify,map_modify_born _ _ _ hf]
  refine ⟨fun x hx=>?_,by rw [e]; exact h2⟩
  have:x.born∈(es.modify j f).toList.map (·.born):=List.mem_map.2 ⟨x,hx,rfl⟩
  rw [e] at this
  obtain ⟨y,hy,hxy⟩:=List.mem_map.1 this
  rw [← hxy]
  exact h1 y hy
def mkv:Bool→List Value→Value
  | true,c=>.agg c.toArray
  | false,[x]=>x
  | false,c=>.agg c.toArray
def kf {κ:Type} [DecidableEq κ]:List MapEntry→List κ→κ→Nat→Option (Nat × Value)
  | e::es,a::ks,k,i=>if a=k then some (i,e.val) else kf es ks k (i+1)
  | _,_,_,_=>none
structure KyAt (P:Program) (kt:TypeId) {κ:Type} [DecidableEq κ] (enc:κ→Value):Prop where
  check:∀ w e k,(Instr.checkKey e 10000 kt (enc k)).run P w=.ok () w
  find:∀ w (es:List MapEntry) (ks:List κ) k,All2 (fun e a=>e.key=enc a) es ks→(Instr.findKey kt (enc k) es).run P w=.ok (kf es ks k 0) w
  stays:∀ w k,(Instr.keyThatStays (enc k) (enc k)).run P w=.ok (enc k) w
theorem findNow_kf {κ:Type} [DecidableEq κ] {d:TypeDesc} {enc:κ→Value} (hs:∀ a b,Instr.sameNow d (enc a) (enc b)=some (decide (a=b))) (k:κ) :
    ∀ (es:List MapEntry) (ks:List κ) (i:Nat),All2 (fun e a=>e.key=enc a) es ks→Instr.findNow d (enc k) es i=some (kf es ks k i)
  | [],_,i,h=>by cases h; rfl
  | e::es,_,i,h=>by
    cases h with
    | cons h1 h2 =>
      rename_i a ks
      simp only [Instr.findNow,h1,hs,kf]
      by_cases hk:a=k
      · subst hk; simp
      · rw [if_neg hk]
        have:¬ k=a:=fun x=>hk x.symm
        simp only [this,decide_false]
        exact findNow_kf hs k es ks (i+1) h2
theorem KyAt.of {P:Program} {kt:TypeId} {κ:Type} [DecidableEq κ] {enc:κ→Value} {d:TypeDesc} (hd:P.underlying kt=some d) (hk:∀ k,IsKey d (enc k))
    (hs:∀ a b,Instr.sameNow d (enc a) (enc b)=some (decide (a=b))):KyAt P kt enc where
  check:=fun w e k=>run_checkKey hd (hk k) e 9999
  find:=fun w es ks k h=>run_findKey hd (findNow_kf hs k es ks 0 h)
  stays:=fun w k=>run_keyThatStays (hk k)
theorem KyAt.int {P:Program} {kt:TypeId} {q:IntKind} (hd:P.underlying kt=some (.int q)):KyAt P kt (Value.int q) :=
  KyAt.of hd (fun k=>by simp [IsKey]) (fun a b=>by simp [Instr.sameNow]; by_cases h:a=b <;> simp [h])
theorem KyAt.string {P:Program} {kt:TypeId} (hd:P.underlying kt=some .string):KyAt P kt Value.string :=
  KyAt.of hd (fun k=>by simp [IsKey]) (fun a b=>by
    simp only [Instr.sameNow]
    by_cases h:a=b
    · subst h
      simp [(bytes_beq a a).2 rfl]
    · have:(a == b)=false:=by
        cases hb:(a == b)
        · rfl
        · exact absurd ((bytes_beq a b).1 hb) h
      simp [this,h])
def keyLeaf (P:Program) (t:TypeId):Value→Bool
  | .int _ _=>match P.underlying t with
    | some (.int _)=>true
    | _=>false
  | .bool _=>match P.underlying t with
    | some .bool=>true
    | _=>false
  | .string _=>match P.underlying t with
    | some .string=>true
    | _=>false
  | _=>false
theorem keyLeaf_check {P:Program} {t:TypeId} {v:Value} (h:keyLeaf P t v=true) (w:World) (e:Bool) (n:Nat):(Instr.checkKey e (n+1) t v).run P w=.ok () w:=by
  unfold keyLeaf at h
  unfold Instr.checkKey
  split at h <;> first | (cases h; done) | (split at h <;> first | (rename_i hu; simp [run_underlying hu]; done) | cases h)
def chkF (P:Program) (xs:Array Value):List Field→Bool
  | []=>true
  | f :: fs => !(f.name == "_") && (match trS P (part f.type xs f.offset) [] with
    | some (a,_,[])=>keyLeaf P f.type a
    | _=>false)&&chkF P xs fs
def bitsOk:List Value→Bool
  | []=>true
  | .int _ _::l=>bitsOk l
  | .bool _::l=>bitsOk l
  | .string _::l=>bitsOk l
  | _::_=>false
theorem bitsOk_self (n:Nat):∀ (l:List Value),bitsOk l=true→((l.zip l).all fun (x,y)=>Instr.sameBits n x y)=true
  | [],_=>rfl
  | x::l,h=>by
    have ih:=bitsOk_self n l
    cases x <;> first | (simp only [bitsOk] at h; simp [Instr.sameBits,ih h,(bytes_beq _ _).2]) | (simp [bitsOk] at h)
theorem findAsking_kf {P:Program} {w:World} {kt:TypeId} {κ:Type} [DecidableEq κ] {enc:κ→Value} (hq:∀ a b,(Op.equal kt (enc a) (enc b)).run P w=.ok (decide (a=b)) w) (k:κ) :
    ∀ (es:List MapEntry) (ks:List κ) (i:Nat),All2 (fun e a=>e.key=enc a) es ks→(Instr.findAsking kt (enc k) es i).run P w=.ok (kf es ks k i) w
  | [],_,i,h=>by cases h; simp [Instr.findAsking,kf]
  | e::es,_,i,h=>by
    cases h with
    | cons h1 h2 =>
      rename_i a ks
      simp only [Instr.findAsking,h1,Sem.run_bind,hq,Result.andThen_ok,kf]
      by_cases hk:a=k
      · subst hk; simp
      · rw [if_neg hk]
        have:¬ k=a:=fun x=>hk x.symm
        simp only [this,decide_false]
        exact findAsking_kf hq k es ks (i+1) h2
theorem KyAt.struct {P:Program} {kt:TypeId} {κ:Type} [DecidableEq κ] {enc:κ→Value} {cells:κ→Array Value} {fs:Array Field} {q:κ→κ→Bool} (hu:P.underlying kt=some (.struct fs)) (hs:P.stoodInHeld kt=false)
    (he:∀ a,enc a=.agg (cells a)) (hc:∀ a,chkF P (cells a) fs.toList=true) (hq:∀ a b,eqF P (cells a) (cells b) fs.toList=some (q a b)) (hd:∀ a b,q a b=decide (a=b)) (hb:∀ a,bitsOk (cells a).toList=true):KyAt P kt enc where
  check:=fun w e k=>by
    rw [he,show (10000:Nat)=9998+1+1 from rfl,Instr.checkKey]
    simp only [Sem.run_bind,run_underlying hu,Result.andThen_ok]
    rw [← Array.forIn_toList]
    have h:=hc k
    generalize fs.toList=L at h
    induction L with
    | nil=>simp
    | cons f L ih =>
      simp only [chkF,Bool.and_eq_true] at h
      obtain ⟨⟨h1,h2⟩,h3⟩:=h
      split at h2
      · rename_i a _ ha
        have hn : f.name ≠ "_" := by simpa using h1
        simp only [List.forIn_cons,Sem.run_bind,hn,ne_eq,not_false_eq_true,if_true,Result.andThen_ok,trS_run _ ha trivial,keyLeaf_check h2,Sem.run_pure]
        exact ih h3
      · cases h2
  find:=fun w es ks k h=>by
    have heq:∀ a b,(Op.equal kt (enc a) (enc b)).run P w=.ok (decide (a=b)) w:=fun a b=>by
      have e:P.fieldsOf kt=fs:=by simp [Program.fieldsOf,hu]
      rw [he,he]
      unfold Op.equal
      show (Op.equalIn 10000 kt _ _).run P w=_
      rw [run_equalIn_agg w 9999 kt _ _ (by rw [hu,e]) hs,e,← hd]
      exact eqF_run (hq a b)
    unfold Instr.findKey
    simp only [Sem.run_bind,run_underlying hu,Result.andThen_ok]
    cases es with
    | nil=>cases h; simp [Instr.findNow,kf]
    | cons e es =>
      have:Instr.findNow (.struct fs) (enc k) (e::es) 0=none:=by
        rw [he]
        simp [Instr.findNow,Instr.sameNow]
      rw [this]
      exact findAsking_kf heq k _ _ 0 h
  stays:=fun w k=>by
    rw [he]
    unfold Instr.keyThatStays
    have:Instr.sameBits 10000 (.agg (cells k)) (.agg (cells k))=true:=by
      rw [show (10000:Nat)=9999+1 from rfl]
      simp only [Instr.sameBits,bitsOk_self 9999 _ (hb k),Bool.and_true,BEq.rfl]
    rw [if_pos this]
    simp
abbrev MRep {κ ν:Type} (enc:κ→Value) (kd:Kd ν) (ag:Bool) (H:Hp) (es:List MapEntry) (m:List (κ × ν)):Prop :=
  All2 (fun e q=>e.key=enc q.1∧∃ c,kd.K H q.2 c∧e.val=mkv ag c) es m
theorem MRep.mono {κ ν:Type} {enc:κ→Value} {kd:Kd ν} {ag:Bool} {H H':Hp} {es:List MapEntry} {m:List (κ × ν)} (h:MRep enc kd ag H es m) (hl:Le H H'):MRep enc kd ag H' es m :=
  h.imp fun _ _ ⟨h1,c,h2,h3⟩=>⟨h1,c,kd.mono hl h2,h3⟩
theorem MRep.keys {κ ν:Type} {enc:κ→Value} {kd:Kd ν} {ag:Bool} {H:Hp}:∀ {es:List MapEntry} {m:List (κ × ν)},MRep enc kd ag H es m→All2 (fun e a=>e.key=enc a) es (m.map Prod.fst)
  | [],_,h=>by cases h; exact .nil
  | e::es,_,h=>by
    cases h with
    | cons h1 h2=>exact .cons h1.1 (MRep.keys h2)
theorem MRep.find {κ ν:Type} [DecidableEq κ] {enc:κ→Value} {kd:Kd ν} {ag:Bool} {H:Hp} (k:κ):∀ {es:List MapEntry} {m:List (κ × ν)} (i:Nat),MRep enc kd ag H es m →
    (kf es (m.map Prod.fst) k i=none∧mget m k=none∧∀ v,mput m k v=m++[(k,v)]) ∨
    ∃ j e c v0,kf es (m.map Prod.fst) k i=some (i+j,mkv ag c)∧es[j]? = some e∧e.key=enc k∧mget m k=some v0∧kd.K H v0 c ∧
      ∀ v cv,kd.K H v cv→MRep enc kd ag H (es.modify j fun e=>{ e with key:=enc k,val:=mkv ag cv }) (mput m k v)
  | [],_,i,h=>by cases h; exact .inl ⟨rfl,rfl,fun v=>rfl⟩
  | e::es,_,i,h=>by
    cases h with
    | cons h1 h2 =>
      rename_i q m
      obtain ⟨h1,c,hc,hv⟩:=h1
      by_cases hk:q.1=k
      · refine .inr ⟨0,e,c,q.2,by simp [kf,hk,hv],rfl,by rw [h1,hk],by simp [mget,hk],hc,fun v cv hcv=>?_⟩
        simp only [mput,hk,if_true,List.modify_zero_cons]
        exact .cons ⟨rfl,cv,hcv,rfl⟩ h2
      · rcases MRep.find k (i+1) h2 with ⟨g1,g2,g3⟩ | ⟨j,e',c',v0,g1,g2,g3,g4,g5,g6⟩
        · refine .inl ⟨by simpa [kf,hk] using g1,by simpa [mget,hk] using g2,fun v=>by simp [mput,hk,g3]⟩
        · refine .inr ⟨j+1,e',c',v0,by simp only [List.map_cons,kf,hk,if_false,g1]; congr 2; omega,by simpa using g2,g3,by simpa [mget,hk] using g4,g5,fun v cv hcv=>?_⟩
          simp only [mput,hk,if_false,List.modify_succ_cons]
          exact .cons ⟨h1,c,hc,hv⟩ (g6 v cv hcv)
def MOn {κ ν:Type} (enc:κ→Value) (kd:Kd ν) (ag:Bool) (H:Hp) (w:World) (A:Option Nat) (m:List (κ × ν)):Prop :=
  (A=none∧m=[])∨∃ g es clock,A=some g∧w.heap[g]? = some (.map es clock)∧Stm es clock∧MRep enc kd ag H es.toList m
def MRow {κ ν:Type} (enc:κ→Value) (kd:Kd ν) (ag:Bool) (H:Hp) (A:Option Nat) (m:List (κ × ν)):Prop :=
  (A=none∧m=[])∨∃ g es clock,A=some g∧H g=some (.map es clock)∧Stm es clock∧MRep enc kd ag H es.toList m
def MOwn {κ ν:Type} (enc:κ→Value) (kd:Kd ν) (ag:Bool) (H:Hp) (w:World) (n0:Nat) (g:Nat) (m:List (κ × ν)):Prop :=
  n0≤g∧H g=none∧∃ es clock,w.heap[g]? = some (.map es clock)∧Stm es clock∧MRep enc kd ag H es.toList m
section
variable {κ ν:Type} {enc:κ→Value} {kd:Kd ν} {ag:Bool} {H H':Hp} {w w':World} {A:Option Nat} {g n0:Nat} {m:List (κ × ν)}
theorem MRow.on (h:MRow enc kd ag H A m) (hH:Sub H w):MOn enc kd ag H w A m:=by
  rcases h with h | ⟨g,es,c,h1,h2,h3,h4⟩
  · exact .inl h
  · exact .inr ⟨g,es,c,h1,hH _ _ h2,h3,h4⟩
theorem MRow.mono (h:MRow enc kd ag H A m) (hl:Le H H'):MRow enc kd ag H' A m:=by
  rcases h with h | ⟨g,es,c,h1,h2,h3,h4⟩
  · exact .inl h
  · exact .inr ⟨g,es,c,h1,hl _ _ h2,h3,h4.mono hl⟩
theorem MRow.nil:MRow enc kd ag H none ([]:List (κ × ν)):=.inl ⟨rfl,rfl⟩
theorem MOwn.on (h:MOwn enc kd ag H w n0 g m):MOn enc kd ag H w (some g) m:=by
  obtain ⟨_,_,es,c,h2,h3,h4⟩:=h
  exact .inr ⟨g,es,c,rfl,h2,h3,h4⟩
theorem MOwn.lt (h:MOwn enc kd ag H w n0 g m):g<w.heap.size:=by
  obtain ⟨_,_,es,c,h2,_⟩:=h
  exact (Array.getElem?_eq_some_iff.1 h2).1
theorem MOwn.ext (h:MOwn enc kd ag H w n0 g m) (hx:Ext w w'):MOwn enc kd ag H w' n0 g m:=by
  have hlt:=h.lt
  obtain ⟨h0,h1,es,c,h2,h3⟩:=h
  exact ⟨h0,h1,es,c,(hx.block g hlt).trans h2,h3⟩
theorem MOwn.grow (h:MOwn enc kd ag H w n0 g m) (hl:Le H H') (hk:∀ k,k<w.heap.size→H k=none→H' k=none) (hx:Ext w w'):MOwn enc kd ag H' w' n0 g m:=by
  have hlt:=h.lt
  obtain ⟨h0,h1,es,c,h2,h3,h4⟩:=h.ext hx
  exact ⟨h0,hk g hlt h1,es,c,h2,h3,h4.mono hl⟩
theorem MOwn.upd {g':Nat} {o:Obj} (h:MOwn enc kd ag H w n0 g m) (hU:Upd w w' g' o) (hne:g≠g'):MOwn enc kd ag H w' n0 g m:=by
  obtain ⟨h0,h1,es,c,h2,h3⟩:=h
  exact ⟨h0,h1,es,c,(hU.other g hne).trans h2,h3⟩
end

/-! ### 21. The operations -/
def lkAt (P:Program) (N:Nat) (ops:Array Oper) (i:Nat) (L:Slots):Option (Nat × TypeId × TypeId × Option Nat × Value × Value × Bool) :=
  match ops[i]? with
  | none=>none
  | some o =>
    match okOp N L o with
    | false=>none
    | true =>
      match wantL ops L o.guard with
      | some true =>
        match o.op,o.dst with
        | .lookup t x k ok,some d =>
          match P.underlying t,evL L x with
          | some (.map kt et),.map A =>
            match trS P (zeroValue et) [] with
            | some (z,_,[])=>some (d,t,kt,A,evL L k,z,ok)
            | _=>none
          | _,_=>none
        | _,_=>none
      | _=>none
theorem run_lookup {P:Program} {t kt et:TypeId} {κ ν:Type} [DecidableEq κ] {enc:κ→Value} {kd:Kd ν} {ag:Bool} {H:Hp} {w:World} {A:Option Nat} {m:List (κ × ν)} {k:κ} {z:Value} {zc:List Value} {z0:ν} {ok:Bool}
    (hu:P.underlying t=some (.map kt et)) (K:KyAt P kt enc) (hz:(zeroValue et).run P w=.ok z w) (hzc:z=mkv ag zc) (hz0:kd.K H z0 zc) (hm:MOn enc kd ag H w A m) :
    ∃ c,kd.K H (mgetD m k z0) c∧(Instr.lookup t (.map A) (enc k) ok).run P w=.ok (if ok then .tuple #[mkv ag c,.bool (mhas m k)] else mkv ag c) w:=by
  have hc:=fun e=>K.check w e k
  rcases hm with ⟨rfl,rfl⟩ | ⟨g,es,clock,rfl,hb,hs,hr⟩
  · refine ⟨zc,hz0,?_⟩
    have hf:=K.find w [] [] k .nil
    simp [Instr.lookup,run_underlying hu,hc,hf,kf,hz,hzc,mhas,mget]
  · have hf:=K.find w _ _ k hr.keys
    rcases hr.find k 0 with ⟨g1,g2,_⟩ | ⟨j,e,c,v0,g1,g2,g3,g4,g5,_⟩
    · refine ⟨zc,by simpa [mgetD,g2] using hz0,?_⟩
      rw [g1] at hf
      simp [Instr.lookup,run_underlying hu,MapKept.run_getObj_map hb,hc,hf,hz,hzc,mhas,g2]
    · refine ⟨c,by simpa [mgetD,g4] using g5,?_⟩
      rw [g1] at hf
      simp [Instr.lookup,run_underlying hu,MapKept.run_getObj_map hb,hc,hf,mhas,g4]
section
variable {F:Ctx} {R:Ending→World→Prop} {es es':List En} {L L':Slots} {w:World} {p:List Nat} {i:Nat}
theorem RgL.lookup {d:Nat} {t kt:TypeId} {κ ν:Type} [DecidableEq κ] {enc:κ→Value} {kd:Kd ν} {ag:Bool} {H:Hp} {A:Option Nat} {m:List (κ × ν)} {k:κ} {z:Value} {zc:List Value} {z0:ν} {ok:Bool}
    (h:lkAt F.P F.N (opsAt F.c p) i L=some (d,t,kt,A,enc k,z,ok)) (K:KyAt F.P kt enc) (hzc:z=mkv ag zc) (hz0:kd.K H z0 zc) (hm:MOn enc kd ag H w A m)
    (kk:∀ c,kd.K H (mgetD m k z0) c→RgL F R p es (i+1) ((d,if ok then .tuple #[mkv ag c,.bool (mhas m k)] else mkv ag c)::L) w):RgL F R p es i L w:=by
  intro a hf
  unfold lkAt at h
  split at h
  · simp at h
  · rename_i o ho
    split at h
    · simp at h
    · rename_i hok
      split at h
      · rename_i hw
        split at h
        · rename_i t' x kx okx dx hop hdx
          split at h
          · rename_i kt' et A' hu hA
            split at h
            · rename_i z' r' hz
              injection h with h
              injection h with h1 h
              injection h with h2 h
              injection h with h3 h
              injection h with h4 h
              injection h with h5 h
              injection h with h6 h7
              subst h1 h2 h3 h4 h6 h7
              obtain ⟨hx,hd2⟩:=okOp_spec hok hf
              have hlt:i<(opsAt F.c p).size:=(Array.getElem?_eq_some_iff.1 ho).1
              have e1:(opsAt F.c p).size - i=((opsAt F.c p).size - (i+1))+1:=by omega
              rw [e1,List.range'_succ]
              simp only [wpOps,ho,wantL_spec hw hf,if_true]
              refine .inl ?_
              obtain ⟨c,hc,hrun⟩:=run_lookup (ok:=okx) (k:=k) hu K (trS_run (w:=w) _ hz trivial) hzc hz0 hm
              have hexec:(execOp (evL L) o).run F.P w=.ok (.value (if okx then .tuple #[mkv ag c,.bool (mhas m k)] else mkv ag c)) w:=by
                simp only [execOp,hop,hA,h5,Sem.run_bind,hrun,Result.andThen_ok,Sem.run_pure]
              unfold Oper.wp
              rw [hx,hexec,Oper.upon_value]
              have hf':=hf.put (d:=o.dst) hd2 (if okx then .tuple #[mkv ag c,.bool (mhas m k)] else mkv ag c)
              rw [hdx] at hf' ⊢
              exact kk c hc _ hf'
            · simp at h
          · simp at h
        · simp at h
      · simp at h
end
def muAt (P:Program) (N:Nat) (ops:Array Oper) (i:Nat) (L:Slots):Option (TypeId × Nat × Value × Value) :=
  match ops[i]? with
  | none=>none
  | some o =>
    match okOp N L o with
    | false=>none
    | true =>
      match wantL ops L o.guard with
      | some true =>
        match o.op,o.dst with
        | .mapUpdate t x k v,none =>
          match P.underlying t,evL L x with
          | some (.map kt et),.map (some g)=>some (kt,g,evL L k,evL L v)
          | _,_=>none
        | _,_=>none
      | _=>none
theorem run_mapUpdate {P:Program} {t kt et:TypeId} {κ ν:Type} [DecidableEq κ] {enc:κ→Value} {kd:Kd ν} {ag:Bool} {H:Hp} {w:World} {n0 g:Nat} {m:List (κ × ν)} {k:κ} {v:ν} {cv:List Value}
    (hu:P.underlying t=some (.map kt et)) (K:KyAt P kt enc) (hv:kd.K H v cv) (hm:MOwn enc kd ag H w n0 g m) :
    ∃ w' o,(Instr.mapUpdate t (.map (some g)) (enc k) (mkv ag cv)).run P w=.ok () w'∧Upd w w' g o∧MOwn enc kd ag H w' n0 g (mput m k v):=by
  have hlt:=hm.lt
  obtain ⟨h0,h1,es,clock,hb,hs,hr⟩:=hm
  have hc:=fun e=>K.check w e k
  have hf:=K.find w _ _ k hr.keys
  have hU:∀ o,Upd w { w with heap:=w.heap.setIfInBounds g o } g o:=fun o=>⟨rfl,rfl,rfl,by simp,by simp [hlt],fun k hk=>by simp [Array.getElem?_setIfInBounds,Ne.symm hk]⟩
  rcases hr.find k 0 with ⟨g1,g2,g3⟩ | ⟨j,e,c,v0,g1,g2,g3,g4,g5,g6⟩
  · rw [g1] at hf
    refine ⟨_,.map (es.push { key:=enc k,val:=mkv ag cv,born:=clock }) (clock+1),?_,hU _,h0,h1,_,_,(hU _).at_,?_,?_⟩
    · simp [Instr.mapUpdate,run_underlying hu,MapKept.run_getObj_map hb,hc,hf,MapKept.run_setObj_map _ hb]
    · exact hs.push _ _
    · rw [g3 v]
      simp only [Array.toList_push]
      exact All2.append hr (.cons ⟨rfl,cv,hv,rfl⟩ .nil)
  · rw [g1] at hf
    refine ⟨_,.map (es.modify j fun e=>{ e with key:=enc k,val:=mkv ag cv }) clock,?_,hU _,h0,h1,_,_,(hU _).at_,?_,?_⟩
    · have hej:es[j]? = some e:=by simpa using g2
      simp [Instr.mapUpdate,run_underlying hu,MapKept.run_getObj_map hb,hc,hf,MapKept.run_setObj_map _ hb,hej,g3,K.stays]
    · exact hs.modify j _ (fun _=>rfl)
    · have:=g6 v cv hv
      simpa using this
section
variable {F:Ctx} {R:Ending→World→Prop} {es es':List En} {L L':Slots} {w:World} {p:List Nat} {i:Nat}
theorem RgL.mapUpdate {kt:TypeId} {κ ν:Type} [DecidableEq κ] {enc:κ→Value} {kd:Kd ν} {ag:Bool} {H:Hp} {n0 g:Nat} {m:List (κ × ν)} {k:κ} {v:ν} {cv:List Value} {vv:Value}
    (h:muAt F.P F.N (opsAt F.c p) i L=some (kt,g,enc k,vv)) (K:KyAt F.P kt enc) (hvv:vv=mkv ag cv) (hv:kd.K H v cv) (hm:MOwn enc kd ag H w n0 g m)
    (kk:∀ w' o,Upd w w' g o→MOwn enc kd ag H w' n0 g (mput m k v)→RgL F R p es (i+1) L w'):RgL F R p es i L w:=by
  intro a hf
  unfold muAt at h
  split at h
  · simp at h
  · rename_i o ho
    split at h
    · simp at h
    · rename_i hok
      split at h
      · rename_i hw
        split at h
        · rename_i t' x kx vx hop hdx
          split at h
          · rename_i kt' et g' hu hA
            injection h with h
            injection h with h1 h
            injection h with h2 h
            injection h with h3 h4
            subst h1 h2
            obtain ⟨hx,hd2⟩:=okOp_spec hok hf
            have hlt:i<(opsAt F.c p).size:=(Array.getElem?_eq_some_iff.1 ho).1
            have e1:(opsAt F.c p).size - i=((opsAt F.c p).size - (i+1))+1:=by omega
            rw [e1,List.range'_succ]
            simp only [wpOps,ho,wantL_spec hw hf,if_true]
            refine .inl ?_
            obtain ⟨w',ob,hrun,hU,hO⟩:=run_mapUpdate (k:=k) hu K hv hm
            have hexec:(execOp (evL L) o).run F.P w=.ok .skip w':=by
              simp only [execOp,hop,hA,h3,h4,hvv,Sem.run_bind,hrun,Result.andThen_ok,Sem.run_pure]
            unfold Oper.wp
            rw [hx,hexec,Oper.upon_skip]
            rw [hdx]
            exact kk w' ob hU hO a hf
          · simp at h
        · simp at h
      · simp at h
theorem RgL.makeMap {d:Nat} {κ ν:Type} {enc:κ→Value} {kd:Kd ν} {ag:Bool} {H:Hp} {n0:Nat} (h:∀ g,newAt F.P F.N (opsAt F.c p) i L g=some (some d,.map (some g),.map #[] 0)) (hH:Sub H w) (hn:n0≤w.heap.size)
    (k:∀ g w',w.heap.size=g→Ext w w'→MOwn enc kd ag H w' n0 g ([]:List (κ × ν))→RgL F R p es (i+1) ((d,.map (some g))::L) w'):RgL F R p es i L w:=by
  refine RgL.new (v:=fun g=>.map (some g)) (o:=fun _=>.map #[] 0) h ?_
  intro g w1 hg hx hs hb
  exact k g w1 hg hx ⟨by omega,hH.none hg,_,_,hb,Stm.empty 0,.nil⟩
end
section
variable {κ ν:Type} {enc:κ→Value} {kd:Kd ν} {ag:Bool} {H:Hp} {w w':World} {g n0:Nat} {m:List (κ × ν)} {o:Obj}
end
def Kd.map {κ ν:Type} (enc:κ→Value) (kd:Kd ν) (ag:Bool):Kd (List (κ × ν)) where
  sz:=1
  K:=fun H m c=>∃ A,c=[.map A]∧MRow enc kd ag H A m
  mono:=fun hl ⟨A,h1,h2⟩=>⟨A,h1,h2.mono hl⟩
  len:=fun ⟨A,h1,_⟩=>by rw [h1]; rfl
  one:=fun ⟨A,h1,_⟩ v hv=>by rw [h1] at hv; simp at hv; rw [hv]; rfl
theorem Kd.Rep.one {α:Type} {d:Kd α} {H:Hp} {x:α} {c:List Value} (h:d.K H x c):Kd.Rep d H c.toArray 0 [x]:=by
  refine Kd.Rep.cons h (fun j v hv=>?_) Kd.Rep.nil
  simpa using hv
theorem Kd.Rep.oneS {α:Type} {d:Kd α} {H:Hp} {xs:List α} {A:Option Addr} {c:Nat} (hc:xs.length≤c) (hr:Kd.Row d H A xs):Kd.Rep (Kd.slice d) H #[.slice A xs.length c] 0 [xs] :=
  Kd.Rep.one (d:=Kd.slice d) (show (Kd.slice d).K H xs [.slice A xs.length c] from ⟨A,c,rfl,hc,hr⟩)
end Go.Proofs.YtedkdnhhohcocaaDoor.Kit
