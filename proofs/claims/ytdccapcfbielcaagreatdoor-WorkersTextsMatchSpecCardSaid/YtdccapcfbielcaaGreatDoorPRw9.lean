/- Writing runs of workers, and reading what was written. -/
import Derived.Test.YtdccapcfbielcaaGreatDoorPWg9
import Derived.KernelRfl
set_option linter.unusedVariables false
set_option linter.unusedSimpArgs false
namespace Go.Proofs.YtdccapcfbielcaaGreatDoor
open Go Go.Proofs.YtdccapcfbielcaaGreatDoor.Kit
def doneS:ByteArray:={ data:=#[100,111,110,101] }
def lostS:ByteArray:={ data:=#[108,111,115,116] }
def stopS:ByteArray:={ data:=#[115,116,111,112,112,101,100] }
def endsL:List ByteArray:=[({ data:=#[] }:ByteArray),doneS,lostS,stopS]
def endT (n:Int):ByteArray:=bif n == 1 then doneS else bif n == 2 then lostS else stopS
theorem end_cases {n:Int} (h1:1≤n) (h2:n≤3):n=1∨n=2∨n=3:=by omega
theorem end_word {n:Int} (h1:1≤n) (h2:n≤3):wordB (endT n)=true∧(endT n).size≤7∧slices_Index_string.f endsL (endT n)=some n∧at? endsL n=some (endT n):=by
  rcases end_cases h1 h2 with rfl | rfl | rfl <;> exact ⟨by kernel_rfl,Nat.le_of_ble_eq_true (by kernel_rfl),by kernel_rfl,rfl⟩
def endsR:ByteArray:={ data:=#[100,111,110,101,32,108,111,115,116,32,115,116,111,112,112,101,100] }
theorem ends_split:strings_Split.f endsR ({ data:=#[32] }:ByteArray)=some [doneS,lostS,stopS]:=by
  rw [splitW_eq (Nat.lt_of_le_of_lt (Nat.le_of_ble_eq_true (m:=17) (by kernel_rfl)) (by omega))]
  kernel_rfl
theorem end_ref {n:Int} (h1:1≤n) (h2:n≤3):at? [doneS,lostS,stopS] (w64 (n - 1))=some (endT n):=by
  rcases end_cases h1 h2 with rfl | rfl | rfl <;> kernel_rfl
theorem name_word {s:ByteArray} (h:isWordB s=true):wordB s=true∧s.size≤40:=by
  unfold isWordB at h
  simp only [Bool.and_eq_true,decide_eq_true_eq] at h
  obtain ⟨⟨⟨h1,h2⟩,h3⟩,h4⟩:=h
  refine ⟨?_,h2⟩
  obtain ⟨b,l,hs,_,_⟩:=head_cases (s:=s) (by omega)
  unfold wordB
  rw [Bool.and_eq_true]
  refine ⟨by rw [sEq_data,hs]; simp,?_⟩
  rw [List.all_eq_true] at h4 ⊢
  intro x hx
  have hu:=u8_all (p:=fun b=>!okB b||okW b) (by kernel_rfl) x
  rw [h4 x hx] at hu
  simpa using hu
theorem num_word {s:ByteArray} (h:(numV s).2=true):wordB s=true:=by
  unfold numV at h
  cases hb:numB s
  · rw [hb] at h; cases h
  · unfold numB at hb
    simp only [Bool.and_eq_true,decide_eq_true_eq] at hb
    obtain ⟨h1,h2,h3,h4⟩:=hb
    obtain ⟨b,l,hs,_,_⟩:=head_cases h1
    unfold wordB
    rw [Bool.and_eq_true]
    refine ⟨?_,?_⟩
    · rw [sEq_data,hs]
      simp
    · rw [List.all_eq_true] at h3 ⊢
      intro x hx
      have:=u8_all (p:=fun b=>!digitB b||okW b) (by kernel_rfl) x
      rw [h3 x hx] at this
      simpa using this
def lineW (x:Run):ByteArray:=joinW (numT x.From) (numT x.To) (endT x.End) x.Id x.Worker
theorem line_words {x:Run} (h:okRun x):wordB (numT x.From)=true∧wordB (numT x.To)=true∧wordB (endT x.End)=true∧wordB x.Id=true∧wordB x.Worker=true:=by
  obtain ⟨h1,h2,h3,h4,h5,h6,h7⟩:=h
  exact ⟨num_word (by rw [numV_numT h1 (by omega)]),num_word (by rw [numV_numT (by omega) h3]),(end_word h4 h5).1,(name_word h6).1,(name_word h7).1⟩
theorem line_size {x:Run} (h:okRun x):(lineW x).size≤111∧(numT x.From).size≤10∧(numT x.To).size≤10∧(endT x.End).size≤7∧x.Id.size≤40∧x.Worker.size≤40:=by
  obtain ⟨h1,h2,h3,h4,h5,h6,h7⟩:=h
  have a:=numT_size h1 (show x.From≤1000000000 by omega)
  have b:=numT_size (show 0≤x.To by omega) h3
  have c:=(end_word h4 h5).2.1
  have d:=(name_word h6).2
  have e:=(name_word h7).2
  refine ⟨?_,a.2,b.2,c,d,e⟩
  unfold lineW
  rw [joinW_size]
  omega
theorem line_read {x:Run} (h:okRun x):workers_readRun.f (lineW x)=some (x,true):=by
  obtain ⟨w1,w2,w3,w4,w5⟩:=line_words h
  have hw:wordsOf (lineW x)=[numT x.From,numT x.To,endT x.End,x.Id,x.Worker] :=
    words_five (word_not w1).1 (word_not w2).1 (word_not w3).1 (word_not w4).1 (word_not w5).1 (joinW_data _ _ _ _ _)
  have hz:=(line_size h).1
  obtain ⟨h1,h2,h3,h4,h5,h6,h7⟩:=h
  unfold workers_readRun.f
  rw [splitW_eq (by omega),hw]
  simp only [Option.bind_some]
  generalize ha:numT x.From=a
  generalize hb:numT x.To=b
  generalize hc:endT x.End=c
  have q0:at? [a,b,c,x.Id,x.Worker] 0=some a:=rfl
  have q1:at? [a,b,c,x.Id,x.Worker] 1=some b:=rfl
  have q2:at? [a,b,c,x.Id,x.Worker] 2=some c:=rfl
  have q3:at? [a,b,c,x.Id,x.Worker] 3=some x.Id:=rfl
  have q4:at? [a,b,c,x.Id,x.Worker] 4=some x.Worker:=rfl
  have q5:(([a,b,c,x.Id,x.Worker].length:Int) != 5)=false:=rfl
  rw [q0,q1,q2,q3,q4,q5]
  have hi:=(end_word h4 h5).2.2.1
  rw [hc] at hi
  unfold endsL doneS lostS stopS at hi
  simp only [cond_false,Option.bind_some,number_prog,rowB_prog,hi,w4,w5]
  rw [← ha,← hb,numV_numT h1 (by omega),numV_numT (by omega) h3,decide_eq_true (show (0:Int)<x.End by omega)]
  rfl
theorem line_no {x:Run} (h:okRun x):(10:UInt8) ∉ (lineW x).data.toList:=by
  obtain ⟨w1,w2,w3,w4,w5⟩:=line_words h
  unfold lineW
  rw [joinW_data]
  simp only [List.mem_append,List.mem_cons,not_or]
  exact ⟨(word_not w1).2,by decide,(word_not w2).2,by decide,(word_not w3).2,by decide,(word_not w4).2,by decide,(word_not w5).2⟩
/-! all lines -/
def textL:List Run→List UInt8
  | []=>[]
  | x::l=>(lineW x).data.toList++10::textL l
def textS (l:List Run):ByteArray:=⟨(textL l).toArray⟩
theorem text_size:∀ {l:List Run},(∀ x∈l,okRun x)→(textS l).size≤112*l.length
  | [],_=>Nat.le_refl _
  | x::l,h=>by
    have ih:=text_size (l:=l) (fun y hy=>h y (by simp [hy]))
    have hz:=(line_size (h x (by simp))).1
    rw [← ba_len] at ih hz ⊢
    show ((lineW x).data.toList++10::textL l).length≤_
    have ih:(textL l).length≤112*l.length:=ih
    rw [List.length_append,List.length_cons,List.length_cons]
    omega
theorem read_loop:∀ (l:List Run) (k:Nat) (out:List Run) (n:Int),l.length<k→(∀ x∈l,okRun x)→out.length+l.length≤4000→workers_Read.l2 workers_Read.e1 k (textS l) out n=workers_Read.e1 (out++l)
  | [],k,out,n,hk,_,_=>by
    obtain ⟨k,rfl⟩:∃ m,k=m+1:=⟨k - 1,by simp at hk; omega⟩
    rw [workers_Read.l2,show sEq (textS []) ({ data:=#[] }:ByteArray)=true from sEq_iff.2 rfl,List.append_nil]
    rfl
  | x::l,k,out,n,hk,ho,hl=>by
    obtain ⟨k,rfl⟩:∃ m,k=m+1:=⟨k - 1,by simp at hk; omega⟩
    rw [List.length_cons] at hk hl
    have hx:=ho x (by simp)
    have hd:(textS (x::l)).data.toList=(lineW x).data.toList++10::(textS l).data.toList:=rfl
    have hz:=text_size ho
    rw [List.length_cons] at hz
    have he:sEq (textS (x::l)) ({ data:=#[] }:ByteArray)=false:=by
      rw [sEq_data,hd]
      simp
    rw [workers_Read.l2,he,cut_at hd (line_no hx) (by omega)]
    simp only [Bool.not_false,cond_true,Option.bind_some,line_read hx,Bool.not_true,cond_false]
    rw [guard?_true (room_of (by omega)),read_loop l k (out++[x]) _ (by omega) (fun y hy=>ho y (by simp [hy])) (by rw [List.length_append,List.length_singleton]; omega),List.append_assoc]
    rfl
theorem ok_small {l:List Run} (h3:l.length≤4000) (ho:∀ x∈l,okRun x):smallRuns l :=
  ⟨by omega,fun x hx=>by
    obtain ⟨_,_,_,_,z4,z5⟩:=line_size (ho x hx)
    exact ⟨by omega,by omega⟩⟩
theorem read_text {l:List Run} (hh:runsS l=some 0):workers_Read.f (textS l)=some (l,0,0):=by
  obtain ⟨h3,ho⟩:=runsS_ok hh
  have hz:=text_size ho
  unfold workers_Read.f
  rw [decide_eq_false (by omega),cond_false,read_loop l big [] 1 (by unfold big; omega) ho (by simpa using h3)]
  unfold workers_Read.e1
  rw [List.nil_append,runs_prog (ok_small h3 ho),hh]
  rfl
/-! the text -/
theorem text_cons (s:ByteArray) (x:Run) (l:List Run):(s++(lineW x++nl1))++textS l=s++textS (x::l):=by
  refine ba_ext ?_
  simp only [ba_app]
  show (s.data.toList++((lineW x).data.toList++[10]))++textL l=s.data.toList++((lineW x).data.toList++10::textL l)
  simp
theorem text_nil (s:ByteArray):s++textS []=s:=by
  refine ba_ext ?_
  rw [ba_app]
  show s.data.toList++[]=_
  simp
def textB (y2 y3 y4:ByteArray) (x:Run) (s:ByteArray) (m:Nat) (f:ByteArray→Option (ByteArray × Int)):Option (ByteArray × Int) :=
  (strings_Join.f ([y2,y3,y4,x.Id,x.Worker]:List ByteArray) ({ data:=#[32] }:ByteArray)).bind fun y4 =>
  guard? (decide (y4.size+({ data:=#[10] }:ByteArray).size≤9223372036854775807)) (guard? (decide (s.size+(y4++({ data:=#[10] }:ByteArray)).size≤m)) (f (s++(y4++({ data:=#[10] }:ByteArray)))))
theorem textB_eq {x:Run} (h:okRun x) {s:ByteArray} {m:Nat} (hm:140737488355328≤m) (hs:s.size≤100000000) (f:ByteArray→Option (ByteArray × Int)):textB (numT x.From) (numT x.To) (endT x.End) x s m f=f (s++(lineW x++nl1)):=by
  obtain ⟨z0,z1,z2,z3,z4,z5⟩:=line_size h
  unfold textB
  rw [join_five (by omega) (by omega) (by omega) (by omega) (by omega)]
  simp only [Option.bind_some]
  have e:joinW (numT x.From) (numT x.To) (endT x.End) x.Id x.Worker=lineW x:=rfl
  have zn:({ data:=#[10] }:ByteArray).size=1:=rfl
  rw [e,guard?_true (decide_eq_true (by rw [zn]; omega)),guard?_true (decide_eq_true (by rw [ByteArray.size_append,zn]; omega))]
  rfl
def bodyP (x:Run) (s:ByteArray) (f:ByteArray→Option (ByteArray × Int)):Option (ByteArray × Int) :=
  (at? endsL x.End).bind fun y4=>(strconv_Itoa.f x.From).bind fun y2=>(strconv_Itoa.f x.To).bind fun y3=>textB y2 y3 y4 x s 140737488355328 f
def bodyR (x:Run) (s:ByteArray) (f:ByteArray→Option (ByteArray × Int)):Option (ByteArray × Int) :=
  (strconv_Itoa.f x.From).bind fun y2=>(strconv_Itoa.f x.To).bind fun y3=>(strings_Split.f endsR ({ data:=#[32] }:ByteArray)).bind fun l=>(at? l (w64 (x.End - 1))).bind fun y4=>textB y2 y3 y4 x s 9223372036854775807 f
theorem bodyP_eq {x:Run} (h:okRun x) {s:ByteArray} (hs:s.size≤100000000) (f:ByteArray→Option (ByteArray × Int)):bodyP x s f=f (s++(lineW x++nl1)):=by
  have hb:=textB_eq h (m:=140737488355328) (by omega) hs f
  obtain ⟨h1,h2,h3,h4,h5,h6,h7⟩:=h
  unfold bodyP
  rw [(end_word h4 h5).2.2.2,itoa_eq (n:=x.From) (by omega) (by omega),itoa_eq (n:=x.To) (by omega) (by omega)]
  exact hb
theorem bodyR_eq {x:Run} (h:okRun x) {s:ByteArray} (hs:s.size≤100000000) (f:ByteArray→Option (ByteArray × Int)):bodyR x s f=f (s++(lineW x++nl1)):=by
  have hb:=textB_eq h (m:=9223372036854775807) (by omega) hs f
  obtain ⟨h1,h2,h3,h4,h5,h6,h7⟩:=h
  unfold bodyR
  rw [ends_split,itoa_eq (n:=x.From) (by omega) (by omega),itoa_eq (n:=x.To) (by omega) (by omega)]
  simp only [Option.bind_some]
  rw [end_ref h4 h5]
  exact hb
theorem text_range {B:Run→ByteArray→(ByteArray→Option (ByteArray × Int))→Option (ByteArray × Int)} (hB:∀ x,okRun x→∀ (s:ByteArray) f,s.size≤100000000→B x s f=f (s++(lineW x++nl1))) {E:ByteArray→Option (ByteArray × Int)} :
    ∀ (l:List Run) (i:Int) (s:ByteArray),(∀ x∈l,okRun x)→s.size+112*l.length≤100000000→rangeS (fun _ x s f=>B x s f) E i l s=E (s++textS l)
  | [],i,s,_,_=>by rw [text_nil]; rfl
  | x::l,i,s,ho,hz=>by
    rw [List.length_cons] at hz
    have hx:=ho x (by simp)
    have hl:=(line_size hx).1
    rw [rangeS,hB x hx s _ (by omega),text_range hB l (i+1) _ (fun y hy=>ho y (by simp [hy])) (by
      have zn:nl1.size=1:=rfl
      rw [ByteArray.size_append,ByteArray.size_append,zn]
      omega),text_cons]
def textR (l:List Run):Option (ByteArray × Int):=(runsS l).bind fun y=>bif y != 0 then some (({ data:=#[] }:ByteArray),y) else some (textS l,0)
theorem text_prog {l:List Run} (hl:smallRuns l):workers_Text.f l=textR l:=by
  unfold workers_Text.f textR
  rw [runs_prog hl]
  obtain ⟨r,hr⟩:=runsS_some l
  rw [hr]
  simp only [Option.bind_some]
  by_cases h0:r=0
  · subst h0
    obtain ⟨h3,ho⟩:=runsS_ok hr
    have hz:=text_size ho
    simp only [bne_self_eq_false,cond_false]
    have h1:=rangeS_all (xs:=l) (S:=ByteArray) (L:=fun k s v=>workers_Text.l2 workers_Text.e1 k l s v) (body:=fun _ x s f=>bodyP x s f) (e:=workers_Text.e1) hl.1 (fun k s v=>by
      simp only [workers_Text.l2]
      congr 1) (⟨#[]⟩:ByteArray)
    refine h1.trans ?_
    rw [text_range (fun x hx s f hs=>bodyP_eq hx hs f) l 0 _ ho (by show 0+_≤_; omega),empty_app]
    unfold workers_Text.e1
    rw [decide_eq_false (by omega)]
    rfl
  · have:(r != 0)=true:=by simpa using h0
    rw [this]
    rfl
theorem text_ref {l:List Run} (hl:smallRuns l):smithyardref9_Text.f l=textR l:=by
  unfold smithyardref9_Text.f textR
  rw [runs_ref hl]
  obtain ⟨r,hr⟩:=runsS_some l
  rw [hr]
  simp only [Option.bind_some]
  by_cases h0:r=0
  · subst h0
    obtain ⟨h3,ho⟩:=runsS_ok hr
    have hz:=text_size ho
    simp only [bne_self_eq_false,cond_false]
    have h1:=rangeS_all (xs:=l) (S:=ByteArray) (L:=fun k s v=>smithyardref9_Text.l2 smithyardref9_Text.e1 k l s v) (body:=fun _ x s f=>bodyR x s f) (e:=smithyardref9_Text.e1) hl.1 (fun k s v=>by
      simp only [smithyardref9_Text.l2]
      congr 1) ({ data:=#[] }:ByteArray)
    refine h1.trans ?_
    rw [text_range (fun x hx s f hs=>bodyR_eq hx hs f) l 0 _ ho (by show 0+_≤_; omega),show (({ data:=#[] }:ByteArray)++textS l)=textS l from empty_app _]
    unfold smithyardref9_Text.e1
    rw [decide_eq_false (by omega)]
    rfl
  · have:(r != 0)=true:=by simpa using h0
    rw [this]
    rfl
theorem textR_some (l:List Run):∃ s f,textR l=some (s,f)∧(f=0→runsS l=some 0∧s=textS l):=by
  obtain ⟨r,hr⟩:=runsS_some l
  unfold textR
  rw [hr]
  simp only [Option.bind_some]
  by_cases h0:r=0
  · subst h0
    exact ⟨_,_,rfl,fun _=>⟨rfl,rfl⟩⟩
  · have:(r != 0)=true:=by simpa using h0
    rw [this]
    exact ⟨_,_,rfl,fun h=>absurd h h0⟩
end Go.Proofs.YtdccapcfbielcaaGreatDoor
