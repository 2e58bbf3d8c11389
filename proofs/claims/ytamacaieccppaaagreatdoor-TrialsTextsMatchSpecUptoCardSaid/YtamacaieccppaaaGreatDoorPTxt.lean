/- Reading runs: lines, words and numbers; both sides. -/
import Derived.Test.YtamacaieccppaaaGreatDoorPHis
import Derived.KernelRfl
import Derived.Lib.Atoi
set_option linter.unusedVariables false
set_option linter.unusedSimpArgs false
namespace Go.Proofs.YtamacaieccppaaaGreatDoor
open Go Go.Proofs.YtamacaieccppaaaGreatDoor.Kit
def okW (b:UInt8):Bool:=decide (33≤b.toNat)&&decide (b.toNat≤126)
def wordB (s:ByteArray):Bool:=!sEq s ({ data:=#[] }:ByteArray)&&s.data.toList.all okW
theorem isWord_prog (s:ByteArray):trials_isWord.f s=some (wordB s):=by
  unfold trials_isWord.f wordB strings_ContainsFunc.f
  have e:(!s.data.toList.any (fun b=>decide ((b.toNat:Int)<33)||decide (126<(b.toNat:Int))))=s.data.toList.all okW:=by
    rw [List.not_any_eq_all_not]
    congr 1
    funext b
    unfold okW
    rw [Bool.eq_iff_iff]
    simp
    omega
  simp only [Option.bind_some]
  rw [e]
  cases sEq s ({ data:=#[] }:ByteArray) <;> rfl
theorem found_eqT {α:Type} {c:α→Bool} (l:List α):((some (match l.findIdx? c with | some n=>(0:Int)+n | none => -1)).bind fun y=>some (decide (0≤y)))=some (l.any c):=by
  have:(l.findIdx? c).isSome=l.any c:=List.findIdx?_isSome
  rw [← this]
  cases l.findIdx? c with
  | none=>rfl
  | some n =>
    show some (decide ((0:Int)≤0+(n:Int)))=some true
    rw [decide_eq_true (by omega)]
theorem words_any {l:List ByteArray} (h:l.length≤4611686018427387904):slices_ContainsFunc_string.f l=some (l.any (fun x=>!wordB x)):=by
  unfold slices_ContainsFunc_string.f slices_IndexFunc_string.f
  have:=rangeS_all (xs:=l) (body:=fun v y (s:Unit) f=>bif !wordB y then some v else f s) (e:=fun _=>some (-1)) (L:=fun k _ v=>slices_IndexFunc_string.l2 slices_IndexFunc_string.e1 k l v) h (fun k _ v=>by
    rw [slices_IndexFunc_string.l2]
    congr 1
    refine bind_at (fun x hx=>?_)
    unfold trials_readRun_1.f
    rw [isWord_prog]
    rfl) ()
  rw [this,findLoop]
  exact found_eqT l
/-! numbers -/
def digitB (b:UInt8):Bool:=([48,49,50,51,52,53,54,55,56,57]:List UInt8).contains b
def headB (s:ByteArray):Bool:=(match s.data.toList with | b::l=>b.toNat == 48&&!(l == []) | []=>false)
def numB (s:ByteArray):Bool:=decide (1≤s.size)&&(decide (s.size≤10)&&(s.data.toList.all digitB&&!headB s))
def numV (s:ByteArray):Int × Bool:=bif numB s then ((Lib.atoi s.data.toList).getD 0,true) else (0,false)
theorem trim_digits {s:ByteArray} (h:s.size≤10):strings_Trim.f s ({ data:=#[48,49,50,51,52,53,54,55,56,57] }:ByteArray)=some ⟨(Lib.trimS s.data.toList [48,49,50,51,52,53,54,55,56,57]).toArray⟩:=by
  unfold strings_Trim.f
  rw [guard?_true (by rw [decide_eq_true (by omega)]; rfl)]
theorem trim_all (s:ByteArray):sEq (⟨(Lib.trimS s.data.toList [48,49,50,51,52,53,54,55,56,57]).toArray⟩:ByteArray) ({ data:=#[] }:ByteArray)=s.data.toList.all digitB:=by
  rw [sEq_nil,trimS_nil]
  rfl
theorem digit_val (b:UInt8) (h:digitB b=true):∃ d,Lib.digitVal b=some d:=by
  have:=u8_all (p:=fun b=>!digitB b||(Lib.digitVal b).isSome) (by kernel_rfl) b
  rw [h] at this
  exact Option.isSome_iff_exists.1 (by simpa using this)
theorem dec_some:∀ (l:List UInt8) (a:Nat),l.all digitB=true→∃ m,Lib.decFrom a l=some m
  | [],a,_=>⟨a,rfl⟩
  | b::l,a,h=>by
    simp only [List.all_cons,Bool.and_eq_true] at h
    obtain ⟨d,hd⟩:=digit_val b h.1
    obtain ⟨m,hm⟩:=dec_some l (a*10+d) h.2
    exact ⟨m,by rw [Lib.decFrom,hd]; exact hm⟩
theorem atoi_some {s:ByteArray} (h1:1≤s.size) (h:s.data.toList.all digitB=true):∃ n,Lib.atoi s.data.toList=some n:=by
  have hl:s.data.toList.length=s.size:=by simp
  generalize s.data.toList=l at h hl
  cases l with
  | nil=>simp at hl; omega
  | cons b l =>
    have hb:digitB b=true:=by
      simp only [List.all_cons,Bool.and_eq_true] at h
      exact h.1
    have hne:=u8_all (p:=fun b=>!digitB b||(!(b == 45)&&!(b == 43))) (by kernel_rfl) b
    rw [hb] at hne
    simp only [Bool.not_true,Bool.false_or,Bool.and_eq_true,Bool.not_eq_true'] at hne
    obtain ⟨m,hm⟩:=dec_some (b::l) 0 h
    refine ⟨m,?_⟩
    rw [Lib.atoi,if_neg (by rw [hne.1]; simp),if_neg (by rw [hne.2]; simp)]
    unfold Lib.decNat
    rw [if_neg (by simp),hm]
    rfl
theorem num_end {s:ByteArray} (h1:1≤s.size) (h2:s.size≤10):(bif !s.data.toList.all digitB||headB s then some (0,false) else (strconv_Atoi.f s).bind fun y2=>some (y2,true))=some (numV s):=by
  unfold numV numB
  rw [decide_eq_true h1,decide_eq_true h2]
  cases ha:s.data.toList.all digitB
  · rfl
  · cases hb:headB s
    · obtain ⟨n,hn⟩:=atoi_some h1 ha
      unfold strconv_Atoi.f
      rw [guard?_true (decide_eq_true (by omega)),hn]
      rfl
    · rfl
theorem head_cases {s:ByteArray} (h1:1≤s.size):∃ b l,s.data.toList=b::l∧bt s 0=(b.toNat:Int)∧s.size=l.length+1:=by
  have hl:s.data.toList.length=s.size:=by simp
  cases hh:s.data.toList with
  | nil=>rw [hh] at hl; simp at hl; omega
  | cons b l =>
    refine ⟨b,l,rfl,?_,?_⟩
    · have:=bt_of (s:=s) (i:=0) (b:=b) (by rw [hh]; rfl)
      exact this
    · rw [hh] at hl
      simpa using hl.symm
theorem number_prog (s:ByteArray):trials_number.f s=some (numV s):=by
  unfold trials_number.f
  by_cases h1:s.size<1
  · rw [decide_eq_true (show (s.size:Int)<1 by omega)]
    unfold numV numB
    rw [decide_eq_false (show ¬ 1≤s.size by omega)]
    rfl
  rw [decide_eq_false (show ¬ (s.size:Int)<1 by omega)]
  by_cases h2:10<s.size
  · rw [decide_eq_true (show (10:Int)<(s.size:Int) by omega)]
    unfold numV numB
    rw [decide_eq_false (show ¬ s.size≤10 by omega),Bool.false_and,Bool.and_false]
    rfl
  rw [decide_eq_false (show ¬ (10:Int)<(s.size:Int) by omega),trim_digits (by omega),← num_end (by omega) (by omega)]
  simp only [cond_false,Option.bind_some]
  rw [trim_all]
  obtain ⟨b,l,hs,hb,hz⟩:=head_cases (s:=s) (by omega)
  rw [decide_eq_true (show (0:Int)<(s.size:Int) by omega),hb]
  simp only [decide_true,Bool.and_self,guard?,cond_true]
  have hh:headB s=(b.toNat == 48&&!(l == [])):=by unfold headB; rw [hs]
  have e1:(((b.toNat:Nat):Int) == 48)=(b.toNat == 48):=by rw [Bool.eq_iff_iff]; simp; omega
  rw [hh,e1]
  cases hc:(b.toNat == 48)
  · cases s.data.toList.all digitB <;> rfl
  · have e2:sEq s ({ data:=#[48] }:ByteArray)=(l == []):=by
      rw [sEq_data,hs]
      have:b=48:=UInt8.toNat_inj.1 (by simpa using hc)
      subst this
      cases l <;> simp
    rw [e2]
    cases s.data.toList.all digitB <;> cases (l == []) <;> rfl
/-! a line -/
def wordsOf (s:ByteArray):List ByteArray:=Lib.splitB ({ data:=#[32] }:ByteArray) 0 (Lib.countB s ({ data:=#[32] }:ByteArray)) s
theorem splitW_eq {s:ByteArray} (h:s.size<4294967281):strings_Split.f s ({ data:=#[32] }:ByteArray)=some (wordsOf s):=by
  unfold strings_Split.f guard?
  rw [decide_eq_true h]
  rfl
theorem wordsOf_length (s:ByteArray):(wordsOf s).length≤s.size+1:=by
  have h1:1≤({ data:=#[32] }:ByteArray).size:=by decide
  have:=Lib.splitB_all ({ data:=#[32] }:ByteArray) h1 0 _ s rfl
  have h2:=Lib.countB_le ({ data:=#[32] }:ByteArray) h1 s.size s (Nat.le_refl _)
  unfold wordsOf
  omega
def passS:ByteArray:={ data:=#[112,97,115,115] }
def failS:ByteArray:={ data:=#[102,97,105,108] }
def endB (d:ByteArray):Bool:=sEq d passS||sEq d failS
def lineB:List ByteArray→Bool
  | [a,b,c,d,e]=>wordB b&&wordB c&&endB d&&((numV a).2&&(numV e).2)
  | _=>false
def lineR:List ByteArray→TestRun
  | [a,b,c,d,e]=>⟨b,c,(numV a).1,sEq d passS,(numV e).1⟩
  | _=>default
theorem lineB_five (a b c d e:ByteArray):lineB [a,b,c,d,e]=(wordB b&&wordB c&&endB d&&((numV a).2&&(numV e).2)):=rfl
theorem lineR_five (a b c d e:ByteArray):lineR [a,b,c,d,e]=⟨b,c,(numV a).1,sEq d passS,(numV e).1⟩:=rfl
theorem num_word {s:ByteArray} (h:(numV s).2=true):wordB s=true:=by
  unfold numV at h
  cases hb:numB s
  · rw [hb] at h; cases h
  · unfold numB at hb
    simp only [Bool.and_eq_true,decide_eq_true_eq] at hb
    obtain ⟨h1,h2,h3,h4⟩:=hb
    obtain ⟨b,l,hs,_,_⟩:=head_cases h1
    unfold wordB
    rw [Bool.and_eq_true]
    refine ⟨?_,?_⟩
    · rw [sEq_data,hs]
      simp
    · rw [List.all_eq_true] at h3 ⊢
      intro x hx
      have:=u8_all (p:=fun b=>!digitB b||okW b) (by kernel_rfl) x
      rw [h3 x hx] at this
      simpa using this
theorem end_word {d:ByteArray} (h:endB d=true):wordB d=true:=by
  unfold endB at h
  rw [Bool.or_eq_true] at h
  rcases h with h | h
  · rw [sEq_iff.1 h]
    kernel_rfl
  · rw [sEq_iff.1 h]
    kernel_rfl
theorem nine (l:List ByteArray) (a b c d e f:ByteArray):(((a::b::c::d::e::f::l).length:Int) != 5)=true:=by
  have:((a::b::c::d::e::f::l).length:Int)=(l.length:Int)+6:=by simp; omega
  rw [this]
  simp
  omega
theorem readRun_prog {s:ByteArray} (h:s.size<4294967281):∃ r,trials_readRun.f s=some (r,lineB (wordsOf s))∧(lineB (wordsOf s)=true→r=lineR (wordsOf s)):=by
  have hl:=wordsOf_length s
  unfold trials_readRun.f
  rw [splitW_eq h]
  simp only [Option.bind_some]
  rw [words_any (by omega)]
  generalize wordsOf s=w
  rcases w with _ | ⟨a,_ | ⟨b,_ | ⟨c,_ | ⟨d,_ | ⟨e,_ | ⟨f,l⟩⟩⟩⟩⟩⟩
  · exact ⟨_,rfl,fun h=>by cases h⟩
  · exact ⟨_,rfl,fun h=>by cases h⟩
  · exact ⟨_,rfl,fun h=>by cases h⟩
  · exact ⟨_,rfl,fun h=>by cases h⟩
  · exact ⟨_,rfl,fun h=>by cases h⟩
  · have q0:at? [a,b,c,d,e] 0=some a:=rfl
    have q1:at? [a,b,c,d,e] 1=some b:=rfl
    have q2:at? [a,b,c,d,e] 2=some c:=rfl
    have q3:at? [a,b,c,d,e] 3=some d:=rfl
    have q4:at? [a,b,c,d,e] 4=some e:=rfl
    have q5:(([a,b,c,d,e].length:Int) != 5)=false:=rfl
    rw [q0,q1,q2,q3,q4,q5]
    simp only [Option.bind_some,cond_false,number_prog,List.any_cons,List.any_nil,Bool.or_false]
    have hd:sEq d ({ data:=#[112,97,115,115] }:ByteArray)=sEq d passS:=rfl
    have hf:sEq d ({ data:=#[102,97,105,108] }:ByteArray)=sEq d failS:=rfl
    rw [hd,hf]
    have we:endB d=true→wordB d=true:=end_word
    have wa:(numV a).2=true→wordB a=true:=num_word
    have wz:(numV e).2=true→wordB e=true:=num_word
    unfold endB at we
    rw [lineB_five,lineR_five]
    unfold endB
    revert we wa wz
    cases wordB a <;> cases wordB b <;> cases wordB c <;> cases wordB d <;> cases wordB e <;> cases sEq d passS <;> cases sEq d failS <;> cases (numV a).2 <;> cases (numV e).2 <;> intro we wa wz <;> first
      | exact ⟨_,rfl,fun _=>rfl⟩
      | exact ⟨_,rfl,fun h=>by simp at h⟩
      | (cases we rfl; done)
      | (cases wa rfl; done)
      | (cases wz rfl; done)
  · rw [nine]
    exact ⟨_,rfl,fun h=>by cases h⟩
end Go.Proofs.YtamacaieccppaaaGreatDoor
