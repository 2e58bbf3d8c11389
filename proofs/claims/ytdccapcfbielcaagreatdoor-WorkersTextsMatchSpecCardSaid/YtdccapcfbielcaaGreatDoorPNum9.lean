/- Words and numbers as they are read; both sides. -/
import Derived.Test.YtdccapcfbielcaaGreatDoorPRuns
import Derived.KernelRfl
import Derived.Lib.Atoi
import Derived.Lib.SplitLaws
set_option linter.unusedVariables false
set_option linter.unusedSimpArgs false
namespace Go.Proofs.YtdccapcfbielcaaGreatDoor
open Go Go.Proofs.YtdccapcfbielcaaGreatDoor.Kit
theorem sEq_nil (l:List UInt8):sEq (⟨l.toArray⟩:ByteArray) ({ data:=#[] }:ByteArray)=(l == []):=by
  rw [sEq_data]
  cases l <;> simp
def okW (b:UInt8):Bool:=decide (33≤b.toNat)&&decide (b.toNat≤126)
def wordB (s:ByteArray):Bool:=!sEq s ({ data:=#[] }:ByteArray)&&s.data.toList.all okW
theorem rowB_prog (s:ByteArray):workers_isRow.f s=some (wordB s):=by
  unfold workers_isRow.f wordB strings_ContainsFunc.f
  have e:(!s.data.toList.any (fun b=>decide ((b.toNat:Int)<33)||decide (126<(b.toNat:Int))))=s.data.toList.all okW:=by
    rw [List.not_any_eq_all_not]
    congr 1
    funext b
    unfold okW
    rw [Bool.eq_iff_iff]
    simp
    omega
  simp only [Option.bind_some]
  rw [e]
  cases sEq s ({ data:=#[] }:ByteArray) <;> rfl
/-! numbers -/
def digitB (b:UInt8):Bool:=([48,49,50,51,52,53,54,55,56,57]:List UInt8).contains b
def headB (s:ByteArray):Bool:=(match s.data.toList with | b::l=>b.toNat == 48&&!(l == []) | []=>false)
def numB (s:ByteArray):Bool:=decide (1≤s.size)&&(decide (s.size≤10)&&(s.data.toList.all digitB&&!headB s))
def numV (s:ByteArray):Int × Bool:=bif numB s then ((Lib.atoi s.data.toList).getD 0,true) else (0,false)
theorem trim_digits {s:ByteArray} (h:s.size≤10):strings_Trim.f s ({ data:=#[48,49,50,51,52,53,54,55,56,57] }:ByteArray)=some ⟨(Lib.trimS s.data.toList [48,49,50,51,52,53,54,55,56,57]).toArray⟩:=by
  unfold strings_Trim.f
  rw [guard?_true (by rw [decide_eq_true (by omega)]; rfl)]
theorem trim_all (s:ByteArray):sEq (⟨(Lib.trimS s.data.toList [48,49,50,51,52,53,54,55,56,57]).toArray⟩:ByteArray) ({ data:=#[] }:ByteArray)=s.data.toList.all digitB:=by
  rw [sEq_nil,trimS_nil]
  rfl
theorem digit_val (b:UInt8) (h:digitB b=true):∃ d,Lib.digitVal b=some d:=by
  have:=u8_all (p:=fun b=>!digitB b||(Lib.digitVal b).isSome) (by kernel_rfl) b
  rw [h] at this
  exact Option.isSome_iff_exists.1 (by simpa using this)
theorem dec_some:∀ (l:List UInt8) (a:Nat),l.all digitB=true→∃ m,Lib.decFrom a l=some m
  | [],a,_=>⟨a,rfl⟩
  | b::l,a,h=>by
    simp only [List.all_cons,Bool.and_eq_true] at h
    obtain ⟨d,hd⟩:=digit_val b h.1
    obtain ⟨m,hm⟩:=dec_some l (a*10+d) h.2
    exact ⟨m,by rw [Lib.decFrom,hd]; exact hm⟩
theorem atoi_some {s:ByteArray} (h1:1≤s.size) (h:s.data.toList.all digitB=true):∃ n,Lib.atoi s.data.toList=some n:=by
  have hl:s.data.toList.length=s.size:=by simp
  generalize s.data.toList=l at h hl
  cases l with
  | nil=>simp at hl; omega
  | cons b l =>
    have hb:digitB b=true:=by
      simp only [List.all_cons,Bool.and_eq_true] at h
      exact h.1
    have hne:=u8_all (p:=fun b=>!digitB b||(!(b == 45)&&!(b == 43))) (by kernel_rfl) b
    rw [hb] at hne
    simp only [Bool.not_true,Bool.false_or,Bool.and_eq_true,Bool.not_eq_true'] at hne
    obtain ⟨m,hm⟩:=dec_some (b::l) 0 h
    refine ⟨m,?_⟩
    rw [Lib.atoi,if_neg (by rw [hne.1]; simp),if_neg (by rw [hne.2]; simp)]
    unfold Lib.decNat
    rw [if_neg (by simp),hm]
    rfl
theorem num_end {s:ByteArray} (h1:1≤s.size) (h2:s.size≤10):(bif !s.data.toList.all digitB||headB s then some (0,false) else (strconv_Atoi.f s).bind fun y2=>some (y2,true))=some (numV s):=by
  unfold numV numB
  rw [decide_eq_true h1,decide_eq_true h2]
  cases ha:s.data.toList.all digitB
  · rfl
  · cases hb:headB s
    · obtain ⟨n,hn⟩:=atoi_some h1 ha
      unfold strconv_Atoi.f
      rw [guard?_true (decide_eq_true (by omega)),hn]
      rfl
    · rfl
theorem head_cases {s:ByteArray} (h1:1≤s.size):∃ b l,s.data.toList=b::l∧bt s 0=(b.toNat:Int)∧s.size=l.length+1:=by
  have hl:s.data.toList.length=s.size:=by simp
  cases hh:s.data.toList with
  | nil=>rw [hh] at hl; simp at hl; omega
  | cons b l =>
    refine ⟨b,l,rfl,?_,?_⟩
    · have:=bt_of (s:=s) (i:=0) (b:=b) (by rw [hh]; rfl)
      exact this
    · rw [hh] at hl
      simpa using hl.symm
theorem number_prog (s:ByteArray):workers_number.f s=some (numV s):=by
  unfold workers_number.f
  by_cases h1:s.size<1
  · rw [decide_eq_true (show (s.size:Int)<1 by omega)]
    unfold numV numB
    rw [decide_eq_false (show ¬ 1≤s.size by omega)]
    rfl
  rw [decide_eq_false (show ¬ (s.size:Int)<1 by omega)]
  by_cases h2:10<s.size
  · rw [decide_eq_true (show (10:Int)<(s.size:Int) by omega)]
    unfold numV numB
    rw [decide_eq_false (show ¬ s.size≤10 by omega),Bool.false_and,Bool.and_false]
    rfl
  rw [decide_eq_false (show ¬ (10:Int)<(s.size:Int) by omega),trim_digits (by omega),← num_end (by omega) (by omega)]
  simp only [cond_false,Option.bind_some]
  rw [trim_all]
  obtain ⟨b,l,hs,hb,hz⟩:=head_cases (s:=s) (by omega)
  rw [decide_eq_true (show (0:Int)<(s.size:Int) by omega),hb]
  simp only [decide_true,Bool.and_self,guard?,cond_true]
  have hh:headB s=(b.toNat == 48&&!(l == [])):=by unfold headB; rw [hs]
  have e1:(((b.toNat:Nat):Int) == 48)=(b.toNat == 48):=by rw [Bool.eq_iff_iff]; simp; omega
  rw [hh,e1]
  cases hc:(b.toNat == 48)
  · cases s.data.toList.all digitB <;> rfl
  · have e2:sEq s ({ data:=#[48] }:ByteArray)=(l == []):=by
      rw [sEq_data,hs]
      have:b=48:=UInt8.toNat_inj.1 (by simpa using hc)
      subst this
      cases l <;> simp
    rw [e2]
    cases s.data.toList.all digitB <;> cases (l == []) <;> rfl
/-! a line -/
def wordsOf (s:ByteArray):List ByteArray:=Lib.splitB ({ data:=#[32] }:ByteArray) 0 (Lib.countB s ({ data:=#[32] }:ByteArray)) s
theorem splitW_eq {s:ByteArray} (h:s.size<4294967281):strings_Split.f s ({ data:=#[32] }:ByteArray)=some (wordsOf s):=by
  unfold strings_Split.f guard?
  rw [decide_eq_true h]
  rfl
end Go.Proofs.YtdccapcfbielcaaGreatDoor
