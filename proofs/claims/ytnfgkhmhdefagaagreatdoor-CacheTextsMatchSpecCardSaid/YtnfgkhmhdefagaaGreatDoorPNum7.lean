/- Words and numbers as they are read; both sides. -/
import Derived.Test.YtnfgkhmhdefagaaGreatDoorPC7F
import Derived.KernelRfl
import Derived.Lib.Atoi
import Derived.Lib.SplitLaws
set_option linter.unusedVariables false
set_option linter.unusedSimpArgs false
namespace Go.Proofs.YtnfgkhmhdefagaaGreatDoor
open Go Go.Proofs.YtnfgkhmhdefagaaGreatDoor.Kit
theorem sEq_nil (l:List UInt8):sEq (⟨l.toArray⟩:ByteArray) ({ data:=#[] }:ByteArray)=(l == []):=by
  rw [sEq_data]
  cases l <;> simp
theorem found_eqT {α:Type} {c:α→Bool} (l:List α):((some (match l.findIdx? c with | some n=>(0:Int)+n | none => -1)).bind fun y=>some (decide (0≤y)))=some (l.any c):=by
  have:(l.findIdx? c).isSome=l.any c:=List.findIdx?_isSome
  rw [← this]
  cases l.findIdx? c with
  | none=>rfl
  | some n =>
    show some (decide ((0:Int)≤0+(n:Int)))=some true
    rw [decide_eq_true (by omega)]
/-! numbers -/
def digitB (b:UInt8):Bool:=([48,49,50,51,52,53,54,55,56,57]:List UInt8).contains b
def headB (s:ByteArray):Bool:=(match s.data.toList with | b::l=>b.toNat == 48&&!(l == []) | []=>false)
def numB (s:ByteArray):Bool:=decide (1≤s.size)&&(decide (s.size≤10)&&(s.data.toList.all digitB&&!headB s))
def numV (s:ByteArray):Int × Bool:=bif numB s then ((Lib.atoi s.data.toList).getD 0,true) else (0,false)
theorem trim_digits {s:ByteArray} (h:s.size≤10):strings_Trim.f s ({ data:=#[48,49,50,51,52,53,54,55,56,57] }:ByteArray)=some ⟨(Lib.trimS s.data.toList [48,49,50,51,52,53,54,55,56,57]).toArray⟩:=by
  unfold strings_Trim.f
  rw [guard?_true (by rw [decide_eq_true (by omega)]; rfl)]
theorem trim_all (s:ByteArray):sEq (⟨(Lib.trimS s.data.toList [48,49,50,51,52,53,54,55,56,57]).toArray⟩:ByteArray) ({ data:=#[] }:ByteArray)=s.data.toList.all digitB:=by
  rw [sEq_nil,trimS_nil]
  rfl
theorem digit_val (b:UInt8) (h:digitB b=true):∃ d,Lib.digitVal b=some d:=by
  have:=u8_all (p:=fun b=>!digitB b||(Lib.digitVal b).isSome) (by kernel_rfl) b
  rw [h] at this
  exact Option.isSome_iff_exists.1 (by simpa using this)
theorem dec_some:∀ (l:List UInt8) (a:Nat),l.all digitB=true→∃ m,Lib.decFrom a l=some m
  | [],a,_=>⟨a,rfl⟩
  | b::l,a,h=>by
    simp only [List.all_cons,Bool.and_eq_true] at h
    obtain ⟨d,hd⟩:=digit_val b h.1
    obtain ⟨m,hm⟩:=dec_some l (a*10+d) h.2
    exact ⟨m,by rw [Lib.decFrom,hd]; exact hm⟩
theorem atoi_some {s:ByteArray} (h1:1≤s.size) (h:s.data.toList.all digitB=true):∃ n,Lib.atoi s.data.toList=some n:=by
  have hl:s.data.toList.length=s.size:=by simp
  generalize s.data.toList=l at h hl
  cases l with
  | nil=>simp at hl; omega
  | cons b l =>
    have hb:digitB b=true:=by
      simp only [List.all_cons,Bool.and_eq_true] at h
      exact h.1
    have hne:=u8_all (p:=fun b=>!digitB b||(!(b == 45)&&!(b == 43))) (by kernel_rfl) b
    rw [hb] at hne
    simp only [Bool.not_true,Bool.false_or,Bool.and_eq_true,Bool.not_eq_true'] at hne
    obtain ⟨m,hm⟩:=dec_some (b::l) 0 h
    refine ⟨m,?_⟩
    rw [Lib.atoi,if_neg (by rw [hne.1]; simp),if_neg (by rw [hne.2]; simp)]
    unfold Lib.decNat
    rw [if_neg (by simp),hm]
    rfl
theorem head_cases {s:ByteArray} (h1:1≤s.size):∃ b l,s.data.toList=b::l∧bt s 0=(b.toNat:Int)∧s.size=l.length+1:=by
  have hl:s.data.toList.length=s.size:=by simp
  cases hh:s.data.toList with
  | nil=>rw [hh] at hl; simp at hl; omega
  | cons b l =>
    refine ⟨b,l,rfl,?_,?_⟩
    · have:=bt_of (s:=s) (i:=0) (b:=b) (by rw [hh]; rfl)
      exact this
    · rw [hh] at hl
      simpa using hl.symm
/-! a line -/
def wordsOf (s:ByteArray):List ByteArray:=Lib.splitB ({ data:=#[32] }:ByteArray) 0 (Lib.countB s ({ data:=#[32] }:ByteArray)) s
theorem splitW_eq {s:ByteArray} (h:s.size<4294967281):strings_Split.f s ({ data:=#[32] }:ByteArray)=some (wordsOf s):=by
  unfold strings_Split.f guard?
  rw [decide_eq_true h]
  rfl
theorem wordsOf_length (s:ByteArray):(wordsOf s).length≤s.size+1:=by
  have h1:1≤({ data:=#[32] }:ByteArray).size:=by decide
  have:=Lib.splitB_all ({ data:=#[32] }:ByteArray) h1 0 _ s rfl
  have h2:=Lib.countB_le ({ data:=#[32] }:ByteArray) h1 s.size s (Nat.le_refl _)
  unfold wordsOf
  omega
end Go.Proofs.YtnfgkhmhdefagaaGreatDoor
