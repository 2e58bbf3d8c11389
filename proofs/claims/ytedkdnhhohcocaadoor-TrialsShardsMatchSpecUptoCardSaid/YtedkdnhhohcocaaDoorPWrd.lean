/- Words, as the program checks them. -/
import Derived.Test.YtedkdnhhohcocaaDoorPO
set_option linter.unusedVariables false
set_option linter.unusedSimpArgs false
namespace Go.Proofs.YtedkdnhhohcocaaDoor
open Go Go.Proofs.YtedkdnhhohcocaaDoor.Kit
theorem isWord_prog (s:ByteArray) (h:s.size≤4611686018427387904):config_IsWord.f s=some (isWordB s):=by
  unfold config_IsWord.f isWordB
  by_cases h1:s.size<1
  · have e1:decide ((s.size:Int)<1)=true:=decide_eq_true (by omega)
    have e2:decide (1≤s.size)=false:=decide_eq_false (by omega)
    simp [e1,e2]
  have e1:decide ((s.size:Int)<1)=false:=decide_eq_false (by omega)
  have e1':decide (1≤s.size)=true:=decide_eq_true (by omega)
  by_cases h2:40<s.size
  · have e2:decide (40<(s.size:Int))=true:=decide_eq_true (by omega)
    have e3:decide (s.size≤40)=false:=decide_eq_false (by omega)
    simp [e1,e1',e2,e3]
  have e2:decide (40<(s.size:Int))=false:=decide_eq_false (by omega)
  have e2':decide (s.size≤40)=true:=decide_eq_true (by omega)
  have e3:(decide ((0:Int)≤0)&&decide (0<(s.size:Int)))=true:=by rw [decide_eq_true (show (0:Int)<(s.size:Int) by omega)]; rfl
  obtain ⟨b,l,hl⟩:∃ b l,s.data.toList=b::l:=by
    cases hd:s.data.toList with
    | nil =>
      have:s.size=0:=by
        have:=congrArg List.length hd
        simpa using this
      omega
    | cons b l=>exact ⟨b,l,rfl⟩
  have hb:bt s 0=(b.toNat:Int):=bt_of (i:=0) (by rw [hl]; rfl)
  rw [e1,e1',e2,e2',hl,hb]
  simp only [e3,guard?,cond_true,cond_false,Bool.true_and]
  by_cases h3:b.toNat<97
  · have a1:decide ((b.toNat:Int)<97)=true:=decide_eq_true (by omega)
    have a2:decide (97≤b.toNat)=false:=decide_eq_false (by omega)
    simp [a1,a2]
  have a1:decide ((b.toNat:Int)<97)=false:=decide_eq_false (by omega)
  have a1':decide (97≤b.toNat)=true:=decide_eq_true (by omega)
  by_cases h4:122<b.toNat
  · have a2:decide (122<(b.toNat:Int))=true:=decide_eq_true (by omega)
    have a3:decide (b.toNat≤122)=false:=decide_eq_false (by omega)
    simp [a1,a1',a2,a3]
  have a2:decide (122<(b.toNat:Int))=false:=decide_eq_false (by omega)
  have a2':decide (b.toNat≤122)=true:=decide_eq_true (by omega)
  rw [a1,a1',a2,a2']
  simp only [cond_false,Option.bind_some,Bool.true_and,strings_Trim.f]
  have g1:decide (s.size≤9223372036854775807)=true:=decide_eq_true (by omega)
  have g2:decide (((⟨#[97,98,99,100,101,102,103,104,105,106,107,108,109,110,111,112,113,114,115,116,117,118,119,120,121,122,48,49,50,51,52,53,54,55,56,57,95,45]⟩:ByteArray)).size<4294967281)=true:=by kernel_rfl
  have g3:((⟨#[97,98,99,100,101,102,103,104,105,106,107,108,109,110,111,112,113,114,115,116,117,118,119,120,121,122,48,49,50,51,52,53,54,55,56,57,95,45]⟩:ByteArray).data.toList.all (fun b=>decide (b.toNat<128)))=true:=by kernel_rfl
  rw [g1,g2,g3]
  simp only [Bool.and_self,guard?,cond_true,Option.bind_some,Option.some.injEq]
  have hs:∀ (x:List UInt8),sEq ⟨x.toArray⟩ ⟨#[]⟩=(x == []):=by
    intro x
    unfold sEq
    simp [ByteArray.toList_eq]
  rw [hs,trimS_nil,hl]
  congr 1
  funext c
  have hdec:∀ c:UInt8,([97,98,99,100,101,102,103,104,105,106,107,108,109,110,111,112,113,114,115,116,117,118,119,120,121,122,48,49,50,51,52,53,54,55,56,57,95,45]:List UInt8).contains c=okB c:=fun c=>by
    have:=u8_all (p:=fun c=>([97,98,99,100,101,102,103,104,105,106,107,108,109,110,111,112,113,114,115,116,117,118,119,120,121,122,48,49,50,51,52,53,54,55,56,57,95,45]:List UInt8).contains c == okB c) (by kernel_rfl) c
    simpa using this
  exact hdec c
end Go.Proofs.YtedkdnhhohcocaaDoor
