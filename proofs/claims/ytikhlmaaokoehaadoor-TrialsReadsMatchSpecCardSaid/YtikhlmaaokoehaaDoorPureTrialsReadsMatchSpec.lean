/- TrialsReadsMatchSpec over plain data: runs are read on both sides alike, with the lines of errors. -/
import Derived.Test.YtikhlmaaokoehaaDoorPTxt
import Derived.Test.YtikhlmaaokoehaaDoorPSame
import Derived.Test.YtikhlmaaokoehaaDoorPureSTrialsReadsMatchSpec
import Derived.Lib.IndexLaws
import Derived.KernelRfl
set_option linter.unusedVariables false
set_option linter.unusedSimpArgs false
namespace Go.Proofs.YtikhlmaaokoehaaDoor
open Go Go.Proofs.YtikhlmaaokoehaaDoor.Kit
theorem awake_eq:smithyardlaw10_awake.f=some true:=by kernel_rfl
theorem cut_eq {s:ByteArray} (h:s.size≤900000):∃ p r ok,strings_Cut.f s ({ data:=#[10] }:ByteArray)=some (p,r,ok)∧p.size≤s.size∧(ok=true→r.size<s.size):=by
  unfold strings_Cut.f stringslite_Cut.f stringslite_Index.f
  have e0:decide (({ data:=#[10] }:ByteArray).data.toList.length=1)=true:=rfl
  rw [guard?_true e0]
  have e:(({ data:=#[10] }:ByteArray).data.toList.headD 0)=10:=rfl
  have e1:({ data:=#[10] }:ByteArray).size=1:=rfl
  rw [e,e1]
  simp only [Option.bind_some]
  obtain ⟨i,hi⟩:∃ i,Lib.indexByte s.data.toList 10=i:=⟨_,rfl⟩
  rw [hi]
  by_cases h0:0≤i
  · obtain ⟨o,rfl⟩:∃ o:Nat,i=(o:Int):=⟨i.toNat,by omega⟩
    have hs:=(Lib.indexByte_some hi).1
    have ho:o<s.size:=by
      have:=(List.getElem?_eq_some_iff.1 hs).1
      simpa using this
    rw [decide_eq_true h0,w64_id (by omega) (by omega),decide_eq_true (show (o:Int)≤(s.size:Int) by omega),decide_eq_true (show (0:Int)≤(o:Int)+((1:Nat):Int) by omega),decide_eq_true (show (o:Int)+((1:Nat):Int)≤(s.size:Int) by omega)]
    simp only [Bool.and_self,guard?,cond_true,Option.bind_some]
    refine ⟨_,_,_,rfl,?_,fun _=>?_⟩
    · rw [ByteArray.size_extract]
      omega
    · rw [ByteArray.size_extract]
      omega
  · rw [decide_eq_false h0]
    exact ⟨_,_,_,rfl,Nat.le_refl _,fun h=>by cases h⟩
theorem line_test {w:List ByteArray} (h:lineB w=true):(lineR w).Test∈w:=by
  rcases w with _ | ⟨a,_ | ⟨b,_ | ⟨c,_ | ⟨d,_ | ⟨e,_ | ⟨f,l⟩⟩⟩⟩⟩⟩
  · cases h
  · cases h
  · cases h
  · cases h
  · cases h
  · simp [lineR]
  · cases h
theorem read_both:∀ (d:Nat) (s:ByteArray),s.size=d→d≤900000→∀ (k:Nat) (out:List TestRun) (n:Int),d<k→out.length+d≤900000→(∀ x∈out,x.Test.size≤900000) →
    ∃ r,trials_Read.l2 trials_Read.e1 k s out n=some r∧smithyardref10_Read.l2 smithyardref10_Read.e1 k s out n=some r∧r.1.length≤900000:=by
  intro d
  induction d using Nat.strongRecOn with
  | ind d ih =>
    intro s hs hd k out n hk ho ht
    obtain ⟨k,rfl⟩:∃ m,k=m+1:=⟨k - 1,by omega⟩
    rw [trials_Read.l2,smithyardref10_Read.l2]
    cases he:sEq s ({ data:=#[] }:ByteArray)
    · obtain ⟨p,r,ok,hc,hp,hr⟩:=cut_eq (s:=s) (by omega)
      rw [hc]
      simp only [Bool.not_false,cond_true,Option.bind_some]
      obtain ⟨x,hx1,hx2⟩:=readRun_prog (s:=p) (by omega)
      obtain ⟨y,hy1,hy2⟩:=readRun_ref (s:=p) (by omega)
      rw [hx1,hy1]
      simp only [Option.bind_some]
      cases hl:lineB (wordsOf p)
      · refine ⟨_,?_,rfl,by simp⟩
        cases ok <;> rfl
      · cases ok
        · exact ⟨_,rfl,rfl,Nat.zero_le _⟩
        · have hxy:x=y:=(hx2 hl).trans (hy2 hl).symm
          subst hxy
          have hrs:=hr rfl
          simp only [Bool.not_true,cond_false,Option.bind_some]
          rw [guard?_true (room_of (by omega)),guard?_true (room_of (by omega))]
          refine ih r.size (by omega) r rfl (by omega) k (out++[x]) (w64 (n+1)) (by omega) (by rw [List.length_append,List.length_singleton]; omega) fun z hz=>?_
          rcases List.mem_append.1 hz with hz | hz
          · exact ht z hz
          · have hz:z=x:=by simpa using hz
            rw [hz,hx2 hl]
            have:(lineR (wordsOf p)).Test.size≤p.size:=splitB_size _ _ p _ (line_test hl)
            omega
    · simp only [Bool.not_true,cond_false]
      unfold trials_Read.e1 smithyardref10_Read.e1
      rw [history_prog (by omega),history_ref (by omega) (fun x hx=>by have:=ht x hx; omega)]
      obtain ⟨f,hf⟩:=hisS_some out
      rw [hf]
      simp only [Option.bind_some]
      cases f != 0
      · exact ⟨_,rfl,rfl,by show out.length≤_; omega⟩
      · exact ⟨_,rfl,rfl,Nat.zero_le _⟩
theorem TrialsReadsMatchSpec_pure:TrialsReadsMatchSpec_Pure:=by
  intro s hs
  unfold smithyardlaw10_TrialsReadsMatchSpec.f trials_Read.f smithyardref10_Read.f
  rw [awake_eq]
  by_cases h:900000<(s.size:Int)
  · rw [decide_eq_true h]
    rfl
  · rw [decide_eq_false h]
    obtain ⟨r,h1,h2,h3⟩:=read_both s.size s rfl (by omega) big [] 1 (by show s.size<1180591620717411303424; omega) (by show 0+s.size≤900000; omega) (fun x hx=>by cases hx)
    simp only [cond_false]
    rw [h1,h2]
    simp only [Option.bind_some,BEq.rfl,cond_true]
    rw [slices_Equal_TestRun_self (by omega)]
    rfl
end Go.Proofs.YtikhlmaaokoehaaDoor
