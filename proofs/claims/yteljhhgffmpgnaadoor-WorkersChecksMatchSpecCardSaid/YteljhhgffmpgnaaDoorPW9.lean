/- Words, properties, spans and workers as the program and the reference check them: the same. -/
import Derived.Test.YteljhhgffmpgnaaDoorPO
set_option linter.unusedVariables false
set_option linter.unusedSimpArgs false
namespace Go.Proofs.YteljhhgffmpgnaaDoor
open Go Go.Proofs.YteljhhgffmpgnaaDoor.Kit
theorem awake_true:smithyardlaw9_awake.f=some true:=by kernel_rfl
theorem isWord_prog (s:ByteArray) (h:s.size≤4611686018427387904):config_IsWord.f s=some (isWordB s):=by
  unfold config_IsWord.f isWordB
  by_cases h1:s.size<1
  · have e1:decide ((s.size:Int)<1)=true:=decide_eq_true (by omega)
    have e2:decide (1≤s.size)=false:=decide_eq_false (by omega)
    simp [e1,e2]
  have e1:decide ((s.size:Int)<1)=false:=decide_eq_false (by omega)
  have e1':decide (1≤s.size)=true:=decide_eq_true (by omega)
  by_cases h2:40<s.size
  · have e2:decide (40<(s.size:Int))=true:=decide_eq_true (by omega)
    have e3:decide (s.size≤40)=false:=decide_eq_false (by omega)
    simp [e1,e1',e2,e3]
  have e2:decide (40<(s.size:Int))=false:=decide_eq_false (by omega)
  have e2':decide (s.size≤40)=true:=decide_eq_true (by omega)
  have e3:(decide ((0:Int)≤0)&&decide (0<(s.size:Int)))=true:=by rw [decide_eq_true (show (0:Int)<(s.size:Int) by omega)]; rfl
  obtain ⟨b,l,hl⟩:∃ b l,s.data.toList=b::l:=by
    cases hd:s.data.toList with
    | nil =>
      have:s.size=0:=by
        have:=congrArg List.length hd
        simpa using this
      omega
    | cons b l=>exact ⟨b,l,rfl⟩
  have hb:bt s 0=(b.toNat:Int):=bt_of (i:=0) (by rw [hl]; rfl)
  rw [e1,e1',e2,e2',hl,hb]
  simp only [e3,guard?,cond_true,cond_false,Bool.true_and]
  by_cases h3:b.toNat<97
  · have a1:decide ((b.toNat:Int)<97)=true:=decide_eq_true (by omega)
    have a2:decide (97≤b.toNat)=false:=decide_eq_false (by omega)
    simp [a1,a2]
  have a1:decide ((b.toNat:Int)<97)=false:=decide_eq_false (by omega)
  have a1':decide (97≤b.toNat)=true:=decide_eq_true (by omega)
  by_cases h4:122<b.toNat
  · have a2:decide (122<(b.toNat:Int))=true:=decide_eq_true (by omega)
    have a3:decide (b.toNat≤122)=false:=decide_eq_false (by omega)
    simp [a1,a1',a2,a3]
  have a2:decide (122<(b.toNat:Int))=false:=decide_eq_false (by omega)
  have a2':decide (b.toNat≤122)=true:=decide_eq_true (by omega)
  rw [a1,a1',a2,a2']
  simp only [cond_false,Option.bind_some,Bool.true_and,strings_Trim.f]
  have g1:decide (s.size≤9223372036854775807)=true:=decide_eq_true (by omega)
  have g2:decide (((⟨#[97,98,99,100,101,102,103,104,105,106,107,108,109,110,111,112,113,114,115,116,117,118,119,120,121,122,48,49,50,51,52,53,54,55,56,57,95,45]⟩:ByteArray)).size<4294967281)=true:=by kernel_rfl
  have g3:((⟨#[97,98,99,100,101,102,103,104,105,106,107,108,109,110,111,112,113,114,115,116,117,118,119,120,121,122,48,49,50,51,52,53,54,55,56,57,95,45]⟩:ByteArray).data.toList.all (fun b=>decide (b.toNat<128)))=true:=by kernel_rfl
  rw [g1,g2,g3]
  simp only [Bool.and_self,guard?,cond_true,Option.bind_some,Option.some.injEq]
  have hs:∀ (x:List UInt8),sEq ⟨x.toArray⟩ ⟨#[]⟩=(x == []):=by
    intro x
    unfold sEq
    simp [ByteArray.toList_eq]
  rw [hs,trimS_nil,hl]
  congr 1
  funext c
  have hdec:∀ c:UInt8,([97,98,99,100,101,102,103,104,105,106,107,108,109,110,111,112,113,114,115,116,117,118,119,120,121,122,48,49,50,51,52,53,54,55,56,57,95,45]:List UInt8).contains c=okB c:=fun c=>by
    have:=u8_all (p:=fun c=>([97,98,99,100,101,102,103,104,105,106,107,108,109,110,111,112,113,114,115,116,117,118,119,120,121,122,48,49,50,51,52,53,54,55,56,57,95,45]:List UInt8).contains c == okB c) (by kernel_rfl) c
    simpa using this
  exact hdec c
theorem isWord_ref_loop (s:ByteArray) (h:s.size≤4611686018427387904):∀ (d k:Nat) (v:Int),0≤v→v≤s.size→(s.size:Int) - v=d→d<k→smithyardref9_isWord.l2 smithyardref9_isWord.e1 k s v=some ((s.data.toList.drop v.toNat).all okB):=by
  intro d
  induction d with
  | zero =>
    intro k v h0 h1 hd hk
    obtain ⟨k,rfl⟩:∃ m,k=m+1:=⟨k - 1,by omega⟩
    have e:decide (v<(s.size:Int))=false:=decide_eq_false (by omega)
    have hn:s.data.toList.drop v.toNat=[]:=List.drop_eq_nil_of_le (by simp; show s.size≤_; omega)
    rw [smithyardref9_isWord.l2,e,hn]
    rfl
  | succ d ih =>
    intro k v h0 h1 hd hk
    obtain ⟨k,rfl⟩:∃ m,k=m+1:=⟨k - 1,by omega⟩
    have e:decide (v<(s.size:Int))=true:=decide_eq_true (by omega)
    have e0:decide ((0:Int)≤v)=true:=decide_eq_true (by omega)
    have hn:v.toNat<s.data.toList.length:=by simp; show _<s.size; omega
    have hb:bt s v=((s.data.toList[v.toNat]).toNat:Int):=by
      have:=bt_of (s:=s) (i:=v.toNat) (List.getElem?_eq_getElem hn)
      rwa [Int.toNat_of_nonneg h0] at this
    have hw:w64 (v+1)=v+1:=w64_id (by omega) (by omega)
    rw [smithyardref9_isWord.l2,e,e0,hb,hw,ih k (v+1) (by omega) (by omega) (by omega) (by omega),List.drop_eq_getElem_cons hn,show (v+1).toNat=v.toNat+1 by omega]
    simp only [Bool.and_self,guard?,cond_true,List.all_cons]
    generalize s.data.toList[v.toNat]=c
    generalize List.all _ _=r
    have key:∀ c:UInt8,(bif decide ((c.toNat:Int)<97) then (bif decide ((c.toNat:Int)<48) then (bif (c.toNat:Int) != 45 then (some ((c.toNat:Int) != 95)) else (some false)) else (bif decide (57<(c.toNat:Int)) then (bif (c.toNat:Int) != 45 then (some ((c.toNat:Int) != 95)) else (some false)) else (some false))) else (bif decide (122<(c.toNat:Int)) then (bif decide ((c.toNat:Int)<48) then (bif (c.toNat:Int) != 45 then (some ((c.toNat:Int) != 95)) else (some false)) else (bif decide (57<(c.toNat:Int)) then (bif (c.toNat:Int) != 45 then (some ((c.toNat:Int) != 95)) else (some false)) else (some false))) else (some false)))=some (!okB c):=fun c=>of_decide_eq_true (u8_all (p:=fun c=>decide ((bif decide ((c.toNat:Int)<97) then (bif decide ((c.toNat:Int)<48) then (bif (c.toNat:Int) != 45 then (some ((c.toNat:Int) != 95)) else (some false)) else (bif decide (57<(c.toNat:Int)) then (bif (c.toNat:Int) != 45 then (some ((c.toNat:Int) != 95)) else (some false)) else (some false))) else (bif decide (122<(c.toNat:Int)) then (bif decide ((c.toNat:Int)<48) then (bif (c.toNat:Int) != 45 then (some ((c.toNat:Int) != 95)) else (some false)) else (bif decide (57<(c.toNat:Int)) then (bif (c.toNat:Int) != 45 then (some ((c.toNat:Int) != 95)) else (some false)) else (some false))) else (some false)))=some (!okB c))) (by kernel_rfl) c)
    rw [key]
    cases okB c <;> simp
theorem within_eq (a b c:Int):workers_within.f a b c=some (decide (b≤a)&&decide (a≤c)):=by
  unfold workers_within.f
  cases decide (b≤a) <;> rfl
theorem withinR_eq (a b c:Int):smithyardref9_within.f a b c=some (decide (b≤a)&&decide (a≤c)):=by
  unfold smithyardref9_within.f
  cases decide (b≤a) <;> rfl
theorem isWord_ref (s:ByteArray) (h:s.size≤4611686018427387904):smithyardref9_isWord.f s=some (isWordB s):=by
  unfold smithyardref9_isWord.f isWordB
  rw [withinR_eq]
  by_cases h1:1≤s.size
  · by_cases h2:s.size≤40
    · have e1:decide ((1:Int)≤(s.size:Int))=true:=decide_eq_true (by omega)
      have e2:decide ((s.size:Int)≤40)=true:=decide_eq_true (by omega)
      have e3:decide (0<(s.size:Int))=true:=decide_eq_true (by omega)
      obtain ⟨b,l,hl⟩:∃ b l,s.data.toList=b::l:=by
        cases hd:s.data.toList with
        | nil =>
          have:s.size=0:=by
            have:=congrArg List.length hd
            simpa using this
          omega
        | cons b l=>exact ⟨b,l,rfl⟩
      have hb:bt s 0=(b.toNat:Int):=bt_of (i:=0) (by rw [hl]; rfl)
      have hloop:=isWord_ref_loop s h s.size big 0 (by omega) (by omega) (by omega) (by unfold big; omega)
      rw [hloop,e1,e2,e3,hb]
      simp only [h1,h2,decide_true,Bool.true_and,Bool.and_true,Option.bind_some,Bool.not_true,cond_false,guard?,Int.le_refl,cond_true,Int.toNat_zero,List.drop_zero,hl]
      by_cases h3:b.toNat<97
      · have a1:decide ((b.toNat:Int)<97)=true:=decide_eq_true (by omega)
        have a2:decide (97≤b.toNat)=false:=decide_eq_false (by omega)
        simp [a1,a2]
      have a1:decide ((b.toNat:Int)<97)=false:=decide_eq_false (by omega)
      have a1':decide (97≤b.toNat)=true:=decide_eq_true (by omega)
      by_cases h4:122<b.toNat
      · have a2:decide (122<(b.toNat:Int))=true:=decide_eq_true (by omega)
        have a3:decide (b.toNat≤122)=false:=decide_eq_false (by omega)
        simp [a1,a1',a2,a3]
      · have a2:decide (122<(b.toNat:Int))=false:=decide_eq_false (by omega)
        have a2':decide (b.toNat≤122)=true:=decide_eq_true (by omega)
        simp [a1,a1',a2,a2']
    · have e2:decide ((s.size:Int)≤40)=false:=decide_eq_false (by omega)
      have e2':decide (s.size≤40)=false:=decide_eq_false (by omega)
      simp [e2,e2']
  · have e1:decide ((1:Int)≤(s.size:Int))=false:=decide_eq_false (by omega)
    have e1':decide (1≤s.size)=false:=decide_eq_false (by omega)
    simp [e1,e1']
def pairsB (p:Option Pair) (x:Pair) (k:Option Int):Option Int :=
  bif !isWordB x.Name then some 5 else bif !isWordB x.Value then some 1 else bif prevB (fun y=>sLt x.Name y.Name||sEq x.Name y.Name) p then some 8 else k
def pairsS (l:List Pair):Option Int:=bif decide (30<(l.length:Int)) then some 2 else rangeP pairsB (some 0) none l
def smallPairs (l:List Pair):Prop:=l.length≤4611686018427387904∧∀ x∈l,x.Name.size≤4611686018427387904∧x.Value.size≤4611686018427387904
theorem pairs_prog {l:List Pair} (h:smallPairs l):config_CheckPairs.f l=pairsS l:=by
  unfold config_CheckPairs.f pairsS
  congr 1
  refine rangeP_all (L:=fun k v=>config_CheckPairs.l2 config_CheckPairs.e1 k l v) h.1 (fun k v h0 h1=>?_)
  simp only [config_CheckPairs.l2]
  congr 1
  refine bind_at (fun x hx=>?_)
  rw [isWord_prog _ (h.2 x hx).1,isWord_prog _ (h.2 x hx).2,prev_eq (P:=fun y=>sLt x.Name y.Name||sEq x.Name y.Name) h0 h1 h.1]
  simp only [Option.bind_some]
  rfl
theorem pairs_ref {l:List Pair} (h:smallPairs l):smithyardref9_checkPairs.f l=pairsS l:=by
  unfold smithyardref9_checkPairs.f pairsS
  congr 1
  refine rangeP_all (L:=fun k v=>smithyardref9_checkPairs.l2 smithyardref9_checkPairs.e1 k l v) h.1 (fun k v h0 h1=>?_)
  simp only [smithyardref9_checkPairs.l2]
  congr 1
  refine bind_at (fun x hx=>?_)
  rw [isWord_ref _ (h.2 x hx).1,isWord_ref _ (h.2 x hx).2,prev_eq (P:=fun y=>sLt x.Name y.Name||sEq x.Name y.Name) h0 h1 h.1]
  simp only [Option.bind_some]
  rfl
def standsB (p:Option Span) (x:Span) (k:Option Int):Option Int :=
  bif !inR 0 1000000000 x.From||!inR 0 1000000000 x.To then some 1 else bif decide (x.To≤x.From)||prevB (fun y=>decide (x.From<y.To)) p then some 8 else k
def standsS (l:List Span):Option Int:=bif decide (20<(l.length:Int)) then some 2 else rangeP standsB (some 0) none l
theorem stands_prog {l:List Span} (h:l.length≤4611686018427387904):workers_checkStands.f l=standsS l:=by
  unfold workers_checkStands.f standsS
  congr 1
  refine rangeP_all (L:=fun k v=>workers_checkStands.l2 workers_checkStands.e1 k l v) h (fun k v h0 h1=>?_)
  simp only [workers_checkStands.l2]
  congr 1
  refine bind_at (fun x hx=>?_)
  rw [prev_eq (P:=fun y=>decide (x.From<y.To)) h0 h1 h]
  unfold standsB workers_isMoment.f
  simp only [within_eq,Option.bind_some]
  cases ha:decide (0≤x.From)&&decide (x.From≤1000000000) <;> cases hb:decide (0≤x.To)&&decide (x.To≤1000000000) <;> cases hc:decide (x.To≤x.From) <;> simp [inR,ha,hb,hc]
theorem stands_ref {l:List Span} (h:l.length≤4611686018427387904):smithyardref9_checkStands.f l=standsS l:=by
  unfold smithyardref9_checkStands.f standsS
  congr 1
  refine rangeP_all (L:=fun k v=>smithyardref9_checkStands.l2 smithyardref9_checkStands.e1 k l v) h (fun k v h0 h1=>?_)
  simp only [smithyardref9_checkStands.l2]
  congr 1
  refine bind_at (fun x hx=>?_)
  rw [prev_eq (P:=fun y=>decide (x.From<y.To)) h0 h1 h]
  unfold standsB
  simp only [withinR_eq,Option.bind_some]
  cases ha:decide (0≤x.From)&&decide (x.From≤1000000000) <;> cases hb:decide (0≤x.To)&&decide (x.To≤1000000000) <;> cases hc:decide (x.To≤x.From) <;> simp [inR,ha,hb,hc]
def workerS (w:Worker):Option Int :=
  bif !isWordB w.Name then some 5 else (pairsS w.Has).bind fun f=>bif f != 0 then some f else
  bif !inR 1 20 w.Slots||!inR 1 1000 w.Speed||!inR 0 1000000000 w.From||!inR 0 1000000000 w.To then some 1 else bif decide (w.To≤w.From) then some 8 else standsS w.Stands
def smallWorker (w:Worker):Prop:=w.Name.size≤4611686018427387904∧smallPairs w.Has∧w.Stands.length≤4611686018427387904
theorem worker_prog {w:Worker} (h:smallWorker w):workers_checkWorker.f w=workerS w:=by
  unfold workers_checkWorker.f workerS workers_isMoment.f
  simp only [isWord_prog _ h.1,pairs_prog h.2.1,stands_prog h.2.2,within_eq,Option.bind_some]
  cases isWordB w.Name
  · rfl
  · simp only [Bool.not_true,cond_false]
    congr 1
    funext f
    cases f != 0
    · simp only [cond_false]
      cases ha:inR 1 20 w.Slots <;> cases hb:inR 1 1000 w.Speed <;> cases hc:inR 0 1000000000 w.From <;> cases hd:inR 0 1000000000 w.To <;> (unfold inR at ha hb hc hd; simp [ha,hb,hc,hd])
    · rfl
theorem worker_ref {w:Worker} (h:smallWorker w):smithyardref9_checkWorker.f w=workerS w:=by
  unfold smithyardref9_checkWorker.f workerS
  simp only [isWord_ref _ h.1,pairs_ref h.2.1,stands_ref h.2.2,withinR_eq,Option.bind_some]
  cases isWordB w.Name
  · rfl
  · simp only [Bool.not_true,cond_false]
    congr 1
    funext f
    cases f != 0
    · simp only [cond_false]
      cases ha:inR 1 20 w.Slots <;> cases hb:inR 1 1000 w.Speed <;> cases hc:inR 0 1000000000 w.From <;> cases hd:inR 0 1000000000 w.To <;> (unfold inR at ha hb hc hd; simp [ha,hb,hc,hd])
    · rfl
theorem pairsS_some (l:List Pair):∃ r,pairsS l=some r:=by
  unfold pairsS
  cases decide (30<(l.length:Int))
  · refine rangeP_some (fun p x k hk=>?_) ⟨_,rfl⟩ l none
    unfold pairsB
    cases isWordB x.Name <;> cases isWordB x.Value <;> cases prevB (fun y=>sLt x.Name y.Name||sEq x.Name y.Name) p <;> first | exact hk | exact ⟨_,rfl⟩
  · exact ⟨_,rfl⟩
theorem standsS_some (l:List Span):∃ r,standsS l=some r:=by
  unfold standsS
  cases decide (20<(l.length:Int))
  · refine rangeP_some (fun p x k hk=>?_) ⟨_,rfl⟩ l none
    unfold standsB
    cases (!inR 0 1000000000 x.From||!inR 0 1000000000 x.To)
    · cases (decide (x.To≤x.From)||prevB (fun y=>decide (x.From<y.To)) p)
      · exact hk
      · exact ⟨_,rfl⟩
    · exact ⟨_,rfl⟩
  · exact ⟨_,rfl⟩
theorem workerS_some (w:Worker):∃ r,workerS w=some r:=by
  unfold workerS
  obtain ⟨r,hr⟩:=pairsS_some w.Has
  obtain ⟨q,hq⟩:=standsS_some w.Stands
  rw [hr,hq]
  cases isWordB w.Name
  · exact ⟨_,rfl⟩
  · simp only [Bool.not_true,cond_false,Option.bind_some]
    cases r != 0 <;> cases (!inR 1 20 w.Slots||!inR 1 1000 w.Speed||!inR 0 1000000000 w.From||!inR 0 1000000000 w.To) <;> cases decide (w.To≤w.From) <;> simp
end Go.Proofs.YteljhhgffmpgnaaDoor
