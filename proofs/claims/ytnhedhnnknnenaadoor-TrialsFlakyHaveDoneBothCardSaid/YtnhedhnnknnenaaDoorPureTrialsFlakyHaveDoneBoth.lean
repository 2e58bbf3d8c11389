/- TrialsFlakyHaveDoneBoth over plain data: a flaky test has a key with which it passed and failed. -/
import Derived.Test.YtnhedhnnknnenaaDoorPFlk
import Derived.Test.YtnhedhnnknnenaaDoorPureSTrialsFlakyHaveDoneBoth
import Derived.KernelRfl
set_option linter.unusedVariables false
set_option linter.unusedSimpArgs false
namespace Go.Proofs.YtnhedhnnknnenaaDoor
open Go Go.Proofs.YtnhedhnnknnenaaDoor.Kit
theorem awake_eq:smithyardlaw10_awake.f=some true:=by kernel_rfl
def pairB (t:ByteArray) (x y:TestRun):Bool:=sEq x.Test t&&(sEq y.Test t&&(sEq x.Key y.Key&&!(x.Pass == y.Pass)))
def pairs (t:ByteArray):List TestRun→List TestRun→Bool
  | _,[]=>false
  | pre,x::l=>pre.any (pairB t x)||pairs t (pre++[x]) l
theorem pairs_old {t:ByteArray} {x y:TestRun} (h:pairB t x y=true):∀ (l pre:List TestRun),x∈l→y∈pre→pairs t pre l=true
  | [],pre,hx,_=>by cases hx
  | z::l,pre,hx,hy=>by
    rw [pairs,Bool.or_eq_true]
    rcases List.mem_cons.1 hx with rfl | hx
    · exact .inl (List.any_eq_true.2 ⟨y,hy,h⟩)
    · exact .inr (pairs_old h l (pre++[z]) hx (by simp [hy]))
theorem pairs_new {t:ByteArray} {x y:TestRun} (h:pairB t x y=true) (h2:pairB t y x=true) (hne:x≠y):∀ (l pre:List TestRun),x∈l→y∈l→pairs t pre l=true
  | [],pre,hx,_=>by cases hx
  | z::l,pre,hx,hy=>by
    rw [pairs,Bool.or_eq_true]
    rcases List.mem_cons.1 hx with ex | hx'
    · rcases List.mem_cons.1 hy with ey | hy'
      · exact absurd (ex.trans ey.symm) hne
      · exact .inr (pairs_old h2 l (pre++[z]) hy' (by simp [ex]))
    · rcases List.mem_cons.1 hy with ey | hy'
      · exact .inr (pairs_old h l (pre++[z]) hx' (by simp [ey]))
      · exact .inr (pairs_new h h2 hne l (pre++[z]) hx' hy')
theorem both_pairs {l:List TestRun} {t:ByteArray} (h:bothB l t):pairs t [] l=true:=by
  obtain ⟨key,h1,h2⟩:=h
  obtain ⟨x,hx,hc⟩:=List.any_eq_true.1 h1
  obtain ⟨y,hy,hd⟩:=List.any_eq_true.1 h2
  unfold cntB idOf at hc hd
  simp only [Bool.and_eq_true,decide_eq_true_eq,trials_id.mk.injEq,beq_iff_eq] at hc hd
  obtain ⟨⟨a1,a2⟩,a3⟩:=hc
  obtain ⟨⟨b1,b2⟩,b3⟩:=hd
  refine pairs_new ?_ ?_ (fun e=>?_) l [] hx hy
  · unfold pairB
    rw [sEq_iff.2 a1,sEq_iff.2 b1,sEq_iff.2 (a2.trans b2.symm),a3,b3]
    rfl
  · unfold pairB
    rw [sEq_iff.2 a1,sEq_iff.2 b1,sEq_iff.2 (b2.trans a2.symm),a3,b3]
    rfl
  · subst e
    rw [a3] at b3
    cases b3
theorem any_range {t:ByteArray} {x:TestRun} {E:Bool→Option Bool}:∀ (l:List TestRun) (i:Int) (s:Bool),
    rangeS (fun _ y (s:Bool) f=>(bif s then (some true) else (bif sEq x.Test t then (bif sEq y.Test t then (bif sEq x.Key y.Key then (some (!(x.Pass == y.Pass))) else (some false)) else (some false)) else (some false))).bind fun t2=>f t2) E i l s=E (s||l.any (pairB t x))
  | [],i,s=>by simp [rangeS]
  | y::l,i,s=>by
    have e:(bif s then (some true) else (bif sEq x.Test t then (bif sEq y.Test t then (bif sEq x.Key y.Key then (some (!(x.Pass == y.Pass))) else (some false)) else (some false)) else (some false)))=some (s||pairB t x y):=by
      unfold pairB
      cases s <;> cases sEq x.Test t <;> cases sEq y.Test t <;> cases sEq x.Key y.Key <;> rfl
    rw [rangeS,e]
    simp only [Option.bind_some]
    rw [any_range l (i+1),List.any_cons,Bool.or_assoc]
theorem pair_range {t:ByteArray} {a0:List TestRun} {E:Bool→Option Bool}:∀ (l pre:List TestRun) (s:Bool),a0=pre++l →
    rangeS (fun v x (s:Bool) f=>f (s||(a0.take v.toNat).any (pairB t x))) E (pre.length:Int) l s=E (s||pairs t pre l)
  | [],pre,s,_=>by simp [rangeS,pairs]
  | x::l,pre,s,h=>by
    have ih:=pair_range (t:=t) (a0:=a0) (E:=E) l (pre++[x]) (s||pre.any (pairB t x)) (by rw [h]; simp)
    rw [rangeS]
    have ht:a0.take ((pre.length:Int)).toNat=pre:=by rw [h]; simp
    rw [ht,show ((pre.length:Int)+1)=(((pre++[x]).length:Nat):Int) by simp,pairs,← Bool.or_assoc]
    exact ih
theorem TrialsFlakyHaveDoneBoth_pure:TrialsFlakyHaveDoneBoth_Pure:=by
  intro l ⟨hl,hx⟩
  simp only [reachBytes] at hl
  have hsz:∀ x∈l,x.Test.size≤4611686018427387904:=fun x h=>by
    have h1:x.Test.size≤reachBytes:=(hx x h).1
    simp only [reachBytes] at h1
    omega
  have hl2:l.length≤4611686018427387904:=by omega
  unfold smithyardlaw10_TrialsFlakyHaveDoneBoth.f
  rw [flaky_prog hl2 hsz]
  unfold flakyS
  obtain ⟨r,hr⟩:=hisS_some l
  rw [hr]
  simp only [Option.bind_some]
  by_cases h0:r=0
  · subst h0
    have h3:=his_short hr
    have hfl:=flS_len l
    simp only [bne_self_eq_false,cond_false,Option.bind_some]
    have inner:∀ (E:(List TestRun)→((List ByteArray) × Int)→Int→ByteArray→Int→Bool→Option Bool) (y1:List ByteArray × Int) (v27:Int) (t:ByteArray) (v33:Int) (x2:TestRun) (b:Bool),0≤v33→v33≤(l.length:Int) →
        smithyardlaw10_TrialsFlakyHaveDoneBoth.l6 E big l y1 v27 t v33 x2 b 0=E l y1 v27 t v33 (b||(l.take v33.toNat).any (pairB t x2)):=fun E y1 v27 t v33 x2 b g0 g1=>by
      have hlen:((l.take v33.toNat).length:Int)=(v33.toNat:Int):=by rw [List.length_take]; omega
      have:=rangeS_all (xs:=l.take v33.toNat) (S:=Bool) (L:=fun k s v=>smithyardlaw10_TrialsFlakyHaveDoneBoth.l6 E k l y1 v27 t v33 x2 s v)
        (body:=fun _ y (s:Bool) f=>(bif s then (some true) else (bif sEq x2.Test t then (bif sEq y.Test t then (bif sEq x2.Key y.Key then (some (!(x2.Pass == y.Pass))) else (some false)) else (some false)) else (some false))).bind fun t2=>f t2) (e:=fun s=>E l y1 v27 t v33 s)
        (by rw [List.length_take]; omega) (fun k s v=>by simp only [smithyardlaw10_TrialsFlakyHaveDoneBoth.l6,hlen]) b
      exact this.trans (any_range (l.take v33.toNat) 0 b)
    have outer:∀ (E:(List TestRun)→((List ByteArray) × Int)→Int→Bool→Option Bool) (y1:List ByteArray × Int) (v27:Int) (t:ByteArray),
        smithyardlaw10_TrialsFlakyHaveDoneBoth.l4 E big l y1 v27 t false 0=E l y1 v27 (pairs t [] l):=fun E y1 v27 t=>by
      have:=rangeS_all (xs:=l) (S:=Bool) (L:=fun k s v=>smithyardlaw10_TrialsFlakyHaveDoneBoth.l4 E k l y1 v27 t s v)
        (body:=fun v x (s:Bool) f=>f (s||(l.take v.toNat).any (pairB t x))) (e:=fun s=>E l y1 v27 s) hl2 (fun k s v=>by
          simp only [smithyardlaw10_TrialsFlakyHaveDoneBoth.l4]
          congr 1
          refine bind_at2 (fun x hat hx=>?_)
          obtain ⟨g0,g1,_⟩:=at?_some hat
          rw [guard?_true (by rw [decide_eq_true g0,decide_eq_true (by omega)]; rfl),inner _ y1 v27 t v x s g0 (by omega)]
          rfl) false
      exact this.trans (pair_range (t:=t) (a0:=l) (E:=fun s=>E l y1 v27 s) l [] false rfl)
    have all:=rangeS_all (xs:=flS l) (S:=Unit) (L:=fun k _ v=>smithyardlaw10_TrialsFlakyHaveDoneBoth.l2 smithyardlaw10_TrialsFlakyHaveDoneBoth.e1 k l (flS l,0) v)
      (body:=fun _ x (s:Unit) f=>f s) (e:=fun _=>smithyardlaw10_TrialsFlakyHaveDoneBoth.e1) (by omega) (fun k s v=>by
        simp only [smithyardlaw10_TrialsFlakyHaveDoneBoth.l2]
        congr 1
        refine bind_at (fun x hx=>?_)
        rw [outer,both_pairs ((flS_mem l x).1 hx)]
        rfl) ()
    have none:∀ (ys:List ByteArray) (i:Int),rangeS (fun _ (_:ByteArray) (s:Unit) f=>f s) (fun _=>smithyardlaw10_TrialsFlakyHaveDoneBoth.e1) i ys ()=smithyardlaw10_TrialsFlakyHaveDoneBoth.e1:=by
      intro ys
      induction ys with
      | nil=>intro i; rfl
      | cons y ys ih=>intro i; exact ih (i+1)
    refine (all.trans (none _ _)).trans ?_
    unfold smithyardlaw10_TrialsFlakyHaveDoneBoth.e1
    rw [awake_eq]
    rfl
  · have:(r != 0)=true:=by simpa using h0
    rw [this]
    simp only [cond_true,Option.bind_some,this]
    rw [awake_eq]
    rfl
end Go.Proofs.YtnhedhnnknnenaaDoor
