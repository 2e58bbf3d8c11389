/- Words of our own: regions whose order is open; maps; slices that are made. -/
import Derived.Test.YtedkdnhhohcocaaDoorKitO
set_option linter.unusedSimpArgs false
set_option linter.unusedVariables false
set_option linter.unnecessarySimpa false
namespace Go.Proofs.YtedkdnhhohcocaaDoor.Kit
open Go Go.RowKit

/-! ### 35. Regions whose order is open -/
section
variable {P:Program} {ops:Array Oper} {Q:Exit→Act→World→Prop} {md:Region.Mode} {S:Nat→World→World→Prop}
def wpAnyB (P:Program) (md:Region.Mode) (ops:Array Oper) (Q:Exit→Act→World→Prop) (S:Nat→World→World→Prop):Nat→Array Bool→Act→World→Prop
  | 0,listed,a,w=>Region.ready md ops listed=[]∧Q .normal a w
  | fuel+1,listed,a,w =>
    (Region.ready md ops listed=[]→Q .normal a w) ∧
    ∀ i∈Region.ready md ops listed,wpOp P ops Q i (fun a' w'=>S i w w'∧wpAnyB P md ops Q S fuel (listed.setIfInBounds i true) a' w') a w
theorem wpAny_of_B:∀ (fuel:Nat) (listed:Array Bool) (a:Act) (w:World),wpAnyB P md ops Q S fuel listed a w→wpAny P md ops Q fuel listed a w
  | 0,_,_,_,h=>h
  | fuel+1,_,_,_,h=>⟨h.1,fun i hi=>wpOp_mono (fun a' w' h'=>wpAny_of_B fuel _ a' w' h'.2) (h.2 i hi)⟩
theorem wpAnyB_first {i:Nat} {oi:Oper} {v:Value} {S':World→Prop} (hi:ops[i]? = some oi) (hsel:∀ (j:Nat) (o:Oper) cs b,ops[j]? = some o→o.op≠.select cs b)
    (hQ:∀ c a w,Q (.panic c) (a.put oi.dst v) w→Q (.panic c) a w) (hs:∀ w,S' w→S i w w) :
    ∀ (fuel:Nat) (listed:Array Bool) (a:Act) (w:World),
      (∀ j oj,ops[j]? = some oj→j≠i→listed.getD j true=false→(∀ e∈oj.after,Region.binds md e=true→e.on≠i)→oi.apart ops oj=true) →
      (∀ j oj,ops[j]? = some oj→j≠i→listed.getD j true=false→(∀ e∈oj.after,Region.binds md e=true→e.on≠i)→∀ w w',S' w→S j w w'→S' w') →
      i∈Region.ready md ops listed→YieldsIf P ops S' oi v a→S' w →
      wpAnyB P md ops Q S fuel (listed.setIfInBounds i true) (a.put oi.dst v) w→wpAnyB P md ops Q S (fuel+1) listed a w:=by
  intro fuel
  induction fuel with
  | zero =>
    intro listed a w _ _ hr hy hS H
    refine ⟨fun h=>(by rw [h] at hr; cases hr),fun j hj=>?_⟩
    by_cases hji:j=i
    · subst hji; exact hy.wpOp hi hS ⟨hs w hS,H⟩
    · have:=ready_mono hj hji
      rw [H.1] at this
      cases this
  | succ fuel ih =>
    intro listed a w hfree hbrk hr hy hS H
    refine ⟨fun h=>(by rw [h] at hr; cases hr),fun j hj=>?_⟩
    by_cases hji:j=i
    · subst hji; exact hy.wpOp hi hS ⟨hs w hS,H⟩
    · have h1:=H.2 j (ready_mono hj hji)
      obtain ⟨hjun,oj,hoj,hall⟩:=mem_ready.1 hj
      have hnot:∀ e∈oj.after,Region.binds md e=true→e.on≠i:=fun e he hb heq=>by
        have h1:=hall e he hb
        have h0:=(mem_ready.1 hr).1
        rw [heq] at h1
        rcases Nat.lt_or_ge i listed.size with h' | h'
        · simp [h'] at h0 h1; rw [h0] at h1; cases h1
        · simp [Array.getElem?_eq_none h'] at h1
      have h2:=wpOp_putIf hoj (hfree j oj hoj hji hjun hnot) (fun cs b=>hsel i oi cs b hi) (fun cs b=>hsel j oj cs b hoj) hQ hy h1
      have back:∀ k,(listed.setIfInBounds j true).getD k true=false→listed.getD k true=false:=fun k hun=>by
        by_cases hjk:j=k
        · subst hjk; exact hjun
        · rw [getD_set_ne true hjk] at hun; exact hun
      refine wpOp_mono (fun a' w' h3=>⟨h3.2.1,ih (listed.setIfInBounds j true) a' w' (fun k ok hk hki hun hno=>hfree k ok hk hki (back k hun) hno) (fun k ok hk hki hun hno=>hbrk k ok hk hki (back k hun) hno) (ready_mono hr (Ne.symm hji)) h3.1 (hbrk j oj hoj hji hjun hnot w w' hS h3.2.1) ?_⟩) h2
      rw [Array.setIfInBounds_comm _ _ hji]
      exact h3.2.2
end
def Sx (T T2:World→Prop) (bs:List Nat) (j:Nat) (w w':World):Prop:=(bs.getD j 0=0→T w')∧(bs.getD j 0≤1→T2 w')∧(bs.getD j 0=3→w'=w)
def brkOk (ops:Array Oper) (bs:List Nat) (lev:Nat) (ls:List Bool) (i:Nat):Bool :=
  (List.range ops.size).all fun j=>Nat.blt (bs.getD j 0) lev||Nat.beq (bs.getD j 0) 3||ls.getD j true||Nat.beq j i||(match ops[j]? with | some o=>o.after.toList.any (fun e=>Region.binds .any e&&Nat.beq e.on i) | none=>true)
theorem brkOk_spec {ops:Array Oper} {bs:List Nat} {lev:Nat} {ls:List Bool} {i j:Nat} {oj:Oper} (h:brkOk ops bs lev ls i=true) (hj:ops[j]? = some oj) (hji:j≠i) (hun:ls.getD j true=false) (hno:∀ e∈oj.after,Region.binds .any e=true→e.on≠i):bs.getD j 0<lev∨bs.getD j 0=3:=by
  unfold brkOk at h
  rw [List.all_eq_true] at h
  have hlt:=(Array.getElem?_eq_some_iff.1 hj).1
  have:=h j (List.mem_range.2 hlt)
  simp only [hj,Bool.or_eq_true,Nat.blt_eq,Nat.beq_eq_true_eq,List.any_eq_true,Bool.and_eq_true] at this
  rcases this with (((h | h) | h) | h) | ⟨e,he,h1,h2⟩
  · exact .inl h
  · exact .inr (Nat.eq_of_beq_eq_true h)
  · exfalso
    rw [hun] at h
    cases h
  · exact absurd (Nat.eq_of_beq_eq_true h) hji
  · exact absurd (Nat.eq_of_beq_eq_true h2) (hno e (by simpa using he) h1)
def selT (T T2:World→Prop):Bool→World→Prop
  | true=>fun w=>T w∧T2 w
  | false=>T2
def runD (P:Program) (N:Nat) (ops:Array Oper) (bs:List Nat) (b:Bool):List Nat→List Bool→Slots→List Value→Option (List Bool × Slots × List Ev)
  | [],ls,L,_=>some (ls,L,[])
  | i::r,ls,L,vs =>
    match (Region.ready .any ops ls.toArray).contains i&&Region.free .any ops ls.toArray i&&(match b with | true=>brkOk ops bs 1 ls i | false=>!(Nat.beq (bs.getD i 0) 0)&&brkOk ops bs 2 ls i) with
    | false=>none
    | true =>
      match ops[i]? with
      | none=>none
      | some o =>
        match okOp N L o with
        | false =>
          match wantL ops L o.guard with
          | some false=>match o.dst with
            | some d=>match Nat.blt d N with
              | true=>runD P N ops bs b r (ls.set i true) (putL L o.dst undef) vs
              | false=>none
            | none=>runD P N ops bs b r (ls.set i true) L vs
          | _=>none
        | true =>
          match wantL ops L o.guard with
          | none=>none
          | some false=>runD P N ops bs b r (ls.set i true) (putL L o.dst undef) vs
          | some true =>
            match stepT P L o vs with
            | none=>none
            | some (v,vs',es) =>
              match runD P N ops bs b r (ls.set i true) (putL L o.dst v) vs' with
              | none=>none
              | some (ls',L',fs)=>some (ls',L',es++fs)
theorem runD_spec {P:Program} {N:Nat} {ops:Array Oper} {Q:Exit→Act→World→Prop} {T T2:World→Prop} {bs:List Nat} {b:Bool} {w:World} {m:Nat} (hsel:Region.noSelect ops=true) (hQ:∀ c a a' w,Q (.panic c) a w→Q (.panic c) a' w) (hT:selT T T2 b w) :
    ∀ (order:List Nat) {ls ls':List Bool} {L L':Slots} {vs:List Value} {evs:List Ev},runD P N ops bs b order ls L vs=some (ls',L',evs)→(∀ w,selT T T2 b w→Hold w evs) →
    (∀ a,Fr N a L'→wpAnyB P .any ops Q (Sx T T2 bs) m ls'.toArray a w)→∀ a,Fr N a L→wpAnyB P .any ops Q (Sx T T2 bs) (order.length+m) ls.toArray a w
  | [],ls,ls',L,L',vs,evs,h,hold,K,a,hf=>by
    simp only [runD] at h
    injection h with h
    injection h with h1 h2
    injection h2 with h2 h3
    subst h1 h2
    simpa using K a hf
  | i::r,ls,ls',L,L',vs,evs,h,hold,K,a,hf=>by
    have e1:(i::r).length+m=(r.length+m)+1:=by simp; omega
    have e2:ls.toArray.setIfInBounds i true=(ls.set i true).toArray:=by simp
    rw [e1]
    simp only [runD] at h
    split at h
    · simp at h
    · rename_i hrf
      rw [Bool.and_eq_true,Bool.and_eq_true] at hrf
      obtain ⟨⟨hr,hfree⟩,hbo⟩:=hrf
      split at h
      · simp at h
      · rename_i o ho
        have take:∀ v,YieldsIf P ops (selT T T2 b) o v a→(wpAnyB P .any ops Q (Sx T T2 bs) (r.length+m) (ls.set i true).toArray (a.put o.dst v) w)→wpAnyB P .any ops Q (Sx T T2 bs) (r.length+m+1) ls.toArray a w:=by
          intro v hy hk
          refine wpAnyB_first (S':=selT T T2 b) ho (Region.noSelect_spec hsel) (fun c a w h=>hQ c _ _ w h) ?_ _ _ _ _ (Region.free_spec ho hfree) ?_ (by simpa using hr) hy hT (by rw [e2]; exact hk)
          · intro w hw
            cases b with
            | true=>exact ⟨fun _=>hw.1,fun _=>hw.2,fun _=>rfl⟩
            | false =>
              have hbo:(!(Nat.beq (bs.getD i 0) 0)&&brkOk ops bs 2 ls i)=true:=hbo
              rw [Bool.and_eq_true] at hbo
              refine ⟨fun h0=>?_,fun _=>hw,fun _=>rfl⟩
              rw [h0] at hbo
              cases hbo.1
          · intro j oj hj hji hun hno wb w' hb hw'
            have hun':ls.getD j true=false:=by simpa using hun
            cases b with
            | false =>
              have hbo:(!(Nat.beq (bs.getD i 0) 0)&&brkOk ops bs 2 ls i)=true:=hbo
              rw [Bool.and_eq_true] at hbo
              rcases brkOk_spec hbo.2 hj hji hun' hno with h | h
              · exact hw'.2.1 (by omega)
              · rw [hw'.2.2 h]
                exact hb
            | true =>
              rcases brkOk_spec (show brkOk ops bs 1 ls i=true from hbo) hj hji hun' hno with h | h
              · exact ⟨hw'.1 (by omega),hw'.2.1 (by omega)⟩
              · rw [hw'.2.2 h]
                exact hb
        split at h
        · split at h
          · rename_i hw
            have hw:=wantL_spec hw hf
            refine take undef (.inr ⟨hw,rfl⟩) ?_
            split at h
            · rename_i d hd
              split at h
              · rename_i hlt
                refine runD_spec hsel hQ hT r h hold K _ ?_
                refine hf.put ?_ undef
                intro t ht
                rw [hd] at ht
                injection ht with ht
                subst ht
                simpa using hlt
              · simp at h
            · rename_i hd
              rw [hd]
              exact runD_spec hsel hQ hT r h hold K _ hf
          · simp at h
        · rename_i hok
          obtain ⟨hx,hd⟩:=okOp_spec hok hf
          split at h
          · simp at h
          · rename_i hw
            exact take undef (.inr ⟨wantL_spec hw hf,rfl⟩) (runD_spec hsel hQ hT r h hold K _ (hf.put hd undef))
          · rename_i hw
            split at h
            · simp at h
            · rename_i v vs' es1 hst
              split at h
              · simp at h
              · rename_i ls2 L2 fs hrec
                injection h with h
                injection h with h1 h2
                injection h2 with h2 h3
                subst h1 h2 h3
                refine take v (.inl ⟨wantL_spec hw hf,fun w hw=>by rw [hx]; exact stepT_run hst (Hold.append (hold w hw)).1⟩) ?_
                exact runD_spec hsel hQ hT r hrec (fun w hw=>(Hold.append (hold w hw)).2) K _ (hf.put hd v)
def DrH (F:Ctx) (S:Value→Hp→List Ch→Prop) (H0:Hp) (w0:World) (p:List Nat) (es:List En) (T T2:World→Prop) (bs:List Nat) (n:Nat) (ls:List Bool) (L:Slots) (H:Hp) (cs:List Ch):Prop :=
  Hs H0 w0 (fun w=>∀ a,Fr F.N a L→wpAnyB F.P .any (opsAt F.c p) (fun e a w=>e=.normal∧Run F.P F.f (PostH S H0 w0) (es.map (En.item F.c)) a w) (Sx T T2 bs) n ls.toArray a w) H cs
section
variable {F:Ctx} {S:Value→Hp→List Ch→Prop} {H0 H:Hp} {w0:World} {es es':List En} {L L':Slots} {cs cs':List Ch} {p:List Nat} {i j n m:Nat} {K:Slots→Hp→List Ch→Prop} {T T2:World→Prop} {bs:List Nat} {ls ls':List Bool}
theorem RunH.draw (T T2:World→Prop) (bs:List Nat) (h:isReg F.c p=some true) (hm:F.P.follows .mixedOrders=true) (hn:Nat.beq (opsAt F.c p).size n=true) (hls:List.replicate n false=ls)
    (k:DrH F S H0 w0 p es T T2 bs n ls L H cs):RunH F S H0 w0 (.c p::es) L H cs:=by
  intro hl w hh a hf
  have hn:=Nat.eq_of_beq_eq_true hn
  have k:=k hl _ hh.drawn a hf
  unfold isReg at h
  split at h
  · rename_i id ops d hnav
    injection h with h
    subst h
    simp only [opsAt,hnav] at k hn
    simp only [List.map_cons,En.item,hnav]
    refine Run.of_wp (wp_region_any hm (wpAny_of_B (S:=Sx T T2 bs) _ _ _ _ ?_))
    rw [hn]
    have e:Array.replicate n false=ls.toArray:=by rw [← hls]; simp
    rw [e]
    exact k
  · simp at h
theorem DrH.run (order:List Nat) {vs:List Value} {evs:List Ev} (hsel:Region.noSelect (opsAt F.c p)=true) (hT:∀ w,Heap H w0 w cs→T w) (hT2:∀ w,T w→T2 w) (h:runD F.P F.N (opsAt F.c p) bs true order ls L vs=some (ls',L',evs)) (hold:∀ w,T w→Hold w evs)
    (hnm:Nat.beq (order.length+m) n=true) (k:DrH F S H0 w0 p es T T2 bs m ls' L' H cs):DrH F S H0 w0 p es T T2 bs n ls L H cs:=by
  intro hl w hh a hf
  have hnm:=Nat.eq_of_beq_eq_true hnm
  subst hnm
  exact runD_spec (b:=true) hsel (fun c a a' w h=>absurd h.1 (by simp)) ⟨hT w hh,hT2 w (hT w hh)⟩ order h (fun w hw=>hold w hw.1) (fun a ha=>k hl w hh a ha) a hf
theorem DrH.does (i:Nat) (hr:Region.ready .any (opsAt F.c p) ls.toArray=[i]) (hls:ls.set i true=ls') (h:DoesH F p i w0 L H cs K)
    (k:∀ L' H' cs',Le H H'→K L' H' cs'→(∀ wb w,Heap H' w0 w cs'→Sx T T2 bs i wb w)∧DrH F S H0 w0 p es T T2 bs n ls' L' H' cs'):DrH F S H0 w0 p es T T2 bs (n+1) ls L H cs:=by
  intro hl w hh a hf
  have e2:ls.toArray.setIfInBounds i true=ls'.toArray:=by rw [← hls]; simp
  refine ⟨fun h0=>absurd (h0 ▸ hr) (by simp),fun i' hi'=>?_⟩
  rw [hr] at hi'
  simp only [List.mem_singleton] at hi'
  subst hi'
  rw [e2]
  refine (h w hh).wpOp hf ?_
  rintro L' w' a' ⟨H',cs',hl',hh',hK⟩ hf'
  obtain ⟨hT,k⟩:=k L' H' cs' hl' hK
  exact ⟨hT w w' hh',k (hl.then hl') w' hh' a' hf'⟩
theorem wpAnyB_done {P:Program} {md:Region.Mode} {ops:Array Oper} {Q:Exit→Act→World→Prop} {S:Nat→World→World→Prop} {listed:Array Bool} {a:Act} {w:World} (hr:Region.ready md ops listed=[]) (h:Q .normal a w) :
    ∀ fuel,wpAnyB P md ops Q S fuel listed a w
  | 0=>⟨hr,h⟩
  | _+1=>⟨fun _=>h,by rw [hr]; simp⟩
theorem DrH.done (hr:Region.ready .any (opsAt F.c p) ls.toArray=[]) (k:RunH F S H0 w0 es L H cs):DrH F S H0 w0 p es T T2 bs n ls L H cs :=
  fun hl w hh a hf=>wpAnyB_done hr ⟨rfl,k hl w hh a hf⟩ n
theorem DrH.keep (ts:List Nat) (h:keep L ts=some L') (k:DrH F S H0 w0 p es T T2 bs n ls L' H cs):DrH F S H0 w0 p es T T2 bs n ls L H cs:=fun hl w hh a hf=>k hl w hh a (hf.keep h)
theorem DrH.pick (m:Nat) (idx:List Nat) (ok:pickOk m idx=true) (he:Kit.pick m idx cs=cs') (k:DrH F S H0 w0 p es T T2 bs n ls L H cs'):DrH F S H0 w0 p es T T2 bs n ls L H cs:=Hs.pick m idx ok he k
theorem DrH.nilc (k:DrH F S H0 w0 p es T T2 bs n ls L H (none::cs)):DrH F S H0 w0 p es T T2 bs n ls L H cs:=Hs.nilc k
theorem DrH.val1 {t:Nat} {v v':Value} (h:v=v') (k:DrH F S H0 w0 p es T T2 bs n ls ((t,v')::L) H cs):DrH F S H0 w0 p es T T2 bs n ls ((t,v)::L) H cs:=by rw [h]; exact k
theorem DrH.run2 (order:List Nat) {vs:List Value} {evs:List Ev} (hsel:Region.noSelect (opsAt F.c p)=true) (hT:∀ w,Heap H w0 w cs→T2 w) (h:runD F.P F.N (opsAt F.c p) bs false order ls L vs=some (ls',L',evs)) (hold:∀ w,T2 w→Hold w evs)
    (hnm:Nat.beq (order.length+m) n=true) (k:DrH F S H0 w0 p es T T2 bs m ls' L' H cs):DrH F S H0 w0 p es T T2 bs n ls L H cs:=by
  intro hl w hh a hf
  have hnm:=Nat.eq_of_beq_eq_true hnm
  subst hnm
  exact runD_spec (b:=false) hsel (fun c a a' w h=>absurd h.1 (by simp)) (hT w hh) order h (fun w hw=>hold w hw) (fun a ha=>k hl w hh a ha) a hf
end
/-! ### 35b. Blocks that are told whole -/
def InG (H:Hp) (F:List Ch) (g:Nat) (o:Obj):Prop:=H g=some o∨some (g,o)∈F
section
variable {H H':Hp} {w0 w:World} {F F' cs cs':List Ch} {g off:Nat} {o:Obj} {cells:Array Value} {e:TypeId} {fr:Nat × Nat} {v:Value}
theorem InG.mono (h:InG H F g o) (hl:Le H H'):InG H' F g o:=h.imp (hl _ _) id
theorem InG.wk (h:InG H F g o) (hs:∀ c,c∈F→c∈F'):InG H F' g o:=h.imp id (hs _)
theorem InG.cell (h:InG H F g (.cells cells e fr)) (hh:Heap H w0 w F) (hv:cells[off]? = some v):w.cell? ⟨g,off,none⟩=some v :=
  blk_cell (h.elim (hh.sub _ _) (fun hm=>hh.mem hm)) hv
theorem Heap.box (h:Heap H w0 w cs) (k:Nat) (hk:cs[k]? = some (some (g,.cells cells e fr))) (hv:cells[off]? = some v):w.cell? ⟨g,off,none⟩=some v:=blk_cell (h.chin k hk) hv
end
section
variable {F:Ctx} {S:Value→Hp→List Ch→Prop} {H0 H:Hp} {w0:World} {es:List En} {L:Slots} {cs cs':List Ch} {p:List Nat} {i:Nat}
theorem RunH.doneM' (k:Nat) {fn:Func} {v:Value} {vs:List Value} (ht:isEnd F.c es=true) (hf:F.P.funcs[F.f]? = some fn) (hr:∀ w,Heap H w0 w cs→ResAll F.P w L fn.results.toList vs) (hv:v=packR vs) (hcs:cs.drop k=cs') (hS:S v H cs'):RunH F S H0 w0 es L H cs :=
  fun hl w hh=>RunL.doneM ht hf (hr w hh) hv ⟨H,cs',hl,hcs ▸ hh.drop k,hS⟩
def pureAt (P:Program) (N:Nat) (ops:Array Oper) (i:Nat) (L:Slots) (vs:List Value):Option (Nat × Value × List Ev) :=
  match ops[i]? with
  | none=>none
  | some o =>
    match okOp N L o with
    | false=>none
    | true =>
      match wantL ops L o.guard with
      | some true=>match o.dst with
        | some d=>match stepT P L o vs with
          | some (v,_,evs)=>some (d,v,evs)
          | none=>none
        | none=>none
      | _=>none
theorem DoesH.pureop {d:Nat} {v:Value} {vs:List Value} {evs:List Ev} (h:pureAt F.P F.N (opsAt F.c p) i L vs=some (d,v,evs)) (hold:∀ w,Heap H w0 w cs→Hold w evs) :
    DoesH F p i w0 L H cs (fun L' H' cs'=>L'=(d,v)::L∧H=H'∧cs=cs'):=by
  intro w hh
  unfold pureAt at h
  split at h
  · simp at h
  · rename_i o ho
    split at h
    · simp at h
    · rename_i hok
      split at h
      · rename_i hw
        split at h
        · rename_i dx hdx
          split at h
          · rename_i v' r' evs' hst
            injection h with h
            injection h with h1 h
            injection h with h2 h3
            subst h1 h2 h3
            exact ⟨o,ho,hok,hw,.inl ⟨_,w,stepT_run hst (hold w hh),H,cs,Le.refl H,hh,by rw [hdx]; rfl,rfl,rfl⟩⟩
          · simp at h
        · simp at h
      · simp at h
end
/-! ### 36. Maps -/
def MpOwn {κ ν:Type} (enc:κ→Value) (kd:Kd ν) (ag:Bool) (H:Hp) (g:Nat) (m:List (κ × ν)) (ch:Ch):Prop :=
  ∃ es clock,ch=some (g,.map es clock)∧Stm es clock∧MRep enc kd ag H es.toList m
def Mw {κ ν:Type} (enc:κ→Value) (kd:Kd ν) (ag:Bool) (H:Hp) (F:List Ch) (A:Option Nat) (m:List (κ × ν)):Prop :=
  (A=none∧m=[])∨∃ g es clock,A=some g∧(H g=some (.map es clock)∨some (g,Obj.map es clock)∈F)∧Stm es clock∧MRep enc kd ag H es.toList m
section
variable {κ ν:Type} {enc:κ→Value} {kd:Kd ν} {ag:Bool} {H H':Hp} {w0 w w':World} {A:Option Nat} {g:Nat} {m:List (κ × ν)} {ch:Ch} {F F' cs:List Ch}
theorem MpOwn.mono (h:MpOwn enc kd ag H g m ch) (hl:Le H H'):MpOwn enc kd ag H' g m ch:=by
  obtain ⟨es,c,h1,h2,h3⟩:=h
  exact ⟨es,c,h1,h2,h3.mono hl⟩
theorem MpOwn.on (h:MpOwn enc kd ag H g m ch) (hm:ChIn w ch):MOn enc kd ag H w (some g) m:=by
  obtain ⟨es,c,rfl,h2,h3⟩:=h
  exact .inr ⟨g,es,c,rfl,hm,h2,h3⟩
theorem Mw.nil:Mw enc kd ag H F none ([]:List (κ × ν)):=.inl ⟨rfl,rfl⟩
theorem Mw.of (h:MRow enc kd ag H A m):Mw enc kd ag H F A m:=by
  rcases h with h | ⟨g,es,c,h1,h2,h3⟩
  · exact .inl h
  · exact .inr ⟨g,es,c,h1,.inl h2,h3⟩
theorem Mw.mono (h:Mw enc kd ag H F A m) (hl:Le H H'):Mw enc kd ag H' F A m:=by
  rcases h with h | ⟨g,es,c,h1,h2,h3,h4⟩
  · exact .inl h
  · exact .inr ⟨g,es,c,h1,h2.imp (hl _ _) id,h3,h4.mono hl⟩
theorem Mw.wk (h:Mw enc kd ag H F A m) (hs:∀ c,c∈F→c∈F'):Mw enc kd ag H F' A m:=by
  rcases h with h | ⟨g,es,c,h1,h2,h3⟩
  · exact .inl h
  · exact .inr ⟨g,es,c,h1,h2.imp id (hs _),h3⟩
theorem Mw.on (h:Mw enc kd ag H F A m) (hh:Heap H w0 w F):MOn enc kd ag H w A m:=by
  rcases h with h | ⟨g,es,c,h1,h2,h3⟩
  · exact .inl h
  · exact .inr ⟨g,es,c,h1,h2.elim (hh.sub _ _) (fun hm=>hh.mem hm),h3⟩
theorem MpOwn.made:MpOwn enc kd ag H g ([]:List (κ × ν)) (some (g,.map #[] 0)):=⟨_,_,rfl,Stm.empty 0,.nil⟩
end
section
variable {F:Ctx} {H:Hp} {w0:World} {L:Slots} {cs:List Ch} {p:List Nat} {i:Nat}
theorem DoesH.lookup {d:Nat} {t kt:TypeId} {κ ν:Type} [DecidableEq κ] {enc:κ→Value} {kd:Kd ν} {ag:Bool} {A:Option Nat} {m:List (κ × ν)} {k:κ} {z:Value} {zc:List Value} {z0:ν} {ok:Bool}
    (h:lkAt F.P F.N (opsAt F.c p) i L=some (d,t,kt,A,enc k,z,ok)) (K:KyAt F.P kt enc) (hzc:z=mkv ag zc) (hz0:kd.K H z0 zc) (hm:∀ w,Heap H w0 w cs→MOn enc kd ag H w A m) :
    DoesH F p i w0 L H cs (fun L' H' cs'=>∃ c,L'=(d,if ok then .tuple #[mkv ag c,.bool (mhas m k)] else mkv ag c)::L∧H=H'∧cs=cs'∧kd.K H (mgetD m k z0) c):=by
  intro w hh
  unfold lkAt at h
  split at h
  · simp at h
  · rename_i o ho
    split at h
    · simp at h
    · rename_i hok
      split at h
      · rename_i hw
        split at h
        · rename_i t' x kx okx dx hop hdx
          split at h
          · rename_i kt' et A' hu hA
            split at h
            · rename_i z' r' hz
              injection h with h
              injection h with h1 h
              injection h with h2 h
              injection h with h3 h
              injection h with h4 h
              injection h with h5 h
              injection h with h6 h7
              subst h1 h2 h3 h4 h6 h7
              obtain ⟨c,hc,hrun⟩:=run_lookup (ok:=okx) (k:=k) hu K (trS_run (w:=w) _ hz trivial) hzc hz0 (hm w hh)
              have hexec:(execOp (evL L) o).run F.P w=.ok (.value (if okx then .tuple #[mkv ag c,.bool (mhas m k)] else mkv ag c)) w:=by
                simp only [execOp,hop,hA,h5,Sem.run_bind,hrun,Result.andThen_ok,Sem.run_pure]
              exact ⟨o,ho,hok,hw,.inl ⟨_,w,hexec,H,cs,Le.refl H,hh,c,by rw [hdx]; rfl,rfl,rfl,hc⟩⟩
            · simp at h
          · simp at h
        · simp at h
      · simp at h
theorem DoesH.mapUpdate {kt:TypeId} {κ ν:Type} [DecidableEq κ] {enc:κ→Value} {kd:Kd ν} {ag:Bool} {g kk:Nat} {m:List (κ × ν)} {k:κ} {v:ν} {cv:List Value} {vv:Value} {ch:Ch}
    (h:muAt F.P F.N (opsAt F.c p) i L=some (kt,g,enc k,vv)) (K:KyAt F.P kt enc) (hvv:vv=mkv ag cv) (hv:kd.K H v cv) (hk:cs[kk]? = some ch) (hm:MpOwn enc kd ag H g m ch) :
    DoesH F p i w0 L H cs (fun L' H' cs'=>∃ ch',L=L'∧H=H'∧cs'=cs.set kk ch'∧MpOwn enc kd ag H g (mput m k v) ch'):=by
  intro w hh
  obtain ⟨es0,c0,rfl,s1,s2⟩:=hm
  obtain ⟨a1,a2,a3⟩:=hh.own kk _ hk
  unfold muAt at h
  split at h
  · simp at h
  · rename_i o ho
    split at h
    · simp at h
    · rename_i hok
      split at h
      · rename_i hw
        split at h
        · rename_i t' x kx vx hop hdx
          split at h
          · rename_i kt' et g' hu hA
            injection h with h
            injection h with h1 h
            injection h with h2 h
            injection h with h3 h4
            subst h1 h2
            obtain ⟨w',ob,hrun,hU,hO⟩:=run_mapUpdate (n0:=w0.heap.size) (k:=k) hu K hv ⟨a1,a2,es0,c0,a3,s1,s2⟩
            have hexec:(execOp (evL L) o).run F.P w=.ok .skip w':=by
              simp only [execOp,hop,hA,h3,h4,hvv,Sem.run_bind,hrun,Result.andThen_ok,Sem.run_pure]
            obtain ⟨_,_,es1,c1,b1,b2,b3⟩:=hO
            have hob:ob=.map es1 c1:=by
              have:=hU.at_
              rw [b1] at this
              injection this with this
              exact this.symm
            subst hob
            exact ⟨o,ho,hok,hw,.inr (.inl ⟨w',hexec,hdx,H,_,Le.refl H,hh.upd hk hU,_,rfl,rfl,rfl,es1,c1,rfl,b2,b3⟩)⟩
          · simp at h
        · simp at h
      · simp at h
/-! ### 37. Slices that are made -/
def msAt (P:Program) (N:Nat) (ops:Array Oper) (i:Nat) (L:Slots):Option (Nat × TypeId × Array Value × Nat × Int × Int) :=
  match ops[i]? with
  | none=>none
  | some o =>
    match okOp N L o with
    | false=>none
    | true =>
      match wantL ops L o.guard with
      | some true =>
        match o.op,o.dst with
        | .makeSlice t a b,some d =>
          match P.underlying t with
          | some (.slice e) =>
            match P.info? e with
            | some inf =>
              match inf.zero with
              | some z=>match Nat.beq z.cells.size inf.size with
                | true=>match evL L a,evL L b with
                  | .int _ n,.int _ c=>some (d,e,z.cells,inf.bytes,n,c)
                  | _,_=>none
                | false=>none
              | none=>none
            | none=>none
          | _=>none
        | _,_=>none
      | _=>none
theorem Rep.zeros {α:Type} {d:Kd α} {H:Hp} {z:α} {zc:Array Value} (hz:d.K H z zc.toList) (n:Nat) (h0:0<d.sz):Kd.Rep d H ((Array.range (n*zc.size)).map (zc[· % zc.size]!)) 0 (List.replicate n z):=by
  have hsz:zc.size=d.sz:=by have:=d.len hz; simpa using this
  intro i x hx
  rw [List.getElem?_replicate] at hx
  split at hx
  · rename_i hi
    injection hx with hx
    subst hx
    refine ⟨zc.toList,hz,fun j v hj=>?_⟩
    have hlt:j<zc.size:=by
      have:=(List.getElem?_eq_some_iff.1 hj).1
      simpa using this
    have hmul:(i+1)*zc.size≤n*zc.size:=Nat.mul_le_mul_right _ hi
    rw [Nat.add_mul] at hmul
    rw [← hsz]
    have hm:(0+i*zc.size+j) % zc.size=j:=by
      rw [Nat.zero_add,Nat.mul_comm,Nat.mul_add_mod,Nat.mod_eq_of_lt hlt]
    have hv:zc[j]! = v:=by
      rw [getElem!_pos zc j hlt]
      simpa [hlt] using hj
    simp only [Array.getElem?_map,Array.getElem?_range]
    rw [if_pos (by omega)]
    simp only [Option.map_some,hm,hv]
  · cases hx
theorem DoesH.makeSlice {d e bytes:Nat} {α:Type} {kd:Kd α} {zc:Array Value} {z:α} {n:Int} (h:msAt F.P F.N (opsAt F.c p) i L=some (d,e,zc,bytes,n,n)) (h0:0≤n) (h1:n.toNat*bytes≤140737490452480) (h2:n≤9223372036854775807) (hz:kd.K H z zc.toList) (hs:0<kd.sz) :
    DoesH F p i w0 L H cs (fun L' H' cs'=>∃ g ch,L'=(d,.slice (some ⟨g,0,none⟩) (List.replicate n.toNat z).length n.toNat)::L∧H=H'∧cs'=ch::cs∧SlOwn kd e H (some ⟨g,0,none⟩) n.toNat (List.replicate n.toNat z) ch):=by
  intro w hh
  unfold msAt at h
  split at h
  · simp at h
  · rename_i o ho
    split at h
    · simp at h
    · rename_i hok
      split at h
      · rename_i hw
        split at h
        · rename_i t' a b dx hop hdx
          split at h
          · rename_i e' hu
            split at h
            · rename_i inf hinf
              split at h
              · rename_i z' hz'
                split at h
                · rename_i hzs
                  have hzs:=Nat.eq_of_beq_eq_true hzs
                  split at h
                  · rename_i k1 n1 k2 n2 ha hb
                    injection h with h
                    injection h with g1 h
                    injection h with g2 h
                    injection h with g3 h
                    injection h with g4 h
                    injection h with g5 g6
                    subst g1 g2 g3 g4 g5 g6
                    have hwrap:IntKind.i64.wrap n2=n2:=by
                      have e:IntKind.i64.wrap n2=if 9223372036854775808≤n2 % 18446744073709551616 then n2 % 18446744073709551616 - 18446744073709551616 else n2 % 18446744073709551616:=by
                        unfold IntKind.wrap
                        simp [IntKind.bits,IntKind.signed]
                      rw [e]
                      by_cases hc:(9223372036854775808:Int)≤n2 % 18446744073709551616
                      · rw [if_pos hc]; omega
                      · rw [if_neg hc]; omega
                    have hbig:¬ (281474976710656<(inf.bytes:Int)*n2):=by
                      have:(inf.bytes:Int)*n2=((n2.toNat*inf.bytes:Nat):Int):=by
                        rw [Int.natCast_mul,Int.toNat_of_nonneg h0,Int.mul_comm]
                      rw [this]
                      omega
                    have hlen:z'.cells.size=kd.sz:=by have:=kd.len hz; simpa using this
                    have hneg:¬ n2<0:=by omega
                    let arr:=(Array.range (n2.toNat*z'.cells.size)).map (z'.cells[· % z'.cells.size]!)
                    have hroom:¬ (roomBytes<n2.toNat*inf.bytes)∨True:=.inr trivial
                    have hrun:(Instr.makeSlice t' (.int k1 n2) (.int k2 n2)).run F.P w=.ok (.slice (some ⟨w.heap.size,0,none⟩) n2.toNat n2.toNat) { w with heap:=w.heap.push (.cells arr e' (0,0)) }:=by
                      have hnn:n2.toNat*inf.size=0→arr=#[]:=by
                        intro h
                        rw [← hzs] at h
                        simp [arr,h]
                      by_cases hz0:n2.toNat*inf.size=0
                      · have ha:=hnn hz0
                        rw [ha]
                        simp [Instr.makeSlice,run_underlying hu,asInt,typeInfo,sizeOf,zeroValue,hinf,hz',hwrap,hbig,hneg,hz0,newRow,Sem.run,askRoom,go_sem]
                        all_goals (split <;> simp [Sem.run,go_sem] <;> rfl)
                      · have hz1:¬ n2≤0∧¬ inf.size=0:=by
                          constructor
                          · intro h
                            have:n2.toNat=0:=by omega
                            rw [this] at hz0
                            simp at hz0
                          · intro h
                            rw [h] at hz0
                            simp at hz0
                        have hz2:(n2.toNat*inf.size=0)=False:=eq_false hz0
                        simp only [arr,hzs]
                        simp [Instr.makeSlice,run_underlying hu,asInt,typeInfo,sizeOf,zeroValue,hinf,hz',hwrap,hbig,hneg,hz1,hz2,newRow,Sem.run,askRoom,go_sem,hzs]
                        have hzs':=hzs
                        unfold Value.cells at hzs'
                        simp only [hzs']
                    have hexec:(execOp (evL L) o).run F.P w=.ok (.value (.slice (some ⟨w.heap.size,0,none⟩) (List.replicate n2.toNat z).length n2.toNat)) { w with heap:=w.heap.push (.cells arr e' (0,0)) }:=by
                      simp only [execOp,hop,ha,hb,Sem.run_bind,hrun,Result.andThen_ok,Sem.run_pure,List.length_replicate]
                    refine ⟨o,ho,hok,hw,.inl ⟨_,_,hexec,H,_,Le.refl H,hh.push (o:=.cells arr e' (0,0)) (Ext.push w _) rfl (by simp),w.heap.size,_,by rw [hdx]; rfl,rfl,rfl,?_⟩⟩
                    refine .inr ⟨w.heap.size,0,arr,rfl,rfl,by simp,by unfold maxLen; omega,by simp [arr,hlen],Rep.zeros hz _ hs⟩
                  · simp at h
                · simp at h
              · simp at h
            · simp at h
          · simp at h
        · simp at h
      · simp at h
end
end Go.Proofs.YtedkdnhhohcocaaDoor.Kit
