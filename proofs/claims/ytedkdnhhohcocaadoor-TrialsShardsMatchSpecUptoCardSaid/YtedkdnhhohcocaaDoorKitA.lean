/- Words of our own: runs of a function's body addressed by places in its code, frames as lists of known slots, and the execution of operations that only read, by the kernel's reckoning. -/
import Derived.Calls
import Derived.Orders
import Derived.Below
import Derived.KernelRfl
import Derived.Laws.Slices
import Derived.WalkKit
namespace Go.Proofs.YtedkdnhhohcocaaDoor.Kit
open Go

/-! ### 1. Runs -/
def base (f:FuncId):Frame:={ (default:Frame) with fn:=f,kind:=.normal }
def Run (P:Program) (f:FuncId) (R:Ending→World→Prop) (todo:List Item) (a:Act) (w:World):Prop :=
  ∀ cs,∃ e w' fr,R e w'∧Comes P (lone ((base f).at a todo) cs w) (lone fr cs w') e∧fr.fn=f∧fr.leaving P w' e
theorem Run.step {P:Program} {f:FuncId} {R:Ending→World→Prop} {todo todo':List Item} {a a':Act} {w w':World}
    (h:∀ cs,step P (lone ((base f).at a todo) cs w)=.next (lone ((base f).at a' todo') cs w')) (k:Run P f R todo' a' w'):Run P f R todo a w:=by
  intro cs
  obtain ⟨e,w2,fr,hR,hc,hf,hl⟩:=k cs
  exact ⟨e,w2,fr,hR,Comes.of_steps (.one (h cs)) hc,hf,hl⟩
theorem Run.of_wp {P:Program} {f:FuncId} {R:Ending→World→Prop} {c:Code} {k:List Item} {a:Act} {w:World}
    (h:c.wp P (fun e a' w'=>e=.normal∧Run P f R k a' w') a w):Run P f R (.code c::k) a w:=by
  intro cs
  obtain ⟨e,a',w',⟨he,hk⟩,harr⟩:=h (base f) k cs
  subst he
  obtain ⟨e,w2,fr,hR,hc,hf,hl⟩:=hk cs
  exact ⟨e,w2,fr,hR,Comes.of_steps harr hc,hf,hl⟩
theorem calls_of_run {P:Program} {f:FuncId} {fn:Func} {c:Code} {args:Array Value} {w:World} {R:Ending→World→Prop}
    (hf:P.funcs[f]? = some fn) (hb:fn.body=some c)
    (h:Run P f R [.code c] { tmps:=args++Array.replicate (fn.ntmps - args.size) undef,defers:=[] } w):Calls P f args w R:=by
  intro cs
  have henter:Frame.enter P f args .normal=(base f).at { tmps:=args++Array.replicate (fn.ntmps - args.size) undef,defers:=[] } [.code c]:=by
    simp [Frame.enter,Frame.at,hf,hb,base]
  rw [henter]
  exact h cs
theorem Run.leave {P:Program} {f:FuncId} {fn:Func} {R:Ending→World→Prop} {todo:List Item} {a:Act} {w:World} {v:Value}
    (ht:todo=[]∨∃ k,todo=.code .ret::k) (hf:P.funcs[f]? = some fn) (hd:a.defers=[]) (hr:(results fn a.tmps).run P w=.ok v w) (hR:R (.returned v) w):Run P f R todo a w:=by
  intro cs
  rcases ht with rfl | ⟨k,rfl⟩
  · exact ⟨.returned v,w,_,hR,.one step_end,rfl,rfl,hd,rfl,fn,hf,hr⟩
  · exact ⟨.returned v,w,_,hR,.one step_ret,rfl,rfl,hd,rfl,fn,hf,hr⟩

/-! ### 2. Places in a code -/
def nav:Code→List Nat→Code
  | c,[]=>c
  | .seq x y,i::p=>if i=0 then nav x p else nav y p
  | .cond _ x y,i::p=>if i=0 then nav x p else nav y p
  | .block _ x,_::p=>nav x p
  | .loop x,_::p=>nav x p
  | .scope x,_::p=>nav x p
  | c,_::_=>c
theorem nav_append (c:Code) (p q:List Nat):nav c (p++q)=nav (nav c p) q:=by
  induction p generalizing c with
  | nil=>cases c <;> rfl
  | cons i p ih =>
    cases c with
    | seq x y=>simp only [List.cons_append,nav]; split <;> exact ih _
    | cond k x y=>simp only [List.cons_append,nav]; split <;> exact ih _
    | block k x=>exact ih x
    | loop x=>exact ih x
    | scope x=>exact ih x
    | _=>cases q <;> rfl
inductive En where
  | c (p:List Nat)
  | b (id:Nat)
  | l (p:List Nat)
  | s (p:List Nat)
def En.item (c:Code):En→Item
  | .c p=>.code (nav c p)
  | .b id=>.inBlock id
  | .l p=>.inLoop (nav c p)
  | .s p=>.inScope (nav c p)
def exitEn (id:Nat):List En→Option (List En)
  | .b id'::k=>if id' == id then some k else exitEn id k
  | _::k=>exitEn id k
  | []=>none
theorem exitEn_item {c:Code} {id:Nat}:∀ {k k':List En},exitEn id k=some k'→exitTo id (k.map (En.item c))=some (k'.map (En.item c))
  | [],_,h=>by simp [exitEn] at h
  | .b id'::k,k',h=>by
    simp only [exitEn] at h
    simp only [List.map_cons,En.item,exitTo]
    split at h
    · rename_i he
      injection h with h
      subst h
      rw [if_pos he]
    · rename_i he
      rw [if_neg he]
      exact exitEn_item h
  | .c p::k,k',h=>exitEn_item (k:=k) h
  | .l p::k,k',h=>exitEn_item (k:=k) h
  | .s p::k,k',h=>exitEn_item (k:=k) h
def adm (c:Code):Nat→List En→Option (List En)
  | 0,es=>some es
  | n+1,.c p::k =>
    match nav c p with
    | .seq _ _=>adm c n (.c (p++[0])::.c (p++[1])::k)
    | .block id _=>adm c n (.c (p++[0])::.b id::k)
    | .loop _=>adm c n (.c (p++[0])::.l (p++[0])::k)
    | .skip=>adm c n k
    | .label _=>adm c n k
    | .exit id=>match exitEn id k with | some k'=>adm c n k' | none=>none
    | _=>none
  | n+1,.b _::k=>adm c n k
  | n+1,.l p::k=>adm c n (.c p::.l p::k)
  | _+1,_=>none
theorem Run.adm {P:Program} {f:FuncId} {R:Ending→World→Prop} {c:Code} {a:Act} {w:World}:∀ (n:Nat) {es es':List En},adm c n es=some es' →
    Run P f R (es'.map (En.item c)) a w→Run P f R (es.map (En.item c)) a w
  | 0,es,es',h,k=>by
    simp only [Kit.adm] at h
    injection h with h
    subst h
    exact k
  | n+1,[],es',h,k=>by simp [Kit.adm] at h
  | n+1,.c p::es,es',h,k=>by
    have h0:∀ q,nav c (p++[q])=nav (nav c p) [q]:=fun q=>nav_append c p [q]
    simp only [Kit.adm] at h
    simp only [List.map_cons,En.item]
    split at h
    · rename_i x y hx
      rw [hx]
      refine Run.step (fun cs=>step_seq) ?_
      have:=Run.adm n h k
      simp only [List.map_cons,En.item,h0,hx,nav] at this
      exact this
    · rename_i id x hx
      rw [hx]
      refine Run.step (fun cs=>step_block) ?_
      have:=Run.adm n h k
      simp only [List.map_cons,En.item,h0,hx,nav] at this
      exact this
    · rename_i x hx
      rw [hx]
      refine Run.step (fun cs=>step_loop) ?_
      have:=Run.adm n h k
      simp only [List.map_cons,En.item,h0,hx,nav] at this
      exact this
    · rename_i hx
      rw [hx]
      exact Run.step (fun cs=>step_skip) (Run.adm n h k)
    · rename_i l hx
      rw [hx]
      exact Run.step (fun cs=>step_label) (Run.adm n h k)
    · rename_i id hx
      rw [hx]
      split at h
      · rename_i k' hk
        exact Run.step (fun cs=>step_exit (exitEn_item hk)) (Run.adm n h k)
      · exact absurd h (by simp)
    · exact absurd h (by simp)
  | n+1,.b id::es,es',h,k=>Run.step (fun cs=>step_inBlock) (Run.adm n (by simpa [Kit.adm] using h) k)
  | n+1,.l p::es,es',h,k=>Run.step (fun cs=>step_inLoop) (Run.adm n (es:=.c p::.l p::es) (by simpa [Kit.adm] using h) k)
  | n+1,.s p::es,es',h,k=>by simp [Kit.adm] at h

/-! ### 3. Frames: what is known of the slots -/
abbrev Slots:=List (Nat × Value)
def lk:Slots→Nat→Option Value
  | [],_=>none
  | (i,v)::l,t=>if Nat.beq i t then some v else lk l t
structure Fr (N:Nat) (a:Act) (L:Slots):Prop where
  size:a.tmps.size=N
  defers:a.defers=[]
  has:∀ t v,lk L t=some v→a.tmps[t]? = some v
def evL (L:Slots):Operand→Value
  | .tmp t=>(lk L t).getD undef
  | .const v=>v
  | .global g=>.pointer (some ⟨g,0,none⟩)
  | .func f=>.func (.func f) #[] #[]
def knows (L:Slots):Operand→Bool
  | .tmp t=>(lk L t).isSome
  | _=>true
def putL (L:Slots):Option Tmp→Value→Slots
  | some d,v=>(d,v)::L
  | none,_=>L
theorem Fr.eval {N:Nat} {a:Act} {L:Slots} (h:Fr N a L) {x:Operand} (hk:knows L x=true):a.eval x=evL L x:=by
  cases x with
  | tmp t =>
    simp only [knows,Option.isSome_iff_exists] at hk
    obtain ⟨v,hv⟩:=hk
    simp [Act.eval,evL,hv,Array.getD_eq_getD_getElem?,h.has t v hv]
  | _=>rfl
theorem Fr.put {N:Nat} {a:Act} {L:Slots} (h:Fr N a L) {d:Option Tmp} (hd:∀ t,d=some t→t<N) (v:Value):Fr N (a.put d v) (putL L d v):=by
  cases d with
  | none=>exact h
  | some d =>
    refine ⟨by simp [Act.put,h.size],h.defers,fun t u hu=>?_⟩
    simp only [putL,lk] at hu
    simp only [Act.put]
    split at hu
    · rename_i he
      have he:=Nat.eq_of_beq_eq_true he
      subst he
      injection hu with hu
      subst hu
      have:=hd d rfl
      rw [Array.getElem?_setIfInBounds_self_of_lt (by rw [h.size]; exact this)]
    · rename_i he
      have hne:d≠t:=fun e=>he (by subst e; exact Nat.beq_refl d)
      rw [Array.getElem?_setIfInBounds_ne hne]
      exact h.has t u hu
def keep (L:Slots):List Nat→Option Slots
  | []=>some []
  | t::ts=>match lk L t with
    | none=>none
    | some v=>match keep L ts with
      | none=>none
      | some r=>some ((t,v)::r)
theorem keep_has {L:Slots}:∀ {ts:List Nat} {L':Slots},keep L ts=some L'→∀ t v,lk L' t=some v→lk L t=some v
  | [],L',h,t,v,hv=>by
    simp only [keep] at h
    injection h with h
    subst h
    simp [lk] at hv
  | s::ts,L',h,t,v,hv=>by
    simp only [keep] at h
    split at h
    · simp at h
    · rename_i u hu
      split at h
      · simp at h
      · rename_i r hr
        injection h with h
        subst h
        simp only [lk] at hv
        split at hv
        · rename_i he
          have he:=Nat.eq_of_beq_eq_true he
          subst he
          rw [hu]
          exact hv
        · exact keep_has hr t v hv
theorem Fr.keep {N:Nat} {a:Act} {L L':Slots} (h:Fr N a L) {ts:List Nat} (hk:keep L ts=some L'):Fr N a L' :=
  ⟨h.size,h.defers,fun t v hv=>h.has t v (keep_has hk t v hv)⟩
end Go.Proofs.YtedkdnhhohcocaaDoor.Kit
