/- Words of our own: new blocks that are made at any time while a region's other operations go on. -/
import Derived.Test.YtedkdnhhohcocaaDoorKitQ
set_option linter.unusedSimpArgs false
set_option linter.unusedVariables false
set_option linter.unnecessarySimpa false
namespace Go.Proofs.YtedkdnhhohcocaaDoor.Kit
open Go Go.RowKit

/-! ### 37. Floating blocks -/
abbrev FO:=Option Nat × Obj
def vF:Option Nat→Nat→Value
  | none,g=>.pointer (some ⟨g,0,none⟩)
  | some n,g=>.slice (some ⟨g,0,none⟩) n n
def und:List (Option Nat)→Nat
  | []=>0
  | none::r=>und r+1
  | some _::r=>und r
def setB:List Bool→List (Nat × Nat × FO)→List (Option Nat)→List Bool
  | ls,(i,_,_)::fl,some _::dn=>setB (ls.set i true) fl dn
  | ls,_::fl,none::dn=>setB ls fl dn
  | ls,_,_=>ls
def slotsF:List (Nat × Nat × FO)→List (Option Nat)→Slots
  | (_,d,o)::fl,some g::dn=>(d,vF o.1 g)::slotsF fl dn
  | _::fl,none::dn=>slotsF fl dn
  | _,_=>[]
def chunksF:List (Nat × Nat × FO)→List (Option Nat)→List Ch
  | (_,_,o)::fl,some g::dn=>some (g,o.2)::chunksF fl dn
  | _::fl,none::dn=>none::chunksF fl dn
  | _,_=>[]
theorem set_comm_true (ls:List Bool) (i j:Nat):(ls.set i true).set j true=(ls.set j true).set i true:=by
  by_cases h:i=j
  · subst h; rfl
  · exact List.set_comm _ _ h
theorem setB_set:∀ (fl:List (Nat × Nat × FO)) (dn:List (Option Nat)) (ls:List Bool) (i:Nat),setB (ls.set i true) fl dn=(setB ls fl dn).set i true
  | [],_,_,_=>by simp [setB]
  | _::_,[],_,_=>by simp [setB]
  | (k,d,o)::fl,some g::dn,ls,i=>by simp only [setB]; rw [set_comm_true,setB_set fl dn]
  | (k,d,o)::fl,none::dn,ls,i=>by simp only [setB]; rw [setB_set fl dn]
def Undone (fl:List (Nat × Nat × FO)) (dn:List (Option Nat)) (j:Nat):Prop :=
  ∃ FA d o FB A B,fl=FA++(j,d,o)::FB∧dn=A++none::B∧FA.length=A.length
theorem und_app:∀ (A B:List (Option Nat)),und (A++B)=und A+und B
  | [],B=>by simp [und]
  | none::A,B=>by simp [und,und_app A B]; omega
  | some _::A,B=>by simp [und,und_app A B]
theorem setB_app:∀ (FA FB:List (Nat × Nat × FO)) (A B:List (Option Nat)) (ls:List Bool),FA.length=A.length→setB ls (FA++FB) (A++B)=setB (setB ls FA A) FB B
  | [],FB,[],B,ls,_=>by simp [setB]
  | (i,d,o)::FA,FB,none::A,B,ls,h=>by simp only [List.cons_append,setB]; exact setB_app FA FB A B ls (by simpa using h)
  | (i,d,o)::FA,FB,some g::A,B,ls,h=>by simp only [List.cons_append,setB]; exact setB_app FA FB A B _ (by simpa using h)
theorem slotsF_app:∀ (FA FB:List (Nat × Nat × FO)) (A B:List (Option Nat)),FA.length=A.length→slotsF (FA++FB) (A++B)=slotsF FA A++slotsF FB B
  | [],FB,[],B,_=>by simp [slotsF]
  | (i,d,o)::FA,FB,none::A,B,h=>by simp only [List.cons_append,slotsF]; exact slotsF_app FA FB A B (by simpa using h)
  | (i,d,o)::FA,FB,some g::A,B,h=>by simp only [List.cons_append,slotsF]; rw [slotsF_app FA FB A B (by simpa using h)]
theorem chunksF_app:∀ (FA FB:List (Nat × Nat × FO)) (A B:List (Option Nat)),FA.length=A.length→chunksF (FA++FB) (A++B)=chunksF FA A++chunksF FB B
  | [],FB,[],B,_=>by simp [chunksF]
  | (i,d,o)::FA,FB,none::A,B,h=>by simp only [List.cons_append,chunksF]; rw [chunksF_app FA FB A B (by simpa using h)]
  | (i,d,o)::FA,FB,some g::A,B,h=>by simp only [List.cons_append,chunksF]; rw [chunksF_app FA FB A B (by simpa using h)]
theorem chunksF_len:∀ (fl:List (Nat × Nat × FO)) (dn:List (Option Nat)),dn.length=fl.length→(chunksF fl dn).length=fl.length
  | [],[],_=>rfl
  | _::fl,none::dn,h=>by simp only [chunksF,List.length_cons]; rw [chunksF_len fl dn (by simpa using h)]
  | (_,_,_)::fl,some g::dn,h=>by simp only [chunksF,List.length_cons]; rw [chunksF_len fl dn (by simpa using h)]
theorem Heap.place {H:Hp} {w0 w:World} {c:Ch} {X Y:List Ch} (h:Heap H w0 w (c::(X++none::Y))):Heap H w0 w (X++c::Y):=by
  refine h.re (fun i=>if i=X.length then 0 else i+1) (fun i j _ _ e=>?_) (fun i q hq=>?_)
  · by_cases h1:i=X.length <;> by_cases h2:j=X.length <;> simp [h1,h2] at e <;> omega
  · by_cases h1:i=X.length
    · subst h1
      simp at hq
      simp [hq]
    · simp only [h1,if_false,List.getElem?_cons_succ]
      rcases Nat.lt_or_gt_of_ne h1 with hlt | hgt
      · rw [List.getElem?_append_left hlt] at hq ⊢
        exact hq
      · rw [List.getElem?_append_right (by omega)] at hq ⊢
        obtain ⟨m,hm⟩:∃ m,i - X.length=m+1:=⟨i - X.length - 1,by omega⟩
        rw [hm] at hq ⊢
        simpa using hq
def hasKey (L:Slots) (d:Nat):Bool:=L.any (fun p=>Nat.beq p.1 d)
def noKeys (L:Slots):List (Nat × Nat × FO)→Bool
  | []=>true
  | (_,d,_)::fl=>!hasKey L d&&!(fl.any (fun p=>Nat.beq p.2.1 d))&&noKeys L fl
theorem lk_app:∀ (L E:Slots) (t:Nat),lk (L++E) t=(match lk L t with | some v=>some v | none=>lk E t)
  | [],E,t=>by simp [lk]
  | (i,v)::L,E,t=>by
    simp only [List.cons_append,lk]
    cases Nat.beq i t
    · exact lk_app L E t
    · rfl
theorem lk_none:∀ {L:Slots} {t:Nat},hasKey L t=false→lk L t=none
  | [],_,_=>rfl
  | (i,v)::L,t,h=>by
    simp only [hasKey,List.any_cons,Bool.or_eq_false_iff] at h
    simp only [lk,h.1]
    exact lk_none h.2
theorem slotsF_key:∀ (fl:List (Nat × Nat × FO)) (dn:List (Option Nat)) (d:Nat),fl.any (fun p=>Nat.beq p.2.1 d)=false→hasKey (slotsF fl dn) d=false
  | [],_,_,_=>by simp [slotsF,hasKey]
  | _::_,[],_,_=>by simp [slotsF,hasKey]
  | (i,e,o)::fl,none::dn,d,h=>by
    simp only [List.any_cons,Bool.or_eq_false_iff] at h
    exact slotsF_key fl dn d h.2
  | (i,e,o)::fl,some g::dn,d,h=>by
    simp only [List.any_cons,Bool.or_eq_false_iff] at h
    have:=slotsF_key fl dn d h.2
    simp only [slotsF,hasKey,List.any_cons,Bool.or_eq_false_iff] at this ⊢
    exact ⟨h.1,this⟩
theorem noKeys_spec:∀ {fl:List (Nat × Nat × FO)} {L:Slots} {FA FB:List (Nat × Nat × FO)} {j d:Nat} {o:FO},noKeys L fl=true→fl=FA++(j,d,o)::FB→hasKey L d=false∧FA.any (fun p=>Nat.beq p.2.1 d)=false∧FB.any (fun p=>Nat.beq p.2.1 d)=false
  | [],_,FA,_,_,_,_,_,he=>by cases FA <;> simp at he
  | (i,e,o')::fl,L,[],FB,j,d,o,h,he=>by
    simp only [List.nil_append,List.cons.injEq,Prod.mk.injEq] at he
    obtain ⟨⟨rfl,rfl,rfl⟩,rfl⟩:=he
    simp only [noKeys,Bool.and_eq_true,Bool.not_eq_true'] at h
    exact ⟨h.1.1,rfl,h.1.2⟩
  | (i,e,o')::fl,L,x::FA,FB,j,d,o,h,he=>by
    simp only [List.cons_append,List.cons.injEq] at he
    obtain ⟨rfl,rfl⟩:=he
    simp only [noKeys,Bool.and_eq_true,Bool.not_eq_true'] at h
    obtain ⟨h1,h2,h3⟩:=noKeys_spec h.2 rfl
    refine ⟨h1,?_,h3⟩
    have h4:=h.1.2
    simp only [List.any_append,List.any_cons,Bool.or_eq_false_iff] at h4
    have h5:Nat.beq e d=false:=by
      have:=h4.2.1
      cases hc:Nat.beq e d
      · rfl
      · have:=Nat.eq_of_beq_eq_true hc
        subst this
        rw [Nat.beq_refl] at this
        simp_all
    simp only [List.any_cons,h5,h2,Bool.or_self]
theorem Fr.place {N:Nat} {a:Act} {L:Slots} {FA FB:List (Nat × Nat × FO)} {A B:List (Option Nat)} {d:Nat} {v:Value} (h1:hasKey L d=false) (h2:FA.any (fun p=>Nat.beq p.2.1 d)=false)
    (h:Fr N a ((d,v)::(L++(slotsF FA A++slotsF FB B)))):Fr N a (L++(slotsF FA A++(d,v)::slotsF FB B)):=by
  refine ⟨h.size,h.defers,fun t u hu=>h.has t u ?_⟩
  have e1:=lk_none h1
  have e2:=lk_none (slotsF_key FA A d h2)
  rw [lk_app,lk_app] at hu
  simp only [lk] at hu ⊢
  rw [lk_app,lk_app]
  cases hb:Nat.beq d t
  · rw [hb] at hu
    exact hu
  · have:=Nat.eq_of_beq_eq_true hb
    subst this
    rw [e1,e2,Nat.beq_refl] at hu
    exact hu
theorem Fr.turn {N:Nat} {a:Act} {L X:Slots} {d:Nat} {v:Value} (hx:hasKey X d=false) (h:Fr N a (L++(X++[(d,v)]))):Fr N a (L++[(d,v)]++X):=by
  refine ⟨h.size,h.defers,fun t u hu=>h.has t u ?_⟩
  have e2:=lk_none hx
  rw [List.append_assoc,lk_app,lk_app] at hu
  rw [lk_app,lk_app]
  simp only [lk] at hu ⊢
  cases hb:Nat.beq d t
  · rw [hb] at hu
    cases h1:lk L t with
    | some u'=>rw [h1] at hu; exact hu
    | none =>
      rw [h1] at hu
      have hu':lk X t=some u:=by simpa using hu
      rw [hu']
  · have:=Nat.eq_of_beq_eq_true hb
    subst this
    rw [Nat.beq_refl] at hu
    cases h1:lk L d with
    | some u'=>rw [h1] at hu; exact hu
    | none =>
      rw [h1] at hu
      rw [e2]
      exact hu
def MkAt (F:Ctx) (p:List Nat) (i:Nat) (L:Slots) (d:Nat) (o:FO):Prop :=
  ∃ op,(opsAt F.c p)[i]? = some op∧op.dst=some d∧okOp F.N L op=true∧wantL (opsAt F.c p) L op.guard=some true∧∀ w:World,(execOp (evL L) op).run F.P w=.ok (.value (vF o.1 w.heap.size)) { w with heap:=w.heap.push o.2 }
def FlOk (F:Ctx) (p:List Nat) (L:Slots):List (Nat × Nat × FO)→Prop
  | []=>True
  | (i,d,o)::r=>(∀ E,MkAt F p i (L++E) d o)∧FlOk F p L r
theorem DoesH.mk {F:Ctx} {p:List Nat} {i:Nat} {w0:World} {L:Slots} {H:Hp} {cs:List Ch} {d:Nat} {o:FO} (h:MkAt F p i L d o) :
    DoesH F p i w0 L H cs (fun L' H' cs'=>∃ g,L'=(d,vF o.1 g)::L∧H=H'∧cs'=some (g,o.2)::cs):=by
  intro w hh
  obtain ⟨op,ho,hd,hok,hw,hrun⟩:=h
  refine ⟨op,ho,hok,hw,.inl ⟨_,_,hrun w,H,_,Le.refl H,hh.push (Ext.push w _) rfl (by simp),w.heap.size,by rw [hd]; rfl,rfl,rfl⟩⟩
def zsO (n:Nat) (zc:Array Value) (e:TypeId):Obj:=.cells ((Array.range (n*zc.size)).map (zc[· % zc.size]!)) e (0,0)
theorem SlOwn.zeros {α:Type} {kd:Kd α} {H:Hp} {z:α} {zc:Array Value} {e g n:Nat} (hz:kd.K H z zc.toList) (hs:0<kd.sz) (hn:n≤maxLen):SlOwn kd e H (some ⟨g,0,none⟩) n (List.replicate n z) (some (g,zsO n zc e)):=by
  have hlen:zc.size=kd.sz:=by have:=kd.len hz; simpa using this
  exact .inr ⟨g,0,_,rfl,rfl,by simp,hn,by simp [hlen],Rep.zeros hz _ hs⟩
theorem mkMake {F:Ctx} {p:List Nat} {L:Slots} {i d e bytes:Nat} {zc:Array Value} {n:Int} (h:∀ E,msAt F.P F.N (opsAt F.c p) i (L++E)=some (d,e,zc,bytes,n,n)) (h0:0≤n) (h1:n.toNat*bytes≤140737490452480) (h2:n≤9223372036854775807) :
    ∀ E,MkAt F p i (L++E) d (some n.toNat,zsO n.toNat zc e):=fun E=>by
  have h:=h E
  unfold msAt at h
  split at h
  · simp at h
  · rename_i o ho
    split at h
    · simp at h
    · rename_i hok
      split at h
      · rename_i hw
        split at h
        · rename_i t' a b dx hop hdx
          split at h
          · rename_i e' hu
            split at h
            · rename_i inf hinf
              split at h
              · rename_i z' hz'
                split at h
                · rename_i hzs
                  have hzs:=Nat.eq_of_beq_eq_true hzs
                  split at h
                  · rename_i k1 n1 k2 n2 ha hb
                    injection h with h
                    injection h with g1 h
                    injection h with g2 h
                    injection h with g3 h
                    injection h with g4 h
                    injection h with g5 g6
                    subst g1 g2 g3 g4 g5 g6
                    have hwrap:IntKind.i64.wrap n2=n2:=by
                      have e:IntKind.i64.wrap n2=if 9223372036854775808≤n2 % 18446744073709551616 then n2 % 18446744073709551616 - 18446744073709551616 else n2 % 18446744073709551616:=by
                        unfold IntKind.wrap
                        simp [IntKind.bits,IntKind.signed]
                      rw [e]
                      by_cases hc:(9223372036854775808:Int)≤n2 % 18446744073709551616
                      · rw [if_pos hc]; omega
                      · rw [if_neg hc]; omega
                    have hbig:¬ (281474976710656<(inf.bytes:Int)*n2):=by
                      have:(inf.bytes:Int)*n2=((n2.toNat*inf.bytes:Nat):Int):=by
                        rw [Int.natCast_mul,Int.toNat_of_nonneg h0,Int.mul_comm]
                      rw [this]
                      omega
                    have hneg:¬ n2<0:=by omega
                    refine ⟨o,ho,hdx,hok,hw,fun w=>?_⟩
                    have hrun:(Instr.makeSlice t' (.int k1 n2) (.int k2 n2)).run F.P w=.ok (.slice (some ⟨w.heap.size,0,none⟩) n2.toNat n2.toNat) { w with heap:=w.heap.push (zsO n2.toNat z'.cells e') }:=by
                      by_cases hz0:n2.toNat*inf.size=0
                      · have ha:(Array.range (n2.toNat*z'.cells.size)).map (z'.cells[· % z'.cells.size]!)=#[]:=by
                          rw [hzs,hz0]
                          simp
                        rw [zsO,ha]
                        simp [Instr.makeSlice,run_underlying hu,asInt,typeInfo,sizeOf,zeroValue,hinf,hz',hwrap,hbig,hneg,hz0,newRow,Sem.run,askRoom,go_sem]
                        all_goals (split <;> simp [Sem.run,go_sem] <;> rfl)
                      · have hz1:¬ n2≤0∧¬ inf.size=0:=by
                          constructor
                          · intro h
                            have:n2.toNat=0:=by omega
                            rw [this] at hz0
                            simp at hz0
                          · intro h
                            rw [h] at hz0
                            simp at hz0
                        have hz2:(n2.toNat*inf.size=0)=False:=eq_false hz0
                        simp only [zsO,hzs]
                        simp [Instr.makeSlice,run_underlying hu,asInt,typeInfo,sizeOf,zeroValue,hinf,hz',hwrap,hbig,hneg,hz1,hz2,newRow,Sem.run,askRoom,go_sem,hzs]
                        have hzs':=hzs
                        unfold Value.cells at hzs'
                        simp only [hzs']
                    simp only [execOp,hop,ha,hb,Sem.run_bind,hrun,Result.andThen_ok,Sem.run_pure,vF]
                  · simp at h
                · simp at h
              · simp at h
            · simp at h
          · simp at h
        · simp at h
      · simp at h
theorem FlOk.at {F:Ctx} {p:List Nat} {L:Slots}:∀ {fl FA FB:List (Nat × Nat × FO)} {i d:Nat} {o:FO},FlOk F p L fl→fl=FA++(i,d,o)::FB→∀ E,MkAt F p i (L++E) d o
  | [],FA,_,_,_,_,_,he=>by cases FA <;> simp at he
  | (i',d',o')::fl,[],FB,i,d,o,h,he=>by
    simp only [List.nil_append,List.cons.injEq,Prod.mk.injEq] at he
    obtain ⟨⟨rfl,rfl,rfl⟩,rfl⟩:=he
    exact h.1
  | (i',d',o')::fl,x::FA,FB,i,d,o,h,he=>by
    simp only [List.cons_append,List.cons.injEq] at he
    obtain ⟨_,rfl⟩:=he
    exact FlOk.at h.2 rfl
def zeroed (dn:List (Option Nat)):List (Option Nat):=dn.map (Option.map (fun _=>0))
theorem setB_zeroed:∀ (fl:List (Nat × Nat × FO)) (dn:List (Option Nat)) (ls:List Bool),setB ls fl (zeroed dn)=setB ls fl dn
  | [],_,_=>by simp [setB]
  | _::_,[],_=>by simp [setB,zeroed]
  | (i,d,o)::fl,none::dn,ls=>setB_zeroed fl dn ls
  | (i,d,o)::fl,some g::dn,ls=>setB_zeroed fl dn _
def pats:Nat→List (List (Option Nat))
  | 0=>[[]]
  | n+1=>(pats n).map (none::·)++(pats n).map (some 0::·)
theorem mem_pats:∀ (dn:List (Option Nat)),zeroed dn∈pats dn.length
  | []=>by simp [zeroed,pats]
  | none::dn=>by simp only [List.length_cons,pats,List.mem_append]; exact .inl (List.mem_map.2 ⟨_,mem_pats dn,rfl⟩)
  | some g::dn=>by simp only [List.length_cons,pats,List.mem_append]; exact .inr (List.mem_map.2 ⟨_,mem_pats dn,rfl⟩)
def undoneB:List (Nat × Nat × FO)→List (Option Nat)→Nat→Bool
  | (i,_,_)::fl,none::dn,j=>Nat.beq i j||undoneB fl dn j
  | _::fl,some _::dn,j=>undoneB fl dn j
  | _,_,_=>false
theorem undoneB_spec:∀ {fl:List (Nat × Nat × FO)} {dn:List (Option Nat)} {j:Nat},undoneB fl (zeroed dn) j=true→Undone fl dn j
  | [],_,_,h=>by simp [undoneB] at h
  | _::_,[],_,h=>by simp [undoneB,zeroed] at h
  | (i,d,o)::fl,none::dn,j,h=>by
    have h:(Nat.beq i j||undoneB fl (zeroed dn) j)=true:=h
    rw [Bool.or_eq_true] at h
    rcases h with h | h
    · have:=Nat.eq_of_beq_eq_true h
      subst this
      exact ⟨[],d,o,fl,[],dn,rfl,rfl,rfl⟩
    · obtain ⟨FA,d',o',FB,A,B,h1,h2,h3⟩:=undoneB_spec h
      exact ⟨(i,d,o)::FA,d',o',FB,none::A,B,by rw [h1]; rfl,by rw [h2]; rfl,by simp [h3]⟩
  | (i,d,o)::fl,some g::dn,j,h=>by
    have h:undoneB fl (zeroed dn) j=true:=h
    obtain ⟨FA,d',o',FB,A,B,h1,h2,h3⟩:=undoneB_spec h
    exact ⟨(i,d,o)::FA,d',o',FB,some g::A,B,by rw [h1]; rfl,by rw [h2]; rfl,by simp [h3]⟩
def rdOk (ops:Array Oper) (ls:List Bool) (fl:List (Nat × Nat × FO)) (i:Nat):Bool :=
  (pats fl.length).all fun b=>(Region.ready .any ops (setB ls fl b).toArray).contains i&&(Region.ready .any ops (setB ls fl b).toArray).all (fun j=>Nat.beq j i||undoneB fl b j)
def rdEnd (ops:Array Oper) (ls:List Bool) (fl:List (Nat × Nat × FO)):Bool :=
  (pats fl.length).all fun b=>Nat.beq (und b) 0||(!(Region.ready .any ops (setB ls fl b).toArray).isEmpty&&(Region.ready .any ops (setB ls fl b).toArray).all (fun j=>undoneB fl b j))
theorem und_zeroed:∀ (dn:List (Option Nat)),und (zeroed dn)=und dn
  | []=>rfl
  | none::dn=>by simp only [zeroed,List.map_cons,Option.map_none,und]; rw [← und_zeroed dn]; rfl
  | some g::dn=>by simp only [zeroed,List.map_cons,Option.map_some,und]; rw [← und_zeroed dn]; rfl
def DrF (F:Ctx) (S:Value→Hp→List Ch→Prop) (H0:Hp) (w0:World) (p:List Nat) (es:List En) (T T2:World→Prop) (bs:List Nat) (fl:List (Nat × Nat × FO)) (n:Nat) (ls:List Bool) (L:Slots) (H:Hp) (cs:List Ch):Prop :=
  ∀ dn:List (Option Nat),dn.length=fl.length→DrH F S H0 w0 p es T T2 bs (n+und dn) (setB ls fl dn) (L++slotsF fl dn) H (chunksF fl dn++cs)
section
variable {F:Ctx} {S:Value→Hp→List Ch→Prop} {H0 H:Hp} {w0:World} {es es':List En} {L L':Slots} {cs cs':List Ch} {p:List Nat} {i j n m:Nat} {T T2:World→Prop} {bs:List Nat} {ls ls':List Bool} {fl:List (Nat × Nat × FO)}
theorem none_heap {w:World}:∀ (fl:List (Nat × Nat × FO)),Heap H w0 w cs→Heap H w0 w (chunksF fl (fl.map (fun _=>none))++cs)
  | [],h=>by simpa [chunksF] using h
  | (i,d,o)::fl,h=>by simp only [List.map_cons,chunksF,List.cons_append]; exact (none_heap fl h).noneCh
theorem none_slots:∀ (fl:List (Nat × Nat × FO)),slotsF fl (fl.map (fun _=>none))=[]
  | []=>rfl
  | (i,d,o)::fl=>by simp only [List.map_cons,slotsF]; exact none_slots fl
theorem none_set:∀ (fl:List (Nat × Nat × FO)) (ls:List Bool),setB ls fl (fl.map (fun _=>none))=ls
  | [],_=>by simp [setB]
  | (i,d,o)::fl,ls=>by simp only [List.map_cons,setB]; exact none_set fl ls
theorem none_und:∀ (fl:List (Nat × Nat × FO)),und (fl.map (fun _=>none))=fl.length
  | []=>rfl
  | _::fl=>by simp only [List.map_cons,und,List.length_cons]; rw [none_und fl]
theorem DrF.start (fl:List (Nat × Nat × FO)) (hn:Nat.beq (n+fl.length) m=true) (k:DrF F S H0 w0 p es T T2 bs fl n ls L H cs):DrH F S H0 w0 p es T T2 bs m ls L H cs:=by
  have hn:=Nat.eq_of_beq_eq_true hn
  subst hn
  intro hl w hh a hf
  have k:=k (fl.map (fun _=>none)) (by simp) hl w (none_heap fl hh) a (by rw [none_slots]; simpa using hf)
  rw [none_und,none_set] at k
  exact k
def flLev (bs:List Nat) (fl:List (Nat × Nat × FO)):Bool:=fl.all (fun q=>Nat.beq (bs.getD q.1 0) 0)
theorem float_step (hbs:flLev bs fl=true) {dn:List (Option Nat)} {Q:Exit→Act→World→Prop} {w:World} {a:Act} (hlen:dn.length=fl.length) (hu:Undone fl dn j) (hfl:FlOk F p L fl) (hd:noKeys L fl=true) (hT:∀ w,Heap H w0 w cs→T w∧T2 w)
    (hh:Heap H w0 w (chunksF fl dn++cs)) (hf:Fr F.N a (L++slotsF fl dn)) (k:Nat)
    (ih:∀ dn',dn'.length=fl.length→und dn'+1=und dn→∀ w,Heap H w0 w (chunksF fl dn'++cs)→∀ a,Fr F.N a (L++slotsF fl dn')→wpAnyB F.P .any (opsAt F.c p) Q (Sx T T2 bs) k (setB ls fl dn').toArray a w) :
    wpOp F.P (opsAt F.c p) Q j (fun a' w'=>Sx T T2 bs j w w'∧wpAnyB F.P .any (opsAt F.c p) Q (Sx T T2 bs) k ((setB ls fl dn).toArray.setIfInBounds j true) a' w') a w:=by
  obtain ⟨FA,d,o,FB,A,B,h1,h2,h3⟩:=hu
  have hnew:=hfl.at h1
  obtain ⟨n1,n2,n3⟩:=noKeys_spec hd h1
  refine (DoesH.mk (F:=F) (p:=p) (i:=j) (w0:=w0) (L:=L++slotsF fl dn) (H:=H) (cs:=chunksF fl dn++cs) (d:=d) (o:=o) (hnew _) w hh).wpOp hf ?_
  rintro _ w' a' ⟨H',cs',hl',hh',g,rfl,rfl,rfl⟩ hf'
  have hdrop:Heap H w0 w' cs:=by
    have:=hh'.drop ((chunksF fl dn).length+1)
    simpa using this
  obtain ⟨t1,t2⟩:=hT w' hdrop
  have hj0:bs.getD j 0=0:=by
    have:=List.all_eq_true.1 hbs (j,d,o) (by rw [h1]; simp)
    exact Nat.eq_of_beq_eq_true this
  refine ⟨⟨fun _=>t1,fun _=>t2,fun h=>by omega⟩,?_⟩
  have hAB:A.length+(B.length+1)=FA.length+(FB.length+1):=by
    rw [h1,h2] at hlen
    simpa using hlen
  have e1:setB ls fl (A++some g::B)=(setB ls fl dn).set j true:=by
    rw [h1,h2,setB_app _ _ _ _ _ h3,setB_app _ _ _ _ _ h3]
    simp only [setB]
    rw [setB_set]
  have e2:(setB ls fl dn).toArray.setIfInBounds j true=((setB ls fl dn).set j true).toArray:=by simp
  rw [e2,← e1]
  refine ih (A++some g::B) ?_ ?_ w' ?_ a' ?_
  · rw [h1]
    simp
    omega
  · rw [h2,und_app,und_app]
    simp only [und]
    omega
  · rw [h1,h2,chunksF_app _ _ _ _ h3] at hh'
    rw [h1,chunksF_app _ _ _ _ h3]
    simp only [chunksF,List.append_assoc,List.cons_append] at hh' ⊢
    exact hh'.place
  · rw [h1,h2,slotsF_app _ _ _ _ h3] at hf'
    rw [h1,slotsF_app _ _ _ _ h3]
    simp only [slotsF] at hf' ⊢
    exact Fr.place n1 n2 hf'
theorem DrF.does (hbs:flLev bs fl=true) (i:Nat) {K:List Ch→Slots→Slots→Hp→List Ch→Prop} (hfl:FlOk F p L fl) (hd:noKeys L fl=true) (hck:rdOk (opsAt F.c p) ls fl i=true) (hls:ls.set i true=ls') (hT:∀ w,Heap H w0 w cs→T w∧T2 w)
    (h:∀ chs E,chs.length=fl.length→DoesH F p i w0 (L++E) H (chs++cs) (K chs E))
    (k:∀ chs E L' H' cs',chs.length=fl.length→Le H H'→K chs E L' H' cs'→(∀ wb w,Heap H' w0 w cs'→Sx T T2 bs i wb w)∧∃ L1 cs1,L'=L1++E∧(∀ w,Heap H' w0 w cs'→Heap H' w0 w (chs++cs1))∧DrF F S H0 w0 p es T T2 bs fl n ls' L1 H' cs1) :
    DrF F S H0 w0 p es T T2 bs fl (n+1) ls L H cs:=by
  have key:∀ (u:Nat) (dn:List (Option Nat)),und dn=u→dn.length=fl.length→Le H0 H→∀ w,Heap H w0 w (chunksF fl dn++cs)→∀ a,Fr F.N a (L++slotsF fl dn) →
      wpAnyB F.P .any (opsAt F.c p) (fun e a w=>e=.normal∧Run F.P F.f (PostH S H0 w0) (es.map (En.item F.c)) a w) (Sx T T2 bs) (n+1+und dn) (setB ls fl dn).toArray a w:=by
    intro u
    induction u with
    | zero =>
      intro dn hu hlen hl w hh a hf
      have hck':=List.all_eq_true.1 hck _ (hlen ▸ mem_pats dn)
      rw [setB_zeroed] at hck'
      rw [Bool.and_eq_true] at hck'
      rw [show n+1+und dn=(n+und dn)+1 by omega]
      refine ⟨fun h0=>(by rw [h0] at hck'; simp at hck'),fun j hj=>?_⟩
      have hj':=List.all_eq_true.1 hck'.2 j hj
      rw [Bool.or_eq_true] at hj'
      rcases hj' with hj' | hj'
      · have:=Nat.eq_of_beq_eq_true hj'
        subst this
        refine (h _ (slotsF fl dn) (chunksF_len fl dn hlen) w hh).wpOp hf ?_
        rintro L' w' a' ⟨H',cs',hl',hh',hK⟩ hf'
        obtain ⟨hS,L1,cs1,rfl,hp,kk⟩:=k _ _ L' H' cs' (chunksF_len fl dn hlen) hl' hK
        refine ⟨hS w w' hh',?_⟩
        have:=kk dn hlen (hl.then hl') w' (hp w' hh') a' hf'
        rw [← hls,setB_set] at this
        simpa using this
      · obtain ⟨FA,d,o,FB,A,B,h1,h2,h3⟩:=undoneB_spec hj'
        rw [h2,und_app] at hu
        simp only [und] at hu
        omega
    | succ u ih =>
      intro dn hu hlen hl w hh a hf
      have hck':=List.all_eq_true.1 hck _ (hlen ▸ mem_pats dn)
      rw [setB_zeroed] at hck'
      rw [Bool.and_eq_true] at hck'
      rw [show n+1+und dn=(n+und dn)+1 by omega]
      refine ⟨fun h0=>(by rw [h0] at hck'; simp at hck'),fun j hj=>?_⟩
      have hj':=List.all_eq_true.1 hck'.2 j hj
      rw [Bool.or_eq_true] at hj'
      rcases hj' with hj' | hj'
      · have:=Nat.eq_of_beq_eq_true hj'
        subst this
        refine (h _ (slotsF fl dn) (chunksF_len fl dn hlen) w hh).wpOp hf ?_
        rintro L' w' a' ⟨H',cs',hl',hh',hK⟩ hf'
        obtain ⟨hS,L1,cs1,rfl,hp,kk⟩:=k _ _ L' H' cs' (chunksF_len fl dn hlen) hl' hK
        refine ⟨hS w w' hh',?_⟩
        have:=kk dn hlen (hl.then hl') w' (hp w' hh') a' hf'
        rw [← hls,setB_set] at this
        simpa using this
      · refine float_step hbs hlen (undoneB_spec hj') hfl hd hT hh hf _ (fun dn' l1 l2 w' hh' a' hf'=>?_)
        have:=ih dn' (by omega) l1 hl w' hh' a' hf'
        rwa [show n+1+und dn'=n+und dn by omega] at this
  intro dn hlen hl w hh a hf
  exact key _ dn rfl hlen hl w hh a hf
theorem DrF.close (hbs:flLev bs fl=true) (hfl:FlOk F p L fl) (hd:noKeys L fl=true) (hck:rdEnd (opsAt F.c p) ls fl=true) (hT:∀ w,Heap H w0 w cs→T w∧T2 w)
    (k:∀ dn:List (Option Nat),dn.length=fl.length→und dn=0→DrH F S H0 w0 p es T T2 bs n (setB ls fl dn) (L++slotsF fl dn) H (chunksF fl dn++cs)):DrF F S H0 w0 p es T T2 bs fl n ls L H cs:=by
  have key:∀ (u:Nat) (dn:List (Option Nat)),und dn=u→dn.length=fl.length→Le H0 H→∀ w,Heap H w0 w (chunksF fl dn++cs)→∀ a,Fr F.N a (L++slotsF fl dn) →
      wpAnyB F.P .any (opsAt F.c p) (fun e a w=>e=.normal∧Run F.P F.f (PostH S H0 w0) (es.map (En.item F.c)) a w) (Sx T T2 bs) (n+und dn) (setB ls fl dn).toArray a w:=by
    intro u
    induction u with
    | zero =>
      intro dn hu hlen hl w hh a hf
      rw [hu]
      exact k dn hlen hu hl w hh a hf
    | succ u ih =>
      intro dn hu hlen hl w hh a hf
      have hck':=List.all_eq_true.1 hck _ (hlen ▸ mem_pats dn)
      rw [setB_zeroed,und_zeroed,hu] at hck'
      have hck':(!(Region.ready .any (opsAt F.c p) (setB ls fl dn).toArray).isEmpty&&(Region.ready .any (opsAt F.c p) (setB ls fl dn).toArray).all (fun j=>undoneB fl (zeroed dn) j))=true:=hck'
      rw [Bool.and_eq_true] at hck'
      rw [show n+und dn=(n+u)+1 by omega]
      refine ⟨fun h0=>(by rw [h0] at hck'; simp at hck'),fun j hj=>?_⟩
      have hj':=List.all_eq_true.1 hck'.2 j hj
      refine float_step hbs hlen (undoneB_spec hj') hfl hd hT hh hf _ (fun dn' l1 l2 w' hh' a' hf'=>?_)
      have:=ih dn' (by omega) l1 hl w' hh' a' hf'
      rwa [show n+und dn'=n+u by omega] at this
  intro dn hlen hl w hh a hf
  exact key _ dn rfl hlen hl w hh a hf
def rdPart (ops:Array Oper) (ls:List Bool) (fl:List (Nat × Nat × FO)) (f:Nat × Nat × FO):Bool :=
  (pats fl.length).all fun b=>(!(Region.ready .any ops (setB ls (fl++[f]) (b++[none])).toArray).isEmpty&&(Region.ready .any ops (setB ls (fl++[f]) (b++[none])).toArray).all (fun j=>undoneB (fl++[f]) (b++[none]) j))
theorem zeroed_none (A:List (Option Nat)):zeroed (A++[none])=zeroed A++[none]:=by simp [zeroed]
theorem DrF.part {fs:List (Nat × Nat × FO)} (fl:List (Nat × Nat × FO)) (i d:Nat) (o:FO) (hfs:fl++[(i,d,o)]=fs) (hbs:flLev bs fs=true) (hfl:FlOk F p L fs) (hd:noKeys L fs=true) (hck:rdPart (opsAt F.c p) ls fl (i,d,o)=true) (hT:∀ w,Heap H w0 w cs→T w∧T2 w)
    (hls:ls.set i true=ls') (k:∀ g,DrF F S H0 w0 p es T T2 bs fl n ls' (L++[(d,vF o.1 g)]) H (some (g,o.2)::cs)):DrF F S H0 w0 p es T T2 bs fs n ls L H cs:=by
  subst hfs hls
  have key:∀ (u:Nat) (A:List (Option Nat)) (b:Option Nat),und (A++[b])=u→A.length=fl.length→Le H0 H→∀ w,Heap H w0 w (chunksF (fl++[(i,d,o)]) (A++[b])++cs)→∀ a,Fr F.N a (L++slotsF (fl++[(i,d,o)]) (A++[b])) →
      wpAnyB F.P .any (opsAt F.c p) (fun e a w=>e=.normal∧Run F.P F.f (PostH S H0 w0) (es.map (En.item F.c)) a w) (Sx T T2 bs) (n+und (A++[b])) (setB ls (fl++[(i,d,o)]) (A++[b])).toArray a w:=by
    intro u
    induction u with
    | zero =>
      intro A b hu hA hl w hh a hf
      cases b with
      | none=>rw [und_app] at hu; simp [und] at hu
      | some g =>
        obtain ⟨_,nk,_⟩:=noKeys_spec (FA:=fl) (FB:=[]) hd rfl
        rw [setB_app _ _ _ _ _ hA.symm,chunksF_app _ _ _ _ hA.symm] at *
        rw [slotsF_app _ _ _ _ hA.symm] at hf
        have k:=k g A hA hl w (by simpa [chunksF] using hh) a (Fr.turn (slotsF_key fl A d nk) (by simpa [slotsF] using hf))
        rw [und_app]
        simp only [setB,und,Nat.add_zero]
        rw [setB_set] at k
        exact k
    | succ u ih =>
      intro A b hu hA hl w hh a hf
      cases b with
      | some g =>
        obtain ⟨_,nk,_⟩:=noKeys_spec (FA:=fl) (FB:=[]) hd rfl
        rw [setB_app _ _ _ _ _ hA.symm]
        rw [chunksF_app _ _ _ _ hA.symm] at hh
        rw [slotsF_app _ _ _ _ hA.symm] at hf
        have k:=k g A hA hl w (by simpa [chunksF] using hh) a (Fr.turn (slotsF_key fl A d nk) (by simpa [slotsF] using hf))
        rw [und_app]
        simp only [setB,und,Nat.add_zero]
        rw [setB_set] at k
        exact k
      | none =>
        have hck':=List.all_eq_true.1 hck _ (hA ▸ mem_pats A)
        have hs:setB ls (fl++[(i,d,o)]) (zeroed A++[none])=setB ls (fl++[(i,d,o)]) (A++[none]):=by rw [← zeroed_none,setB_zeroed]
        rw [hs,Bool.and_eq_true] at hck'
        rw [hu,show n+(u+1)=(n+u)+1 by omega]
        refine ⟨fun h0=>(by rw [h0] at hck'; simp at hck'),fun j hj=>?_⟩
        have hj':=List.all_eq_true.1 hck'.2 j hj
        rw [← zeroed_none] at hj'
        refine float_step hbs (by simp [hA]) (undoneB_spec hj') hfl hd hT hh hf _ (fun dn' l1 l2 w' hh' a' hf'=>?_)
        have hne:dn'≠[]:=by intro h; rw [h] at l1; simp at l1
        have hdn:=List.dropLast_concat_getLast hne
        have hlen:dn'.dropLast.length=fl.length:=by rw [List.length_dropLast,l1]; simp
        have hun:und dn'=u:=by omega
        rw [← hdn] at hh' hf' hun ⊢
        have:=ih dn'.dropLast (dn'.getLast hne) hun hlen hl w' hh' a' hf'
        rwa [hun] at this
  intro dn hlen hl w hh a hf
  have hne:dn≠[]:=by intro h; rw [h] at hlen; simp at hlen
  have hdn:=List.dropLast_concat_getLast hne
  have hl2:dn.dropLast.length=fl.length:=by rw [List.length_dropLast,hlen]; simp
  rw [← hdn] at hh hf ⊢
  exact key _ dn.dropLast (dn.getLast hne) rfl hl2 hl w hh a hf
theorem fr_keep {N:Nat} {a:Act} {E:Slots} {ts:List Nat} (h:Fr N a (L++E)) (hk:keep L ts=some L') (hE:∀ t v,lk E t=some v→lk L t=none):Fr N a (L'++E):=by
  refine ⟨h.size,h.defers,fun t v hv=>h.has t v ?_⟩
  rw [lk_app] at hv ⊢
  cases h1:lk L' t with
  | some u =>
    rw [h1] at hv
    rw [keep_has hk t u h1]
    exact hv
  | none =>
    rw [h1] at hv
    have:=hE t v hv
    rw [this]
    exact hv
theorem slotsF_fresh:∀ {fl:List (Nat × Nat × FO)} {dn:List (Option Nat)} {L:Slots},noKeys L fl=true→∀ t v,lk (slotsF fl dn) t=some v→lk L t=none
  | [],dn,L,_,t,v,h=>by cases dn <;> simp [slotsF,lk] at h
  | _::_,[],L,_,t,v,h=>by simp [slotsF,lk] at h
  | (i,d,o)::fl,none::dn,L,hd,t,v,h=>by
    simp only [noKeys,Bool.and_eq_true,Bool.not_eq_true'] at hd
    exact slotsF_fresh hd.2 t v h
  | (i,d,o)::fl,some g::dn,L,hd,t,v,h=>by
    simp only [noKeys,Bool.and_eq_true,Bool.not_eq_true'] at hd
    simp only [slotsF,lk] at h
    cases hb:Nat.beq d t
    · rw [hb] at h
      exact slotsF_fresh hd.2 t v h
    · have:=Nat.eq_of_beq_eq_true hb
      subst this
      exact lk_none hd.1.1
theorem DrF.keep (ts:List Nat) (h:keep L ts=some L') (hd:noKeys L fl=true) (k:DrF F S H0 w0 p es T T2 bs fl n ls L' H cs):DrF F S H0 w0 p es T T2 bs fl n ls L H cs :=
  fun dn hlen hl w hh a hf=>k dn hlen hl w hh a (fr_keep hf h (slotsF_fresh hd))
theorem DrF.run (order:List Nat) {vs:List Value} {evs:List Ev} (hsel:Region.noSelect (opsAt F.c p)=true) (hT:∀ w,Heap H w0 w cs→T w) (hT2:∀ w,T w→T2 w)
    (h:∀ b∈pats fl.length,∀ E,runD F.P F.N (opsAt F.c p) bs true order (setB ls fl b) (L++E) vs=some (setB ls' fl b,L'++E,evs)) (hold:∀ w,T w→Hold w evs)
    (hnm:Nat.beq (order.length+m) n=true) (k:DrF F S H0 w0 p es T T2 bs fl m ls' L' H cs):DrF F S H0 w0 p es T T2 bs fl n ls L H cs:=by
  intro dn hlen
  have hnm:=Nat.eq_of_beq_eq_true hnm
  have hr:=h _ (hlen ▸ mem_pats dn) (slotsF fl dn)
  rw [setB_zeroed,setB_zeroed] at hr
  refine DrH.run order (m:=m+und dn) hsel (fun w hh=>hT w ?_) hT2 hr hold ?_ (k dn hlen)
  · have:=hh.drop (chunksF fl dn).length
    simpa using this
  · rw [show order.length+(m+und dn)=n+und dn by omega]
    exact Nat.beq_refl _
theorem pats1 {X:List (Option Nat)→Prop} (h0:X [none]) (h1:X [some 0]):∀ b∈pats 1,X b:=by
  intro b hb
  simp only [pats,List.map_cons,List.map_nil,List.cons_append,List.nil_append,List.mem_cons,List.not_mem_nil,or_false] at hb
  rcases hb with rfl | rfl
  · exact h0
  · exact h1
theorem DrF.does1 {f1:Nat × Nat × FO} (hbs:flLev bs [f1]=true) (i:Nat) {K:Ch→Slots→Slots→Hp→List Ch→Prop} (hfl:FlOk F p L [f1]) (hd:noKeys L [f1]=true) (hck:rdOk (opsAt F.c p) ls [f1] i=true) (hls:ls.set i true=ls') (hT:∀ w,Heap H w0 w cs→T w∧T2 w)
    (h:∀ c1 E,DoesH F p i w0 (L++E) H (c1::cs) (K c1 E))
    (k:∀ c1 E L' H' cs',Le H H'→K c1 E L' H' cs'→(∀ wb w,Heap H' w0 w cs'→Sx T T2 bs i wb w)∧∃ L1 cs1,L'=L1++E∧(∀ w,Heap H' w0 w cs'→Heap H' w0 w (c1::cs1))∧DrF F S H0 w0 p es T T2 bs [f1] n ls' L1 H' cs1) :
    DrF F S H0 w0 p es T T2 bs [f1] (n+1) ls L H cs:=by
  refine DrF.does hbs i (K:=fun chs E=>match chs with | [c1]=>K c1 E | _=>fun _ _ _=>False) hfl hd hck hls hT (fun chs E hlen=>?_) (fun chs E L' H' cs' hlen hl hK=>?_)
  · match chs,hlen with
    | [c1],_=>exact h c1 E
  · match chs,hlen,hK with
    | [c1],_,hK=>exact k c1 E L' H' cs' hl hK
theorem DrF.close1 {i1 d1:Nat} {o1:FO} (hbs:flLev bs [(i1,d1,o1)]=true) (hfl:FlOk F p L [(i1,d1,o1)]) (hd:noKeys L [(i1,d1,o1)]=true) (hck:rdEnd (opsAt F.c p) ls [(i1,d1,o1)]=true) (hls:ls.set i1 true=ls') (hT:∀ w,Heap H w0 w cs→T w∧T2 w)
    (k:∀ g1,DrH F S H0 w0 p es T T2 bs n ls' (L++[(d1,vF o1.1 g1)]) H (some (g1,o1.2)::cs)):DrF F S H0 w0 p es T T2 bs [(i1,d1,o1)] n ls L H cs:=by
  refine DrF.close hbs hfl hd hck hT (fun dn hlen hu=>?_)
  match dn,hlen,hu with
  | [some g1],_,_=>rw [← hls] at k; exact k g1
  | [none],_,hu=>simp [und] at hu
end
end Go.Proofs.YtedkdnhhohcocaaDoor.Kit
