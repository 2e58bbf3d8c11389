/- Words of our own: new blocks that are made at any time while a region's other operations go on. -/
import Derived.Test.YtiecpfnjmlidbaaGreatDoorKitQ
set_option linter.unusedSimpArgs false
set_option linter.unusedVariables false
set_option linter.unnecessarySimpa false
namespace Go.Proofs.YtiecpfnjmlidbaaGreatDoor.Kit
open Go Go.RowKit

/-! ### 37. Floating blocks -/
abbrev FO:=Option Nat × Obj
def vF:Option Nat→Nat→Value
  | none,g=>.pointer (some ⟨g,0,none⟩)
  | some n,g=>.slice (some ⟨g,0,none⟩) n n
def P5:List (Option Nat)→Nat
  | []=>0
  | none::r=>P5 r+1
  | some _::r=>P5 r
def O7:List Bool→List (Nat × Nat × FO)→List (Option Nat)→List Bool
  | ls,(i,_,_)::fl,some _::dn=>O7 (ls.set i true) fl dn
  | ls,_::fl,none::dn=>O7 ls fl dn
  | ls,_,_=>ls
def W6:List (Nat × Nat × FO)→List (Option Nat)→w7
  | (_,d,o)::fl,some g::dn=>(d,vF o.1 g)::W6 fl dn
  | _::fl,none::dn=>W6 fl dn
  | _,_=>[]
def ad9:List (Nat × Nat × FO)→List (Option Nat)→List Ch
  | (_,_,o)::fl,some g::dn=>some (g,o.2)::ad9 fl dn
  | _::fl,none::dn=>none::ad9 fl dn
  | _,_=>[]
theorem cH9 (ls:List Bool) (i j:Nat):(ls.set i true).set j true=(ls.set j true).set i true:=by
  by_cases h:i=j
  · subst h; rfl
  · exact List.set_comm _ _ h
theorem ba7:∀ (fl:List (Nat × Nat × FO)) (dn:List (Option Nat)) (ls:List Bool) (i:Nat),O7 (ls.set i true) fl dn=(O7 ls fl dn).set i true
  | [],_,_,_=>by simp [O7]
  | _::_,[],_,_=>by simp [O7]
  | (k,d,o)::fl,some g::dn,ls,i=>by simp only [O7]; rw [cH9,ba7 fl dn]
  | (k,d,o)::fl,none::dn,ls,i=>by simp only [O7]; rw [ba7 fl dn]
def cf2 (fl:List (Nat × Nat × FO)) (dn:List (Option Nat)) (j:Nat):Prop :=
  ∃ FA d o FB A B,fl=FA++(j,d,o)::FB∧dn=A++none::B∧FA.length=A.length
theorem aV6:∀ (A B:List (Option Nat)),P5 (A++B)=P5 A+P5 B
  | [],B=>by simp [P5]
  | none::A,B=>by simp [P5,aV6 A B]; omega
  | some _::A,B=>by simp [P5,aV6 A B]
theorem bf9:∀ (FA FB:List (Nat × Nat × FO)) (A B:List (Option Nat)) (ls:List Bool),FA.length=A.length→O7 ls (FA++FB) (A++B)=O7 (O7 ls FA A) FB B
  | [],FB,[],B,ls,_=>by simp [O7]
  | (i,d,o)::FA,FB,none::A,B,ls,h=>by simp only [List.cons_append,O7]; exact bf9 FA FB A B ls (by simpa using h)
  | (i,d,o)::FA,FB,some g::A,B,ls,h=>by simp only [List.cons_append,O7]; exact bf9 FA FB A B _ (by simpa using h)
theorem bg0:∀ (FA FB:List (Nat × Nat × FO)) (A B:List (Option Nat)),FA.length=A.length→W6 (FA++FB) (A++B)=W6 FA A++W6 FB B
  | [],FB,[],B,_=>by simp [W6]
  | (i,d,o)::FA,FB,none::A,B,h=>by simp only [List.cons_append,W6]; exact bg0 FA FB A B (by simpa using h)
  | (i,d,o)::FA,FB,some g::A,B,h=>by simp only [List.cons_append,W6]; rw [bg0 FA FB A B (by simpa using h)]
theorem bg1:∀ (FA FB:List (Nat × Nat × FO)) (A B:List (Option Nat)),FA.length=A.length→ad9 (FA++FB) (A++B)=ad9 FA A++ad9 FB B
  | [],FB,[],B,_=>by simp [ad9]
  | (i,d,o)::FA,FB,none::A,B,h=>by simp only [List.cons_append,ad9]; rw [bg1 FA FB A B (by simpa using h)]
  | (i,d,o)::FA,FB,some g::A,B,h=>by simp only [List.cons_append,ad9]; rw [bg1 FA FB A B (by simpa using h)]
theorem bg2:∀ (fl:List (Nat × Nat × FO)) (dn:List (Option Nat)),dn.length=fl.length→(ad9 fl dn).length=fl.length
  | [],[],_=>rfl
  | _::fl,none::dn,h=>by simp only [ad9,List.length_cons]; rw [bg2 fl dn (by simpa using h)]
  | (_,_,_)::fl,some g::dn,h=>by simp only [ad9,List.length_cons]; rw [bg2 fl dn (by simpa using h)]
theorem Heap.place {H:Hp} {w0 w:World} {c:Ch} {X Y:List Ch} (h:Heap H w0 w (c::(X++none::Y))):Heap H w0 w (X++c::Y):=by
  refine h.re (fun i=>if i=X.length then 0 else i+1) (fun i j _ _ e=>?_) (fun i q hq=>?_)
  · by_cases h1:i=X.length <;> by_cases h2:j=X.length <;> simp [h1,h2] at e <;> omega
  · by_cases h1:i=X.length
    · subst h1
      simp at hq
      simp [hq]
    · simp only [h1,if_false,List.getElem?_cons_succ]
      rcases Nat.lt_or_gt_of_ne h1 with hlt | hgt
      · rw [List.getElem?_append_left hlt] at hq ⊢
        exact hq
      · rw [List.getElem?_append_right (by omega)] at hq ⊢
        obtain ⟨m,hm⟩:∃ m,i - X.length=m+1:=⟨i - X.length - 1,by omega⟩
        rw [hm] at hq ⊢
        simpa using hq
def aN8 (L:w7) (d:Nat):Bool:=L.any (fun p=>Nat.beq p.1 d)
def ay5 (L:w7):List (Nat × Nat × FO)→Bool
  | []=>true
  | (_,d,_)::fl=>!aN8 L d&&!(fl.any (fun p=>Nat.beq p.2.1 d))&&ay5 L fl
theorem aN9:∀ (L E:w7) (t:Nat),lk (L++E) t=(match lk L t with | some v=>some v | none=>lk E t)
  | [],E,t=>by simp [lk]
  | (i,v)::L,E,t=>by
    simp only [List.cons_append,lk]
    cases Nat.beq i t
    · exact aN9 L E t
    · rfl
theorem bn9:∀ {L:w7} {t:Nat},aN8 L t=false→lk L t=none
  | [],_,_=>rfl
  | (i,v)::L,t,h=>by
    simp only [aN8,List.any_cons,Bool.or_eq_false_iff] at h
    simp only [lk,h.1]
    exact bn9 h.2
theorem bo0:∀ (fl:List (Nat × Nat × FO)) (dn:List (Option Nat)) (d:Nat),fl.any (fun p=>Nat.beq p.2.1 d)=false→aN8 (W6 fl dn) d=false
  | [],_,_,_=>by simp [W6,aN8]
  | _::_,[],_,_=>by simp [W6,aN8]
  | (i,e,o)::fl,none::dn,d,h=>by
    simp only [List.any_cons,Bool.or_eq_false_iff] at h
    exact bo0 fl dn d h.2
  | (i,e,o)::fl,some g::dn,d,h=>by
    simp only [List.any_cons,Bool.or_eq_false_iff] at h
    have:=bo0 fl dn d h.2
    simp only [W6,aN8,List.any_cons,Bool.or_eq_false_iff] at this ⊢
    exact ⟨h.1,this⟩
theorem bA5:∀ {fl:List (Nat × Nat × FO)} {L:w7} {FA FB:List (Nat × Nat × FO)} {j d:Nat} {o:FO},ay5 L fl=true→fl=FA++(j,d,o)::FB→aN8 L d=false∧FA.any (fun p=>Nat.beq p.2.1 d)=false∧FB.any (fun p=>Nat.beq p.2.1 d)=false
  | [],_,FA,_,_,_,_,_,he=>by cases FA <;> simp at he
  | (i,e,o')::fl,L,[],FB,j,d,o,h,he=>by
    simp only [List.nil_append,List.cons.injEq,Prod.mk.injEq] at he
    obtain ⟨⟨rfl,rfl,rfl⟩,rfl⟩:=he
    simp only [ay5,Bool.and_eq_true,Bool.not_eq_true'] at h
    exact ⟨h.1.1,rfl,h.1.2⟩
  | (i,e,o')::fl,L,x::FA,FB,j,d,o,h,he=>by
    simp only [List.cons_append,List.cons.injEq] at he
    obtain ⟨rfl,rfl⟩:=he
    simp only [ay5,Bool.and_eq_true,Bool.not_eq_true'] at h
    obtain ⟨h1,h2,h3⟩:=bA5 h.2 rfl
    refine ⟨h1,?_,h3⟩
    have h4:=h.1.2
    simp only [List.any_append,List.any_cons,Bool.or_eq_false_iff] at h4
    have h5:Nat.beq e d=false:=by
      have:=h4.2.1
      cases hc:Nat.beq e d
      · rfl
      · have:=Nat.eq_of_beq_eq_true hc
        subst this
        rw [Nat.beq_refl] at this
        simp_all
    simp only [List.any_cons,h5,h2,Bool.or_self]
theorem Fr.place {N:Nat} {a:Act} {L:w7} {FA FB:List (Nat × Nat × FO)} {A B:List (Option Nat)} {d:Nat} {v:Value} (h1:aN8 L d=false) (h2:FA.any (fun p=>Nat.beq p.2.1 d)=false)
    (h:Fr N a ((d,v)::(L++(W6 FA A++W6 FB B)))):Fr N a (L++(W6 FA A++(d,v)::W6 FB B)):=by
  refine ⟨h.size,h.defers,fun t u hu=>h.has t u ?_⟩
  have e1:=bn9 h1
  have e2:=bn9 (bo0 FA A d h2)
  rw [aN9,aN9] at hu
  simp only [lk] at hu ⊢
  rw [aN9,aN9]
  cases hb:Nat.beq d t
  · rw [hb] at hu
    exact hu
  · have:=Nat.eq_of_beq_eq_true hb
    subst this
    rw [e1,e2,Nat.beq_refl] at hu
    exact hu
theorem Fr.turn {N:Nat} {a:Act} {L X:w7} {d:Nat} {v:Value} (hx:aN8 X d=false) (h:Fr N a (L++(X++[(d,v)]))):Fr N a (L++[(d,v)]++X):=by
  refine ⟨h.size,h.defers,fun t u hu=>h.has t u ?_⟩
  have e2:=bn9 hx
  rw [List.append_assoc,aN9,aN9] at hu
  rw [aN9,aN9]
  simp only [lk] at hu ⊢
  cases hb:Nat.beq d t
  · rw [hb] at hu
    cases h1:lk L t with
    | some u'=>rw [h1] at hu; exact hu
    | none =>
      rw [h1] at hu
      have hu':lk X t=some u:=by simpa using hu
      rw [hu']
  · have:=Nat.eq_of_beq_eq_true hb
    subst this
    rw [Nat.beq_refl] at hu
    cases h1:lk L d with
    | some u'=>rw [h1] at hu; exact hu
    | none =>
      rw [h1] at hu
      rw [e2]
      exact hu
def aJ8 (F:Ctx) (p:List Nat) (L:w7):List (Nat × Nat × FO)→Prop
  | []=>True
  | (i,d,o)::r=>(∀ E g,newAt F.P F.N (s9 F.c p) i (L++E) g=some (some d,vF o.1 g,o.2))∧aJ8 F p L r
theorem aJ8.at {F:Ctx} {p:List Nat} {L:w7}:∀ {fl FA FB:List (Nat × Nat × FO)} {i d:Nat} {o:FO},aJ8 F p L fl→fl=FA++(i,d,o)::FB→∀ E g,newAt F.P F.N (s9 F.c p) i (L++E) g=some (some d,vF o.1 g,o.2)
  | [],FA,_,_,_,_,_,he=>by cases FA <;> simp at he
  | (i',d',o')::fl,[],FB,i,d,o,h,he=>by
    simp only [List.nil_append,List.cons.injEq,Prod.mk.injEq] at he
    obtain ⟨⟨rfl,rfl,rfl⟩,rfl⟩:=he
    exact h.1
  | (i',d',o')::fl,x::FA,FB,i,d,o,h,he=>by
    simp only [List.cons_append,List.cons.injEq] at he
    obtain ⟨_,rfl⟩:=he
    exact aJ8.at h.2 rfl
def aw9 (dn:List (Option Nat)):List (Option Nat):=dn.map (Option.map (fun _=>0))
theorem aV7:∀ (fl:List (Nat × Nat × FO)) (dn:List (Option Nat)) (ls:List Bool),O7 ls fl (aw9 dn)=O7 ls fl dn
  | [],_,_=>by simp [O7]
  | _::_,[],_=>by simp [O7,aw9]
  | (i,d,o)::fl,none::dn,ls=>aV7 fl dn ls
  | (i,d,o)::fl,some g::dn,ls=>aV7 fl dn _
def pats:Nat→List (List (Option Nat))
  | 0=>[[]]
  | n+1=>(pats n).map (none::·)++(pats n).map (some 0::·)
theorem ba8:∀ (dn:List (Option Nat)),aw9 dn∈pats dn.length
  | []=>by simp [aw9,pats]
  | none::dn=>by simp only [List.length_cons,pats,List.mem_append]; exact .inl (List.mem_map.2 ⟨_,ba8 dn,rfl⟩)
  | some g::dn=>by simp only [List.length_cons,pats,List.mem_append]; exact .inr (List.mem_map.2 ⟨_,ba8 dn,rfl⟩)
def aJ9:List (Nat × Nat × FO)→List (Option Nat)→Nat→Bool
  | (i,_,_)::fl,none::dn,j=>Nat.beq i j||aJ9 fl dn j
  | _::fl,some _::dn,j=>aJ9 fl dn j
  | _,_,_=>false
theorem bg3:∀ {fl:List (Nat × Nat × FO)} {dn:List (Option Nat)} {j:Nat},aJ9 fl (aw9 dn) j=true→cf2 fl dn j
  | [],_,_,h=>by simp [aJ9] at h
  | _::_,[],_,h=>by simp [aJ9,aw9] at h
  | (i,d,o)::fl,none::dn,j,h=>by
    have h:(Nat.beq i j||aJ9 fl (aw9 dn) j)=true:=h
    rw [Bool.or_eq_true] at h
    rcases h with h | h
    · have:=Nat.eq_of_beq_eq_true h
      subst this
      exact ⟨[],d,o,fl,[],dn,rfl,rfl,rfl⟩
    · obtain ⟨FA,d',o',FB,A,B,h1,h2,h3⟩:=bg3 h
      exact ⟨(i,d,o)::FA,d',o',FB,none::A,B,by rw [h1]; rfl,by rw [h2]; rfl,by simp [h3]⟩
  | (i,d,o)::fl,some g::dn,j,h=>by
    have h:aJ9 fl (aw9 dn) j=true:=h
    obtain ⟨FA,d',o',FB,A,B,h1,h2,h3⟩:=bg3 h
    exact ⟨(i,d,o)::FA,d',o',FB,some g::A,B,by rw [h1]; rfl,by rw [h2]; rfl,by simp [h3]⟩
def cf3 (ops:Array Oper) (ls:List Bool) (fl:List (Nat × Nat × FO)) (i:Nat):Bool :=
  (pats fl.length).all fun b=>(Region.ready .any ops (O7 ls fl b).toArray).contains i&&(Region.ready .any ops (O7 ls fl b).toArray).all (fun j=>Nat.beq j i||aJ9 fl b j)
def bO1 (ops:Array Oper) (ls:List Bool) (fl:List (Nat × Nat × FO)):Bool :=
  (pats fl.length).all fun b=>Nat.beq (P5 b) 0||(!(Region.ready .any ops (O7 ls fl b).toArray).isEmpty&&(Region.ready .any ops (O7 ls fl b).toArray).all (fun j=>aJ9 fl b j))
theorem bO2:∀ (dn:List (Option Nat)),P5 (aw9 dn)=P5 dn
  | []=>rfl
  | none::dn=>by simp only [aw9,List.map_cons,Option.map_none,P5]; rw [← bO2 dn]; rfl
  | some g::dn=>by simp only [aw9,List.map_cons,Option.map_some,P5]; rw [← bO2 dn]; rfl
def X0 (F:Ctx) (S:Value→Hp→List Ch→Prop) (H0:Hp) (w0:World) (p:List Nat) (es:List En) (T T2:World→Prop) (bs:List Nat) (fl:List (Nat × Nat × FO)) (n:Nat) (ls:List Bool) (L:w7) (H:Hp) (cs:List Ch):Prop :=
  ∀ dn:List (Option Nat),dn.length=fl.length→o5 F S H0 w0 p es T T2 bs (n+P5 dn) (O7 ls fl dn) (L++W6 fl dn) H (ad9 fl dn++cs)
section
variable {F:Ctx} {S:Value→Hp→List Ch→Prop} {H0 H:Hp} {w0:World} {es es':List En} {L L':w7} {cs cs':List Ch} {p:List Nat} {i j n m:Nat} {T T2:World→Prop} {bs:List Nat} {ls ls':List Bool} {fl:List (Nat × Nat × FO)}
theorem cf4 {w:World}:∀ (fl:List (Nat × Nat × FO)),Heap H w0 w cs→Heap H w0 w (ad9 fl (fl.map (fun _=>none))++cs)
  | [],h=>by simpa [ad9] using h
  | (i,d,o)::fl,h=>by simp only [List.map_cons,ad9,List.cons_append]; exact (cf4 fl h).cd4
theorem cf5:∀ (fl:List (Nat × Nat × FO)),W6 fl (fl.map (fun _=>none))=[]
  | []=>rfl
  | (i,d,o)::fl=>by simp only [List.map_cons,W6]; exact cf5 fl
theorem cf6:∀ (fl:List (Nat × Nat × FO)) (ls:List Bool),O7 ls fl (fl.map (fun _=>none))=ls
  | [],_=>by simp [O7]
  | (i,d,o)::fl,ls=>by simp only [List.map_cons,O7]; exact cf6 fl ls
theorem cf7:∀ (fl:List (Nat × Nat × FO)),P5 (fl.map (fun _=>none))=fl.length
  | []=>rfl
  | _::fl=>by simp only [List.map_cons,P5,List.length_cons]; rw [cf7 fl]
theorem X0.start (fl:List (Nat × Nat × FO)) (hn:Nat.beq (n+fl.length) m=true) (k:X0 F S H0 w0 p es T T2 bs fl n ls L H cs):o5 F S H0 w0 p es T T2 bs m ls L H cs:=by
  have hn:=Nat.eq_of_beq_eq_true hn
  subst hn
  intro hl w hh a hf
  have k:=k (fl.map (fun _=>none)) (by simp) hl w (cf4 fl hh) a (by rw [cf5]; simpa using hf)
  rw [cf7,cf6] at k
  exact k
def ba9 (bs:List Nat) (fl:List (Nat × Nat × FO)):Bool:=fl.all (fun q=>Nat.beq (bs.getD q.1 0) 0)
theorem bO3 (hbs:ba9 bs fl=true) {dn:List (Option Nat)} {Q:Exit→Act→World→Prop} {w:World} {a:Act} (hlen:dn.length=fl.length) (hu:cf2 fl dn j) (hfl:aJ8 F p L fl) (hd:ay5 L fl=true) (hT:∀ w,Heap H w0 w cs→T w∧T2 w)
    (hh:Heap H w0 w (ad9 fl dn++cs)) (hf:Fr F.N a (L++W6 fl dn)) (k:Nat)
    (ih:∀ dn',dn'.length=fl.length→P5 dn'+1=P5 dn→∀ w,Heap H w0 w (ad9 fl dn'++cs)→∀ a,Fr F.N a (L++W6 fl dn')→ay4 F.P .any (s9 F.c p) Q (Sx T T2 bs) k (O7 ls fl dn').toArray a w) :
    wpOp F.P (s9 F.c p) Q j (fun a' w'=>Sx T T2 bs j w w'∧ay4 F.P .any (s9 F.c p) Q (Sx T T2 bs) k ((O7 ls fl dn).toArray.setIfInBounds j true) a' w') a w:=by
  obtain ⟨FA,d,o,FB,A,B,h1,h2,h3⟩:=hu
  have hnew:=hfl.at h1
  obtain ⟨n1,n2,cI1⟩:=bA5 hd h1
  refine (j6.new (F:=F) (p:=p) (i:=j) (w0:=w0) (L:=L++W6 fl dn) (H:=H) (cs:=ad9 fl dn++cs) (d:=d) (v:=fun g=>vF o.1 g) (o:=fun _=>o.2) (fun g=>hnew _ g) w hh).wpOp hf ?_
  rintro _ w' a' ⟨H',cs',hl',Z4,g,rfl,rfl,rfl⟩ hf'
  have bo1:Heap H w0 w' cs:=by
    have:=Z4.drop ((ad9 fl dn).length+1)
    simpa using this
  obtain ⟨t1,t2⟩:=hT w' bo1
  have hj0:bs.getD j 0=0:=by
    have:=List.all_eq_true.1 hbs (j,d,o) (by rw [h1]; simp)
    exact Nat.eq_of_beq_eq_true this
  refine ⟨⟨fun _=>t1,fun _=>t2,fun h=>by omega⟩,?_⟩
  have hAB:A.length+(B.length+1)=FA.length+(FB.length+1):=by
    rw [h1,h2] at hlen
    simpa using hlen
  have e1:O7 ls fl (A++some g::B)=(O7 ls fl dn).set j true:=by
    rw [h1,h2,bf9 _ _ _ _ _ h3,bf9 _ _ _ _ _ h3]
    simp only [O7]
    rw [ba7]
  have e2:(O7 ls fl dn).toArray.setIfInBounds j true=((O7 ls fl dn).set j true).toArray:=by simp
  rw [e2,← e1]
  refine ih (A++some g::B) ?_ ?_ w' ?_ a' ?_
  · rw [h1]
    simp
    omega
  · rw [h2,aV6,aV6]
    simp only [P5]
    omega
  · rw [h1,h2,bg1 _ _ _ _ h3] at Z4
    rw [h1,bg1 _ _ _ _ h3]
    simp only [ad9,List.append_assoc,List.cons_append] at Z4 ⊢
    exact Z4.place
  · rw [h1,h2,bg0 _ _ _ _ h3] at hf'
    rw [h1,bg0 _ _ _ _ h3]
    simp only [W6] at hf' ⊢
    exact Fr.place n1 n2 hf'
theorem X0.e5 (hbs:ba9 bs fl=true) (i:Nat) {K:List Ch→w7→w7→Hp→List Ch→Prop} (hfl:aJ8 F p L fl) (hd:ay5 L fl=true) (hck:cf3 (s9 F.c p) ls fl i=true) (hls:ls.set i true=ls') (hT:∀ w,Heap H w0 w cs→T w∧T2 w)
    (h:∀ chs E,chs.length=fl.length→j6 F p i w0 (L++E) H (chs++cs) (K chs E))
    (k:∀ chs E L' H' cs',chs.length=fl.length→Le H H'→K chs E L' H' cs'→(∀ wb w,Heap H' w0 w cs'→Sx T T2 bs i wb w)∧∃ ac5 I1,L'=ac5++E∧(∀ w,Heap H' w0 w cs'→Heap H' w0 w (chs++I1))∧X0 F S H0 w0 p es T T2 bs fl n ls' ac5 H' I1) :
    X0 F S H0 w0 p es T T2 bs fl (n+1) ls L H cs:=by
  have key:∀ (u:Nat) (dn:List (Option Nat)),P5 dn=u→dn.length=fl.length→Le H0 H→∀ w,Heap H w0 w (ad9 fl dn++cs)→∀ a,Fr F.N a (L++W6 fl dn) →
      ay4 F.P .any (s9 F.c p) (fun e a w=>e=.normal∧T5 F.P F.f (ba2 S H0 w0) (es.map (En.item F.c)) a w) (Sx T T2 bs) (n+1+P5 dn) (O7 ls fl dn).toArray a w:=by
    intro u
    induction u with
    | zero =>
      intro dn hu hlen hl w hh a hf
      have ah9:=List.all_eq_true.1 hck _ (hlen ▸ ba8 dn)
      rw [aV7] at ah9
      rw [Bool.and_eq_true] at ah9
      rw [show n+1+P5 dn=(n+P5 dn)+1 by omega]
      refine ⟨fun h0=>(by rw [h0] at ah9; simp at ah9),fun j hj=>?_⟩
      have hj':=List.all_eq_true.1 ah9.2 j hj
      rw [Bool.or_eq_true] at hj'
      rcases hj' with hj' | hj'
      · have:=Nat.eq_of_beq_eq_true hj'
        subst this
        refine (h _ (W6 fl dn) (bg2 fl dn hlen) w hh).wpOp hf ?_
        rintro L' w' a' ⟨H',cs',hl',Z4,hK⟩ hf'
        obtain ⟨hS,ac5,I1,rfl,hp,kk⟩:=k _ _ L' H' cs' (bg2 fl dn hlen) hl' hK
        refine ⟨hS w w' Z4,?_⟩
        have:=kk dn hlen (hl.then hl') w' (hp w' Z4) a' hf'
        rw [← hls,ba7] at this
        simpa using this
      · obtain ⟨FA,d,o,FB,A,B,h1,h2,h3⟩:=bg3 hj'
        rw [h2,aV6] at hu
        simp only [P5] at hu
        omega
    | succ u ih =>
      intro dn hu hlen hl w hh a hf
      have ah9:=List.all_eq_true.1 hck _ (hlen ▸ ba8 dn)
      rw [aV7] at ah9
      rw [Bool.and_eq_true] at ah9
      rw [show n+1+P5 dn=(n+P5 dn)+1 by omega]
      refine ⟨fun h0=>(by rw [h0] at ah9; simp at ah9),fun j hj=>?_⟩
      have hj':=List.all_eq_true.1 ah9.2 j hj
      rw [Bool.or_eq_true] at hj'
      rcases hj' with hj' | hj'
      · have:=Nat.eq_of_beq_eq_true hj'
        subst this
        refine (h _ (W6 fl dn) (bg2 fl dn hlen) w hh).wpOp hf ?_
        rintro L' w' a' ⟨H',cs',hl',Z4,hK⟩ hf'
        obtain ⟨hS,ac5,I1,rfl,hp,kk⟩:=k _ _ L' H' cs' (bg2 fl dn hlen) hl' hK
        refine ⟨hS w w' Z4,?_⟩
        have:=kk dn hlen (hl.then hl') w' (hp w' Z4) a' hf'
        rw [← hls,ba7] at this
        simpa using this
      · refine bO3 hbs hlen (bg3 hj') hfl hd hT hh hf _ (fun dn' l1 l2 w' Z4 a' hf'=>?_)
        have:=ih dn' (by omega) l1 hl w' Z4 a' hf'
        rwa [show n+1+P5 dn'=n+P5 dn by omega] at this
  intro dn hlen hl w hh a hf
  exact key _ dn rfl hlen hl w hh a hf
theorem X0.close (hbs:ba9 bs fl=true) (hfl:aJ8 F p L fl) (hd:ay5 L fl=true) (hck:bO1 (s9 F.c p) ls fl=true) (hT:∀ w,Heap H w0 w cs→T w∧T2 w)
    (k:∀ dn:List (Option Nat),dn.length=fl.length→P5 dn=0→o5 F S H0 w0 p es T T2 bs n (O7 ls fl dn) (L++W6 fl dn) H (ad9 fl dn++cs)):X0 F S H0 w0 p es T T2 bs fl n ls L H cs:=by
  have key:∀ (u:Nat) (dn:List (Option Nat)),P5 dn=u→dn.length=fl.length→Le H0 H→∀ w,Heap H w0 w (ad9 fl dn++cs)→∀ a,Fr F.N a (L++W6 fl dn) →
      ay4 F.P .any (s9 F.c p) (fun e a w=>e=.normal∧T5 F.P F.f (ba2 S H0 w0) (es.map (En.item F.c)) a w) (Sx T T2 bs) (n+P5 dn) (O7 ls fl dn).toArray a w:=by
    intro u
    induction u with
    | zero =>
      intro dn hu hlen hl w hh a hf
      rw [hu]
      exact k dn hlen hu hl w hh a hf
    | succ u ih =>
      intro dn hu hlen hl w hh a hf
      have ah9:=List.all_eq_true.1 hck _ (hlen ▸ ba8 dn)
      rw [aV7,bO2,hu] at ah9
      have ah9:(!(Region.ready .any (s9 F.c p) (O7 ls fl dn).toArray).isEmpty&&(Region.ready .any (s9 F.c p) (O7 ls fl dn).toArray).all (fun j=>aJ9 fl (aw9 dn) j))=true:=ah9
      rw [Bool.and_eq_true] at ah9
      rw [show n+P5 dn=(n+u)+1 by omega]
      refine ⟨fun h0=>(by rw [h0] at ah9; simp at ah9),fun j hj=>?_⟩
      have hj':=List.all_eq_true.1 ah9.2 j hj
      refine bO3 hbs hlen (bg3 hj') hfl hd hT hh hf _ (fun dn' l1 l2 w' Z4 a' hf'=>?_)
      have:=ih dn' (by omega) l1 hl w' Z4 a' hf'
      rwa [show n+P5 dn'=n+u by omega] at this
  intro dn hlen hl w hh a hf
  exact key _ dn rfl hlen hl w hh a hf
def cI2 (ops:Array Oper) (ls:List Bool) (fl:List (Nat × Nat × FO)) (f:Nat × Nat × FO):Bool :=
  (pats fl.length).all fun b=>(!(Region.ready .any ops (O7 ls (fl++[f]) (b++[none])).toArray).isEmpty&&(Region.ready .any ops (O7 ls (fl++[f]) (b++[none])).toArray).all (fun j=>aJ9 (fl++[f]) (b++[none]) j))
theorem cf8 (A:List (Option Nat)):aw9 (A++[none])=aw9 A++[none]:=by simp [aw9]
theorem X0.part {fs:List (Nat × Nat × FO)} (fl:List (Nat × Nat × FO)) (i d:Nat) (o:FO) (hfs:fl++[(i,d,o)]=fs) (hbs:ba9 bs fs=true) (hfl:aJ8 F p L fs) (hd:ay5 L fs=true) (hck:cI2 (s9 F.c p) ls fl (i,d,o)=true) (hT:∀ w,Heap H w0 w cs→T w∧T2 w)
    (hls:ls.set i true=ls') (k:∀ g,X0 F S H0 w0 p es T T2 bs fl n ls' (L++[(d,vF o.1 g)]) H (some (g,o.2)::cs)):X0 F S H0 w0 p es T T2 bs fs n ls L H cs:=by
  subst hfs hls
  have key:∀ (u:Nat) (A:List (Option Nat)) (b:Option Nat),P5 (A++[b])=u→A.length=fl.length→Le H0 H→∀ w,Heap H w0 w (ad9 (fl++[(i,d,o)]) (A++[b])++cs)→∀ a,Fr F.N a (L++W6 (fl++[(i,d,o)]) (A++[b])) →
      ay4 F.P .any (s9 F.c p) (fun e a w=>e=.normal∧T5 F.P F.f (ba2 S H0 w0) (es.map (En.item F.c)) a w) (Sx T T2 bs) (n+P5 (A++[b])) (O7 ls (fl++[(i,d,o)]) (A++[b])).toArray a w:=by
    intro u
    induction u with
    | zero =>
      intro A b hu hA hl w hh a hf
      cases b with
      | none=>rw [aV6] at hu; simp [P5] at hu
      | some g =>
        obtain ⟨_,nk,_⟩:=bA5 (FA:=fl) (FB:=[]) hd rfl
        rw [bf9 _ _ _ _ _ hA.symm,bg1 _ _ _ _ hA.symm] at *
        rw [bg0 _ _ _ _ hA.symm] at hf
        have k:=k g A hA hl w (by simpa [ad9] using hh) a (Fr.turn (bo0 fl A d nk) (by simpa [W6] using hf))
        rw [aV6]
        simp only [O7,P5,Nat.add_zero]
        rw [ba7] at k
        exact k
    | succ u ih =>
      intro A b hu hA hl w hh a hf
      cases b with
      | some g =>
        obtain ⟨_,nk,_⟩:=bA5 (FA:=fl) (FB:=[]) hd rfl
        rw [bf9 _ _ _ _ _ hA.symm]
        rw [bg1 _ _ _ _ hA.symm] at hh
        rw [bg0 _ _ _ _ hA.symm] at hf
        have k:=k g A hA hl w (by simpa [ad9] using hh) a (Fr.turn (bo0 fl A d nk) (by simpa [W6] using hf))
        rw [aV6]
        simp only [O7,P5,Nat.add_zero]
        rw [ba7] at k
        exact k
      | none =>
        have ah9:=List.all_eq_true.1 hck _ (hA ▸ ba8 A)
        have hs:O7 ls (fl++[(i,d,o)]) (aw9 A++[none])=O7 ls (fl++[(i,d,o)]) (A++[none]):=by rw [← cf8,aV7]
        rw [hs,Bool.and_eq_true] at ah9
        rw [hu,show n+(u+1)=(n+u)+1 by omega]
        refine ⟨fun h0=>(by rw [h0] at ah9; simp at ah9),fun j hj=>?_⟩
        have hj':=List.all_eq_true.1 ah9.2 j hj
        rw [← cf8] at hj'
        refine bO3 hbs (by simp [hA]) (bg3 hj') hfl hd hT hh hf _ (fun dn' l1 l2 w' Z4 a' hf'=>?_)
        have hne:dn'≠[]:=by intro h; rw [h] at l1; simp at l1
        have hdn:=List.dropLast_concat_getLast hne
        have hlen:dn'.dropLast.length=fl.length:=by rw [List.length_dropLast,l1]; simp
        have hun:P5 dn'=u:=by omega
        rw [← hdn] at Z4 hf' hun ⊢
        have:=ih dn'.dropLast (dn'.getLast hne) hun hlen hl w' Z4 a' hf'
        rwa [hun] at this
  intro dn hlen hl w hh a hf
  have hne:dn≠[]:=by intro h; rw [h] at hlen; simp at hlen
  have hdn:=List.dropLast_concat_getLast hne
  have hl2:dn.dropLast.length=fl.length:=by rw [List.length_dropLast,hlen]; simp
  rw [← hdn] at hh hf ⊢
  exact key _ dn.dropLast (dn.getLast hne) rfl hl2 hl w hh a hf
theorem cI3 {N:Nat} {a:Act} {E:w7} {ts:List Nat} (h:Fr N a (L++E)) (hk:keep L ts=some L') (hE:∀ t v,lk E t=some v→lk L t=none):Fr N a (L'++E):=by
  refine ⟨h.size,h.defers,fun t v hv=>h.has t v ?_⟩
  rw [aN9] at hv ⊢
  cases h1:lk L' t with
  | some u =>
    rw [h1] at hv
    rw [bL9 hk t u h1]
    exact hv
  | none =>
    rw [h1] at hv
    have:=hE t v hv
    rw [this]
    exact hv
theorem bO5:∀ {fl:List (Nat × Nat × FO)} {dn:List (Option Nat)} {L:w7},ay5 L fl=true→∀ t v,lk (W6 fl dn) t=some v→lk L t=none
  | [],dn,L,_,t,v,h=>by cases dn <;> simp [W6,lk] at h
  | _::_,[],L,_,t,v,h=>by simp [W6,lk] at h
  | (i,d,o)::fl,none::dn,L,hd,t,v,h=>by
    simp only [ay5,Bool.and_eq_true,Bool.not_eq_true'] at hd
    exact bO5 hd.2 t v h
  | (i,d,o)::fl,some g::dn,L,hd,t,v,h=>by
    simp only [ay5,Bool.and_eq_true,Bool.not_eq_true'] at hd
    simp only [W6,lk] at h
    cases hb:Nat.beq d t
    · rw [hb] at h
      exact bO5 hd.2 t v h
    · have:=Nat.eq_of_beq_eq_true hb
      subst this
      exact bn9 hd.1.1
theorem X0.keep (ts:List Nat) (h:keep L ts=some L') (hd:ay5 L fl=true) (k:X0 F S H0 w0 p es T T2 bs fl n ls L' H cs):X0 F S H0 w0 p es T T2 bs fl n ls L H cs :=
  fun dn hlen hl w hh a hf=>k dn hlen hl w hh a (cI3 hf h (bO5 hd))
theorem X0.run (order:List Nat) {vs:List Value} {G8:List Ev} (hsel:Region.noSelect (s9 F.c p)=true) (hT:∀ w,Heap H w0 w cs→T w) (hT2:∀ w,T w→T2 w)
    (h:∀ b∈pats fl.length,∀ E,aq4 F.P F.N (s9 F.c p) bs true order (O7 ls fl b) (L++E) vs=some (O7 ls' fl b,L'++E,G8)) (hold:∀ w,T w→V5 w G8)
    (hnm:Nat.beq (order.length+m) n=true) (k:X0 F S H0 w0 p es T T2 bs fl m ls' L' H cs):X0 F S H0 w0 p es T T2 bs fl n ls L H cs:=by
  intro dn hlen
  have hnm:=Nat.eq_of_beq_eq_true hnm
  have hr:=h _ (hlen ▸ ba8 dn) (W6 fl dn)
  rw [aV7,aV7] at hr
  refine o5.run order (m:=m+P5 dn) hsel (fun w hh=>hT w ?_) hT2 hr hold ?_ (k dn hlen)
  · have:=hh.drop (ad9 fl dn).length
    simpa using this
  · rw [show order.length+(m+P5 dn)=n+P5 dn by omega]
    exact Nat.beq_refl _
theorem cI4 {X:List (Option Nat)→Prop} (h0:X [none]) (h1:X [some 0]):∀ b∈pats 1,X b:=by
  intro b hb
  simp only [pats,List.map_cons,List.map_nil,List.cons_append,List.nil_append,List.mem_cons,List.not_mem_nil,or_false] at hb
  rcases hb with rfl | rfl
  · exact h0
  · exact h1
theorem X0.cI5 {f1:Nat × Nat × FO} (hbs:ba9 bs [f1]=true) (i:Nat) {K:Ch→w7→w7→Hp→List Ch→Prop} (hfl:aJ8 F p L [f1]) (hd:ay5 L [f1]=true) (hck:cf3 (s9 F.c p) ls [f1] i=true) (hls:ls.set i true=ls') (hT:∀ w,Heap H w0 w cs→T w∧T2 w)
    (h:∀ c1 E,j6 F p i w0 (L++E) H (c1::cs) (K c1 E))
    (k:∀ c1 E L' H' cs',Le H H'→K c1 E L' H' cs'→(∀ wb w,Heap H' w0 w cs'→Sx T T2 bs i wb w)∧∃ ac5 I1,L'=ac5++E∧(∀ w,Heap H' w0 w cs'→Heap H' w0 w (c1::I1))∧X0 F S H0 w0 p es T T2 bs [f1] n ls' ac5 H' I1) :
    X0 F S H0 w0 p es T T2 bs [f1] (n+1) ls L H cs:=by
  refine X0.e5 hbs i (K:=fun chs E=>match chs with | [c1]=>K c1 E | _=>fun _ _ _=>False) hfl hd hck hls hT (fun chs E hlen=>?_) (fun chs E L' H' cs' hlen hl hK=>?_)
  · match chs,hlen with
    | [c1],_=>exact h c1 E
  · match chs,hlen,hK with
    | [c1],_,hK=>exact k c1 E L' H' cs' hl hK
theorem X0.cI6 {i1 d1:Nat} {o1:FO} (hbs:ba9 bs [(i1,d1,o1)]=true) (hfl:aJ8 F p L [(i1,d1,o1)]) (hd:ay5 L [(i1,d1,o1)]=true) (hck:bO1 (s9 F.c p) ls [(i1,d1,o1)]=true) (hls:ls.set i1 true=ls') (hT:∀ w,Heap H w0 w cs→T w∧T2 w)
    (k:∀ g1,o5 F S H0 w0 p es T T2 bs n ls' (L++[(d1,vF o1.1 g1)]) H (some (g1,o1.2)::cs)):X0 F S H0 w0 p es T T2 bs [(i1,d1,o1)] n ls L H cs:=by
  refine X0.close hbs hfl hd hck hT (fun dn hlen hu=>?_)
  match dn,hlen,hu with
  | [some g1],_,_=>rw [← hls] at k; exact k g1
  | [none],_,hu=>simp [P5] at hu
theorem X0.cI7 {i1 d1 i2 d2:Nat} {o1 o2:FO} (hbs:ba9 bs [(i1,d1,o1),(i2,d2,o2)]=true) (hfl:aJ8 F p L [(i1,d1,o1),(i2,d2,o2)]) (hd:ay5 L [(i1,d1,o1),(i2,d2,o2)]=true) (hck:bO1 (s9 F.c p) ls [(i1,d1,o1),(i2,d2,o2)]=true) (hls:(ls.set i1 true).set i2 true=ls') (hT:∀ w,Heap H w0 w cs→T w∧T2 w)
    (k:∀ g1 g2,o5 F S H0 w0 p es T T2 bs n ls' (L++[(d1,vF o1.1 g1),(d2,vF o2.1 g2)]) H (some (g1,o1.2)::some (g2,o2.2)::cs)):X0 F S H0 w0 p es T T2 bs [(i1,d1,o1),(i2,d2,o2)] n ls L H cs:=by
  refine X0.close hbs hfl hd hck hT (fun dn hlen hu=>?_)
  match dn,hlen,hu with
  | [some g1,some g2],_,_=>rw [← hls] at k; exact k g1 g2
  | [none,some _],_,hu=>simp [P5] at hu
  | [some _,none],_,hu=>simp [P5] at hu
  | [none,none],_,hu=>simp [P5] at hu
end
end Go.Proofs.YtiecpfnjmlidbaaGreatDoor.Kit
