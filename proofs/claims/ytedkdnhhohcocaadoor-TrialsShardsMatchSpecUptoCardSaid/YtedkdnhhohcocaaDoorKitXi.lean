/- The steps of the walk in still fewer letters: what follows from what is there is found, and not written out. -/
import Derived.Test.YtedkdnhhohcocaaDoorKitX
set_option linter.unusedVariables false
namespace Go.Proofs.YtedkdnhhohcocaaDoor.Kit
open Go Go.RowKit
/-! ### 90. What is found by looking (each is checked by the kernel where it is used) -/
class NthI {α:Type} (l:List α) (i:Nat) (x:outParam α):Prop
instance (priority:=1100) NthI.at0 {α:Type} {x:α} {l:List α}:NthI (x::l) 0 x:=⟨⟩
instance NthI.next {α:Type} {x y:α} {l:List α} {i:Nat} [NthI l i x]:NthI (y::l) (i+1) x:=⟨⟩
class DropI (n:Nat) (l:List Ch) (l':outParam (List Ch)):Prop
instance (priority:=1100) DropI.at0 {l:List Ch}:DropI 0 l l:=⟨⟩
instance DropI.next {n:Nat} {x:Ch} {l l':List Ch} [DropI n l l']:DropI (n+1) (x::l) l':=⟨⟩
class PickI (n:Nat) (idx:List Nat) (l:List Ch) (l':outParam (List Ch)):Prop
instance PickI.at0 {n:Nat} {l l':List Ch} [DropI n l l']:PickI n [] l l':=⟨⟩
instance PickI.next {n i:Nat} {idx:List Nat} {x:Ch} {l l':List Ch} [NthI l i x] [PickI n idx l l']:PickI n (i::idx) l (x::l'):=⟨⟩
class SetI {α:Type} (l:List α) (k:Nat) (y:α) (l':outParam (List α)):Prop
instance (priority:=1100) SetI.at0 {α:Type} {x y:α} {l:List α}:SetI (x::l) 0 y (y::l):=⟨⟩
instance SetI.next {α:Type} {x y:α} {l l':List α} {k:Nat} [SetI l k y l']:SetI (x::l) (k+1) y (x::l'):=⟨⟩
instance SetI.two {α:Type} {y z:α} {l l' l2:List α} {k j:Nat} [SetI l k y l'] [SetI l' j z l2]:SetI (l.set k y) j z l2:=⟨⟩
instance NthI.set {α:Type} {x y:α} {l l':List α} {i k:Nat} [SetI l k y l'] [NthI l' i x]:NthI (l.set k y) i x:=⟨⟩
instance DropI.set {n k:Nat} {y:Ch} {l l' d:List Ch} [SetI l k y l'] [DropI n l' d]:DropI n (l.set k y) d:=⟨⟩
instance (priority:=1100) NthI.app0 {α:Type} {x:α} {l F:List α}:NthI ((x::l)++F) 0 x:=⟨⟩
instance NthI.app {α:Type} {x y:α} {l F:List α} {i:Nat} [NthI (l++F) i x]:NthI ((y::l)++F) (i+1) x:=⟨⟩
instance NthI.appn {α:Type} {x:α} {F:List α} {i:Nat} [NthI F i x]:NthI (([]:List α)++F) i x:=⟨⟩
instance (priority:=1200) DropI.app0 {F:List Ch}:DropI 0 (([]:List Ch)++F) F:=⟨⟩
instance DropI.app {n:Nat} {y:Ch} {l F d:List Ch} [DropI n (l++F) d]:DropI (n+1) ((y::l)++F) d:=⟨⟩
instance DropI.appn {n:Nat} {F d:List Ch} [DropI n F d]:DropI n (([]:List Ch)++F) d:=⟨⟩
/-! ### 91. What is read, with the proof that it is there -/
structure JE (T:World→Prop) where
  ev:Ev
  ok:∀ w,T w→ev.ok w
def evsJ {T:World→Prop}:List (JE T)→List Ev
  | []=>[]
  | x::l=>x.ev::evsJ l
def valsJ {T:World→Prop}:List (JE T)→List Value
  | []=>[]
  | ⟨.load _ v,_⟩::l=>v::valsJ l
  | ⟨.need _,_⟩::l=>valsJ l
theorem holdJ {T:World→Prop} {w:World} (h:T w):∀ l:List (JE T),Hold w (evsJ l)
  | []=>trivial
  | [x]=>x.ok w h
  | x::y::l=>⟨x.ok w h,holdJ h (y::l)⟩
section
variable {α:Type} {H:Hp} {w0:World} {cs F:List Ch} {g:Nat} {e:TypeId} {v:Value} {A:Option Addr} {i a b:Int} {s n:Nat} {cc:List Value} {ch:Ch} {fr:Nat × Nat} {T:World→Prop} {l:List α} {x:α} {p q r:Prop}
def bx (k off:Nat) [NthI cs k (some (g,.cells (List.toArray cc) e (0,0)))] [NthI cc off v] (hk:cs[k]? = some (some (g,.cells (List.toArray cc) e (0,0))):=by rfl) (hv:cc[off]? = some v:=by rfl):JE (fun w=>Heap H w0 w cs) :=
  ⟨.load ⟨g,off,none⟩ v,fun w hh=>hh.box k hk (by simpa using hv)⟩
def el (h:∀ w,ChIn w ch→∀ j v,cc[j]? = some v→w.cell? (((adr A).add (i.toNat*s)).add j)=some v) (k j:Nat) [NthI cc j v] (hk:cs[k]? = some ch:=by rfl) (hv:cc[j]? = some v:=by rfl):JE (fun w=>Heap H w0 w cs) :=
  ⟨.load (((adr A).add (i.toNat*s)).add j) v,fun w hh=>h w (hh.chin k hk) j v hv⟩
def er (h:∀ w0 w,Heap H w0 w F→∀ j v,cc[j]? = some v→w.cell? (((adr A).add (i.toNat*s)).add j)=some v) (m j:Nat) [NthI cc j v] (hd:cs.drop m=F:=by rfl) (hv:cc[j]? = some v:=by rfl):JE (fun w=>Heap H w0 w cs) :=
  ⟨.load (((adr A).add (i.toNat*s)).add j) v,fun w hh=>h w0 w (hd ▸ hh.drop m) j v hv⟩
def rowJ (ad:Nat→Addr):(cc:List Value)→(off:Nat)→(∀ j v,cc[j]? = some v→∀ w,T w→w.cell? (ad (off+j))=some v)→List (JE T)
  | [],_,_=>[]
  | v::l,off,h=>⟨.load (ad off) v,fun w hw=>h 0 v rfl w hw⟩::rowJ ad l (off+1) (fun j u hu w hw=>by have:=h (j+1) u hu w hw; rwa [show off+(j+1)=off+1+j by omega] at this)
def bxs (k:Nat) [NthI cs k (some (g,.cells (List.toArray cc) e (0,0)))] (hk:cs[k]? = some (some (g,.cells (List.toArray cc) e (0,0))):=by rfl):List (JE (fun w=>Heap H w0 w cs)) :=
  rowJ (fun j=>⟨g,j,none⟩) cc 0 (fun j v hv w hh=>hh.box k hk (by simpa using hv))
def els (h:∀ w,ChIn w ch→∀ j v,cc[j]? = some v→w.cell? (((adr A).add (i.toNat*s)).add j)=some v) (k:Nat) (hk:cs[k]? = some ch:=by rfl):List (JE (fun w=>Heap H w0 w cs)) :=
  rowJ (fun j=>((adr A).add (i.toNat*s)).add j) cc 0 (fun j v hv w hh=>by rw [Nat.zero_add]; exact h w (hh.chin k hk) j v hv)
def ers (h:∀ w0 w,Heap H w0 w F→∀ j v,cc[j]? = some v→w.cell? (((adr A).add (i.toNat*s)).add j)=some v) (m:Nat) (hd:cs.drop m=F:=by rfl):List (JE (fun w=>Heap H w0 w cs)) :=
  rowJ (fun j=>((adr A).add (i.toNat*s)).add j) cc 0 (fun j v hv w hh=>by rw [Nat.zero_add]; exact h w0 w (hd ▸ hh.drop m) j v hv)
def nd (h:p):JE T:=⟨.need p,fun _ _=>h⟩
def nx (ha:A=some (adr A)) (hx:at? l i=some x):JE T:=nd (p:=A=some (adr A)∧0≤i∧i<((l.length:Nat):Int)) ⟨ha,(at?_some hx).1,(at?_some hx).2.1⟩
def ny (ha:A=some (adr A)) (hx:at? l i=some x) (hn:n=l.length):JE T:=nd (p:=A=some (adr A)∧0≤i∧i<((n:Nat):Int)) ⟨ha,(at?_some hx).1,by rw [hn]; exact (at?_some hx).2.1⟩
def n1 [Decidable p] (h:decide p=true):JE T:=nd (of_decide_eq_true h)
def n2 [Decidable p] [Decidable q] (h:(decide p&&decide q)=true):JE T:=nd (both_of h)
def n3 [Decidable p] [Decidable q] [Decidable r] (h:(decide p&&(decide q&&decide r))=true):JE T:=nd (three_of h)
end
/-! ### 92. Places in the code, not written out -/
def hdP:List En→List Nat
  | .c p::_=>p
  | _=>[]
def isC:List En→Bool
  | .c _::_=>true
  | _=>false
theorem hd_eq {es:List En} (h:isC es=true):es=.c (hdP es)::es.tail:=by
  cases es with
  | nil=>cases h
  | cons e es=>cases e <;> first | rfl | cases h
def admL (c:Code) (n:Nat) (es:List En):List En:=(adm c n es).getD []
theorem admL_eq {c:Code} {n:Nat} {es:List En} (h:(adm c n es).isSome=true):adm c n es=some (admL c n es):=by
  unfold admL
  cases h2:adm c n es with
  | none=>rw [h2] at h; cases h
  | some x=>rfl
def okR (c:Code) (n:Nat) (es:List En) (b:Bool):Bool:=match adm c n es with
  | some (.c p::_)=>(match isReg c p with | some x=>x == b | none=>false)
  | _=>false
theorem okR_spec {c:Code} {n:Nat} {es:List En} {b:Bool} (h:okR c n es b=true):adm c n es=some (.c (hdP (admL c n es))::(admL c n es).tail)∧isReg c (hdP (admL c n es))=some b:=by
  unfold okR at h
  split at h
  · rename_i p es' he
    have e:admL c n es=.c p::es':=by unfold admL; rw [he]; rfl
    rw [e]
    refine ⟨he,?_⟩
    show isReg c p=some b
    split at h
    · rename_i x hx
      rw [hx,eq_of_beq h]
    · cases h
  · cases h
section
variable {F:Ctx} {S:Value→Hp→List Ch→Prop} {H0 H:Hp} {w0:World} {es es':List En} {L L':Slots} {cs cs' cs2:List Ch} {p:List Nat} {i n:Nat} {T T2:World→Prop} {bs:List Nat} {ls:List Bool}
theorem An (n:Nat) (k:RunH F S H0 w0 (admL F.c n es) L H cs) (h:(adm F.c n es).isSome=true:=by kernel_rfl):RunH F S H0 w0 es L H cs:=RunH.adm n (admL_eq h) k
theorem Sa (n:Nat) (k:RgH F S H0 w0 (hdP (admL F.c n es)) (admL F.c n es).tail 0 L H cs) (h:okR F.c n es false=true:=by kernel_rfl):RunH F S H0 w0 es L H cs :=
  RunH.adm n (okR_spec h).1 (RunH.reg (okR_spec h).2 k)
theorem Sd (m n:Nat) (idx bs:List Nat) [PickI m idx cs cs2] (k:DrH F S H0 w0 (hdP es) es.tail (fun w=>Heap H w0 w cs) (fun w=>Heap H w0 w cs2) bs n (List.replicate n false) L H cs)
    (h:okR F.c 0 es true=true:=by kernel_rfl) (hm:F.P.follows .mixedOrders=true:=by kernel_rfl) (hn:Nat.beq (opsAt F.c (hdP es)).size n=true:=by kernel_rfl):RunH F S H0 w0 es L H cs:=by
  have he:=Option.some.inj (okR_spec h).1
  have h2:=(okR_spec h).2
  have e0:admL F.c 0 es=es:=rfl
  rw [e0] at he h2
  rw [he]
  exact RunH.draw _ _ bs h2 hm hn rfl k
theorem Cb {ρ:Type} {c:Bool} {x y:Option ρ} {r:ρ} (heq:(bif c then x else y)=some r) (kT:c=true→x=some r→RunH F S H0 w0 (.c (hdP es++[0])::es.tail) L H cs) (kF:c=false→y=some r→RunH F S H0 w0 (.c (hdP es++[1])::es.tail) L H cs)
    (h:evalAt F.c (hdP es) L=some (.bool c):=by kernel_rfl) (hc:isC es=true:=by kernel_rfl):RunH F S H0 w0 es L H cs:=by
  rw [hd_eq hc]
  rcases bool_cases c with hb | hb
  · exact RunH.condT h hb (kT hb (bif_true hb heq))
  · exact RunH.condF h hb (kF hb (bif_false hb heq))
theorem Gt (m:Nat) (idx:List Nat) [PickI m idx cs cs'] (k:RunH F S H0 w0 es' L' H cs') (he:es=es':=by kernel_rfl) (hk:keep L (L'.map Prod.fst)=some L':=by kernel_rfl) (ok:pickOk m idx=true:=by kernel_rfl) (hp:pick m idx cs=cs':=by rfl):RunH F S H0 w0 es L H cs:=by
  rw [he]
  exact RunH.keep _ hk (RunH.pick m idx ok hp k)
theorem Up (m:Nat) (idx:List Nat) [PickI m idx cs cs'] (k:RunH F S H0 w0 es L H cs') (ok:pickOk m idx=true:=by kernel_rfl) (hp:pick m idx cs=cs':=by rfl):RunH F S H0 w0 es L H cs:=RunH.pick m idx ok hp k
theorem Ug (m:Nat) (idx:List Nat) [PickI m idx cs cs'] (k:RgH F S H0 w0 p es i L H cs') (ok:pickOk m idx=true:=by kernel_rfl) (hp:pick m idx cs=cs':=by rfl):RgH F S H0 w0 p es i L H cs:=RgH.pick m idx ok hp k
/-! ### 93. Operations that only read: what they leave in the slots is not written out -/
def resT (F:Ctx) (p:List Nat) (n i:Nat) (L:Slots) (vs:List Value):Slots:=match runT F.P F.N (opsAt F.c p) n i L vs with
  | some x=>x.1
  | none=>[]
theorem resT_eq {m:Nat} {vs:List Value} {evs:List Ev} (h:(runT F.P F.N (opsAt F.c p) m i L vs).map Prod.snd=some evs):runT F.P F.N (opsAt F.c p) m i L vs=some (resT F p m i L vs,evs):=by
  unfold resT
  cases h2:runT F.P F.N (opsAt F.c p) m i L vs with
  | none=>rw [h2] at h; cases h
  | some x =>
    rw [h2] at h
    simp only [Option.map_some,Option.some.injEq] at h
    rw [← h]
theorem Zk (j:Nat) (k:RgH F S H0 w0 p es j (resT F p (j - i) i L []) H cs) (h:(runT F.P F.N (opsAt F.c p) (j - i) i L []).map Prod.snd=some []:=by kernel_rfl) (hij:(Nat.ble i j&&Nat.ble j (opsAt F.c p).size)=true:=by kernel_rfl):RgH F S H0 w0 p es i L H cs :=
  fun hl w hh=>RgL.run j (resT_eq h) hij trivial (k hl w hh)
theorem Zv (j:Nat) (J:List (JE (fun w=>Heap H w0 w cs))) (k:RgH F S H0 w0 p es j (resT F p (j - i) i L (valsJ J)) H cs) (h:(runT F.P F.N (opsAt F.c p) (j - i) i L (valsJ J)).map Prod.snd=some (evsJ J):=by kernel_rfl) (hij:(Nat.ble i j&&Nat.ble j (opsAt F.c p).size)=true:=by kernel_rfl):RgH F S H0 w0 p es i L H cs :=
  fun hl w hh=>RgL.run j (resT_eq h) hij (holdJ (T:=fun w=>Heap H w0 w cs) hh J) (k hl w hh)
theorem Zd (j:Nat) (k:RunH F S H0 w0 es (resT F p (j - i) i L []) H cs) (h:(runT F.P F.N (opsAt F.c p) (j - i) i L []).map Prod.snd=some []:=by kernel_rfl) (hij:(Nat.ble i j&&Nat.ble j (opsAt F.c p).size)=true:=by kernel_rfl) (hj:Nat.beq (opsAt F.c p).size j=true:=by kernel_rfl):RgH F S H0 w0 p es i L H cs :=
  Zk j (RgH.done hj k) h hij
theorem Zw (j:Nat) (J:List (JE (fun w=>Heap H w0 w cs))) (k:RunH F S H0 w0 es (resT F p (j - i) i L (valsJ J)) H cs) (h:(runT F.P F.N (opsAt F.c p) (j - i) i L (valsJ J)).map Prod.snd=some (evsJ J):=by kernel_rfl) (hij:(Nat.ble i j&&Nat.ble j (opsAt F.c p).size)=true:=by kernel_rfl) (hj:Nat.beq (opsAt F.c p).size j=true:=by kernel_rfl):RgH F S H0 w0 p es i L H cs :=
  Zv j J (RgH.done hj k) h hij
def setL (ls:List Bool):List Nat→List Bool
  | []=>ls
  | i::is=>setL (ls.set i true) is
def resD (F:Ctx) (p:List Nat) (bs:List Nat) (b:Bool) (order:List Nat) (ls:List Bool) (L:Slots) (vs:List Value):Slots:=match runD F.P F.N (opsAt F.c p) bs b order ls L vs with
  | some x=>x.2.1
  | none=>[]
theorem resD_eq {b:Bool} {order:List Nat} {vs:List Value} {evs:List Ev} (h:(runD F.P F.N (opsAt F.c p) bs b order ls L vs).map (fun x=>(x.1,x.2.2))=some (setL ls order,evs)):runD F.P F.N (opsAt F.c p) bs b order ls L vs=some (setL ls order,resD F p bs b order ls L vs,evs):=by
  unfold resD
  cases h2:runD F.P F.N (opsAt F.c p) bs b order ls L vs with
  | none=>rw [h2] at h; cases h
  | some x =>
    obtain ⟨x1,x2,x3⟩:=x
    rw [h2] at h
    simp only [Option.map_some,Option.some.injEq,Prod.mk.injEq] at h
    rw [← h.1,← h.2]
theorem Zr (order:List Nat) (m:Nat) (J:List (JE T)) (hT:∀ w,Heap H w0 w cs→T w) (hT2:∀ w,T w→T2 w) (k:DrH F S H0 w0 p es T T2 bs m (setL ls order) (resD F p bs true order ls L (valsJ J)) H cs)
    (h:(runD F.P F.N (opsAt F.c p) bs true order ls L (valsJ J)).map (fun x=>(x.1,x.2.2))=some (setL ls order,evsJ J):=by kernel_rfl) (hsel:Region.noSelect (opsAt F.c p)=true:=by kernel_rfl) (hnm:Nat.beq (order.length+m) n=true:=by kernel_rfl):DrH F S H0 w0 p es T T2 bs n ls L H cs :=
  DrH.run order hsel hT hT2 (resD_eq h) (fun w hw=>holdJ hw J) hnm k
theorem Zt (order:List Nat) (m:Nat) (J:List (JE T2)) (hT:∀ w,Heap H w0 w cs→T2 w) (k:DrH F S H0 w0 p es T T2 bs m (setL ls order) (resD F p bs false order ls L (valsJ J)) H cs)
    (h:(runD F.P F.N (opsAt F.c p) bs false order ls L (valsJ J)).map (fun x=>(x.1,x.2.2))=some (setL ls order,evsJ J):=by kernel_rfl) (hsel:Region.noSelect (opsAt F.c p)=true:=by kernel_rfl) (hnm:Nat.beq (order.length+m) n=true:=by kernel_rfl):DrH F S H0 w0 p es T T2 bs n ls L H cs :=
  DrH.run2 order hsel hT (resD_eq h) (fun w hw=>holdJ hw J) hnm k
theorem Fr.dup {N:Nat} {a:Act} {L:Slots} {g:Nat} {v v':Value} (hf:Fr N a L) (h:v=v') (hl:lk L g=some v):Fr N a ((g,v')::L):=by
  refine ⟨hf.size,hf.defers,fun t u hu=>?_⟩
  simp only [lk] at hu
  split at hu
  · rename_i he
    have he:=Nat.eq_of_beq_eq_true he
    subst he
    rw [← Option.some.inj hu,← h]
    exact hf.has _ _ hl
  · exact hf.has _ _ hu
theorem Zs (g:Nat) {v v':Value} (h:v=v') (k:RgH F S H0 w0 p es i ((g,v')::L) H cs) (hl:lk L g=some v:=by kernel_rfl):RgH F S H0 w0 p es i L H cs:=fun hle w hh a hf=>k hle w hh a (hf.dup h hl)
theorem Zu (g:Nat) {v v':Value} (h:v=v') (k:DrH F S H0 w0 p es T T2 bs n ls ((g,v')::L) H cs) (hl:lk L g=some v:=by kernel_rfl):DrH F S H0 w0 p es T T2 bs n ls L H cs:=fun hle w hh a hf=>k hle w hh a (hf.dup h hl)
theorem Dz (i:Nat) {K:Slots→Hp→List Ch→Prop} (h:DoesH F p i w0 L H cs K) (k:∀ L' H' cs',Le H H'→K L' H' cs'→(∀ wb w,Heap H' w0 w cs'→Sx T T2 bs i wb w)∧DrH F S H0 w0 p es T T2 bs n (ls.set i true) L' H' cs')
    (hr:Region.ready .any (opsAt F.c p) ls.toArray=[i]:=by kernel_rfl):DrH F S H0 w0 p es T T2 bs (n+1) ls L H cs:=DrH.does i hr rfl h k
class NormI (l:List Ch) (l':outParam (List Ch)):Prop
instance NormI.set {l l':List Ch} {k:Nat} {y:Ch} [SetI l k y l']:NormI (l.set k y) l':=⟨⟩
theorem RgH.nrm [NormI cs cs'] (k:RgH F S H0 w0 p es i L H cs') (h:cs=cs':=by rfl):RgH F S H0 w0 p es i L H cs:=by rw [h]; exact k
theorem DrH.nrm [NormI cs cs'] (k:DrH F S H0 w0 p es T T2 bs n ls L H cs') (h:cs=cs':=by rfl):DrH F S H0 w0 p es T T2 bs n ls L H cs:=by rw [h]; exact k
theorem Co (F:Ctx) {S:Value→Hp→List Ch→Prop} {H:Hp} {w0:World} {cs:List Ch} {fn:Func} {args:List Value} (hf:F.P.funcs[F.f]? = some fn) (hN:fn.ntmps=F.N) (h:RunH F S H w0 [.c []] (argL 0 args) H cs) (hb:fn.body=some F.c:=by kernel_rfl) (hle:Nat.ble args.length F.N=true:=by kernel_rfl):CallsH F.P F.f args.toArray H w0 cs S :=
  calls_of_runH hf hb hN hle h
end
section
variable {F:Ctx} {H:Hp} {w0:World} {L:Slots} {cs:List Ch} {p:List Nat} {i:Nat}
theorem cal (d:Nat) {g:FuncId} {args:Array Value} {S':Value→Hp→List Ch→Prop} (hc:CallsH F.P g args H w0 cs S') (h:callAt F.P F.N (opsAt F.c p) i L=some (some d,g,args):=by kernel_rfl):DoesH F p i w0 L H cs (fun L' H' cs'=>∃ v,L'=(d,v)::L∧S' v H' cs'):=DoesH.call h hc
end
end Go.Proofs.YtedkdnhhohcocaaDoor.Kit
