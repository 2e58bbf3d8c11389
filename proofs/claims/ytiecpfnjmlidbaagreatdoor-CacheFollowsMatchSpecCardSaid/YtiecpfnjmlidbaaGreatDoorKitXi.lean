/- The steps of the walk in still fewer letters: what follows from what is there is found, and not written out. -/
import Derived.Test.YtiecpfnjmlidbaaGreatDoorKitX
set_option linter.unusedVariables false
namespace Go.Proofs.YtiecpfnjmlidbaaGreatDoor.Kit
open Go Go.RowKit
/-! ### 90. What is found by looking (each is checked by the kernel where it is used) -/
class aj1 {α:Type} (l:List α) (i:Nat) (x:outParam α):Prop
instance (priority:=1100) aj1.at0 {α:Type} {x:α} {l:List α}:aj1 (x::l) 0 x:=⟨⟩
instance aj1.next {α:Type} {x y:α} {l:List α} {i:Nat} [aj1 l i x]:aj1 (y::l) (i+1) x:=⟨⟩
class au5 (n:Nat) (l:List Ch) (l':outParam (List Ch)):Prop
instance (priority:=1100) au5.at0 {l:List Ch}:au5 0 l l:=⟨⟩
instance au5.next {n:Nat} {x:Ch} {l l':List Ch} [au5 n l l']:au5 (n+1) (x::l) l':=⟨⟩
class aO3 (n:Nat) (idx:List Nat) (l:List Ch) (l':outParam (List Ch)):Prop
instance aO3.at0 {n:Nat} {l l':List Ch} [au5 n l l']:aO3 n [] l l':=⟨⟩
instance aO3.next {n i:Nat} {idx:List Nat} {x:Ch} {l l':List Ch} [aj1 l i x] [aO3 n idx l l']:aO3 n (i::idx) l (x::l'):=⟨⟩
class aG8 {α:Type} (l:List α) (k:Nat) (y:α) (l':outParam (List α)):Prop
instance (priority:=1100) aG8.at0 {α:Type} {x y:α} {l:List α}:aG8 (x::l) 0 y (y::l):=⟨⟩
instance aG8.next {α:Type} {x y:α} {l l':List α} {k:Nat} [aG8 l k y l']:aG8 (x::l) (k+1) y (x::l'):=⟨⟩
instance aG8.two {α:Type} {y z:α} {l l' l2:List α} {k j:Nat} [aG8 l k y l'] [aG8 l' j z l2]:aG8 (l.set k y) j z l2:=⟨⟩
instance aj1.set {α:Type} {x y:α} {l l':List α} {i k:Nat} [aG8 l k y l'] [aj1 l' i x]:aj1 (l.set k y) i x:=⟨⟩
instance au5.set {n k:Nat} {y:Ch} {l l' d:List Ch} [aG8 l k y l'] [au5 n l' d]:au5 n (l.set k y) d:=⟨⟩
instance (priority:=1100) aj1.cK5 {α:Type} {x:α} {l F:List α}:aj1 ((x::l)++F) 0 x:=⟨⟩
instance aj1.app {α:Type} {x y:α} {l F:List α} {i:Nat} [aj1 (l++F) i x]:aj1 ((y::l)++F) (i+1) x:=⟨⟩
instance aj1.cK6 {α:Type} {x:α} {F:List α} {i:Nat} [aj1 F i x]:aj1 (([]:List α)++F) i x:=⟨⟩
instance (priority:=1200) au5.cK5 {F:List Ch}:au5 0 (([]:List Ch)++F) F:=⟨⟩
instance au5.app {n:Nat} {y:Ch} {l F d:List Ch} [au5 n (l++F) d]:au5 (n+1) ((y::l)++F) d:=⟨⟩
instance au5.cK6 {n:Nat} {F d:List Ch} [au5 n F d]:au5 n (([]:List Ch)++F) d:=⟨⟩
/-! ### 91. What is read, with the proof that it is there -/
structure JE (T:World→Prop) where
  ev:Ev
  ok:∀ w,T w→ev.ok w
def bg5 {T:World→Prop}:List (JE T)→List Ev
  | []=>[]
  | x::l=>x.ev::bg5 l
def aO4 {T:World→Prop}:List (JE T)→List Value
  | []=>[]
  | ⟨.load _ v,_⟩::l=>v::aO4 l
  | ⟨.need _,_⟩::l=>aO4 l
theorem bB6 {T:World→Prop} {w:World} (h:T w):∀ l:List (JE T),V5 w (bg5 l)
  | []=>trivial
  | [x]=>x.ok w h
  | x::y::l=>⟨x.ok w h,bB6 h (y::l)⟩
section
variable {α:Type} {H:Hp} {w0:World} {cs F:List Ch} {g:Nat} {e:TypeId} {v:Value} {A:Option Addr} {i a b:Int} {s n:Nat} {cc:List Value} {ch:Ch} {fr:Nat × Nat} {T:World→Prop} {l:List α} {x:α} {p q r:Prop}
def bx (k off:Nat) [aj1 cs k (some (g,.cells (List.toArray cc) e (0,0)))] [aj1 cc off v] (hk:cs[k]? = some (some (g,.cells (List.toArray cc) e (0,0))):=by rfl) (hv:cc[off]? = some v:=by rfl):JE (fun w=>Heap H w0 w cs) :=
  ⟨.load ⟨g,off,none⟩ v,fun w hh=>hh.box k hk (by simpa using hv)⟩
def rb (f:P3 H F g (.cells (List.toArray cc) e (0,0))) (m off:Nat) [aj1 cc off v] (hd:cs.drop m=F:=by rfl) (hv:cc[off]? = some v:=by rfl):JE (fun w=>Heap H w0 w cs) :=
  ⟨.load ⟨g,off,none⟩ v,fun w hh=>f.cell (hd ▸ hh.drop m) (by simpa using hv)⟩
def el (h:∀ w,aV2 w ch→∀ j v,cc[j]? = some v→w.cell? (((H8 A).add (i.toNat*s)).add j)=some v) (k j:Nat) [aj1 cc j v] (hk:cs[k]? = some ch:=by rfl) (hv:cc[j]? = some v:=by rfl):JE (fun w=>Heap H w0 w cs) :=
  ⟨.load (((H8 A).add (i.toNat*s)).add j) v,fun w hh=>h w (hh.N1 k hk) j v hv⟩
def er (h:∀ w0 w,Heap H w0 w F→∀ j v,cc[j]? = some v→w.cell? (((H8 A).add (i.toNat*s)).add j)=some v) (m j:Nat) [aj1 cc j v] (hd:cs.drop m=F:=by rfl) (hv:cc[j]? = some v:=by rfl):JE (fun w=>Heap H w0 w cs) :=
  ⟨.load (((H8 A).add (i.toNat*s)).add j) v,fun w hh=>h w0 w (hd ▸ hh.drop m) j v hv⟩
def bB7 (ad:Nat→Addr):(cc:List Value)→(off:Nat)→(∀ j v,cc[j]? = some v→∀ w,T w→w.cell? (ad (off+j))=some v)→List (JE T)
  | [],_,_=>[]
  | v::l,off,h=>⟨.load (ad off) v,fun w hw=>h 0 v rfl w hw⟩::bB7 ad l (off+1) (fun j u hu w hw=>by have:=h (j+1) u hu w hw; rwa [show off+(j+1)=off+1+j by omega] at this)
def C8 (k:Nat) [aj1 cs k (some (g,.cells (List.toArray cc) e (0,0)))] (hk:cs[k]? = some (some (g,.cells (List.toArray cc) e (0,0))):=by rfl):List (JE (fun w=>Heap H w0 w cs)) :=
  bB7 (fun j=>⟨g,j,none⟩) cc 0 (fun j v hv w hh=>hh.box k hk (by simpa using hv))
def els (h:∀ w,aV2 w ch→∀ j v,cc[j]? = some v→w.cell? (((H8 A).add (i.toNat*s)).add j)=some v) (k:Nat) (hk:cs[k]? = some ch:=by rfl):List (JE (fun w=>Heap H w0 w cs)) :=
  bB7 (fun j=>((H8 A).add (i.toNat*s)).add j) cc 0 (fun j v hv w hh=>by rw [Nat.zero_add]; exact h w (hh.N1 k hk) j v hv)
def ers (h:∀ w0 w,Heap H w0 w F→∀ j v,cc[j]? = some v→w.cell? (((H8 A).add (i.toNat*s)).add j)=some v) (m:Nat) (hd:cs.drop m=F:=by rfl):List (JE (fun w=>Heap H w0 w cs)) :=
  bB7 (fun j=>((H8 A).add (i.toNat*s)).add j) cc 0 (fun j v hv w hh=>by rw [Nat.zero_add]; exact h w0 w (hd ▸ hh.drop m) j v hv)
def nd (h:p):JE T:=⟨.need p,fun _ _=>h⟩
def nx (ha:A=some (H8 A)) (hx:o7 l i=some x):JE T:=nd (p:=A=some (H8 A)∧0≤i∧i<((l.length:Nat):Int)) ⟨ha,(aa2 hx).1,(aa2 hx).2.1⟩
def ny (ha:A=some (H8 A)) (hx:o7 l i=some x) (hn:n=l.length):JE T:=nd (p:=A=some (H8 A)∧0≤i∧i<((n:Nat):Int)) ⟨ha,(aa2 hx).1,by rw [hn]; exact (aa2 hx).2.1⟩
def n1 [Decidable p] (h:decide p=true):JE T:=nd (of_decide_eq_true h)
def n2 [Decidable p] [Decidable q] (h:(decide p&&decide q)=true):JE T:=nd (O6 h)
def cI1 [Decidable p] [Decidable q] [Decidable r] (h:(decide p&&(decide q&&decide r))=true):JE T:=nd (cG7 h)
end
/-! ### 92. Places in the code, not written out -/
def hdP:List En→List Nat
  | .c p::_=>p
  | _=>[]
def isC:List En→Bool
  | .c _::_=>true
  | _=>false
theorem cK7 {es:List En} (h:isC es=true):es=.c (hdP es)::es.tail:=by
  cases es with
  | nil=>cases h
  | cons e es=>cases e <;> first | rfl | cases h
def aK1 (c:Code) (n:Nat) (es:List En):List En:=(S4 c n es).getD []
theorem cK8 {c:Code} {n:Nat} {es:List En} (h:(S4 c n es).isSome=true):S4 c n es=some (aK1 c n es):=by
  unfold aK1
  cases h2:S4 c n es with
  | none=>rw [h2] at h; cases h
  | some x=>rfl
def okR (c:Code) (n:Nat) (es:List En) (b:Bool):Bool:=match S4 c n es with
  | some (.c p::_)=>(match aN1 c p with | some x=>x == b | none=>false)
  | _=>false
theorem bC0 {c:Code} {n:Nat} {es:List En} {b:Bool} (h:okR c n es b=true):S4 c n es=some (.c (hdP (aK1 c n es))::(aK1 c n es).tail)∧aN1 c (hdP (aK1 c n es))=some b:=by
  unfold okR at h
  split at h
  · rename_i p es' he
    have e:aK1 c n es=.c p::es':=by unfold aK1; rw [he]; rfl
    rw [e]
    refine ⟨he,?_⟩
    show aN1 c p=some b
    split at h
    · rename_i x hx
      rw [hx,eq_of_beq h]
    · cases h
  · cases h
section
variable {F:Ctx} {S:Value→Hp→List Ch→Prop} {H0 H:Hp} {w0:World} {es es':List En} {L L':w7} {cs cs' T7:List Ch} {p:List Nat} {i n:Nat} {T T2:World→Prop} {bs:List Nat} {ls:List Bool}
theorem An (n:Nat) (k:b8 F S H0 w0 (aK1 F.c n es) L H cs) (h:(S4 F.c n es).isSome=true:=by kernel_rfl):b8 F S H0 w0 es L H cs:=b8.S4 n (cK8 h) k
theorem Sa (n:Nat) (k:c6 F S H0 w0 (hdP (aK1 F.c n es)) (aK1 F.c n es).tail 0 L H cs) (h:okR F.c n es false=true:=by kernel_rfl):b8 F S H0 w0 es L H cs :=
  b8.S4 n (bC0 h).1 (b8.reg (bC0 h).2 k)
theorem Sd (m n:Nat) (idx bs:List Nat) [aO3 m idx cs T7] (k:o5 F S H0 w0 (hdP es) es.tail (fun w=>Heap H w0 w cs) (fun w=>Heap H w0 w T7) bs n (List.replicate n false) L H cs)
    (h:okR F.c 0 es true=true:=by kernel_rfl) (hm:F.P.follows .mixedOrders=true:=by kernel_rfl) (hn:Nat.beq (s9 F.c (hdP es)).size n=true:=by kernel_rfl):b8 F S H0 w0 es L H cs:=by
  have he:=Option.some.inj (bC0 h).1
  have h2:=(bC0 h).2
  have e0:aK1 F.c 0 es=es:=rfl
  rw [e0] at he h2
  rw [he]
  exact b8.draw _ _ bs h2 hm hn rfl k
theorem Cb {ρ:Type} {c:Bool} {x y:Option ρ} {r:ρ} (heq:(bif c then x else y)=some r) (kT:c=true→x=some r→b8 F S H0 w0 (.c (hdP es++[0])::es.tail) L H cs) (kF:c=false→y=some r→b8 F S H0 w0 (.c (hdP es++[1])::es.tail) L H cs)
    (h:aR3 F.c (hdP es) L=some (.bool c):=by kernel_rfl) (hc:isC es=true:=by kernel_rfl):b8 F S H0 w0 es L H cs:=by
  rw [cK7 hc]
  rcases y9 c with hb | hb
  · exact b8.bz6 h hb (kT hb (A5 hb heq))
  · exact b8.bz7 h hb (kF hb (A6 hb heq))
theorem Gt (m:Nat) (idx:List Nat) [aO3 m idx cs cs'] (k:b8 F S H0 w0 es' L' H cs') (he:es=es':=by kernel_rfl) (hk:keep L (L'.map Prod.fst)=some L':=by kernel_rfl) (ok:aJ6 m idx=true:=by kernel_rfl) (hp:pick m idx cs=cs':=by rfl):b8 F S H0 w0 es L H cs:=by
  rw [he]
  exact b8.keep _ hk (b8.pick m idx ok hp k)
theorem Up (m:Nat) (idx:List Nat) [aO3 m idx cs cs'] (k:b8 F S H0 w0 es L H cs') (ok:aJ6 m idx=true:=by kernel_rfl) (hp:pick m idx cs=cs':=by rfl):b8 F S H0 w0 es L H cs:=b8.pick m idx ok hp k
theorem Ug (m:Nat) (idx:List Nat) [aO3 m idx cs cs'] (k:c6 F S H0 w0 p es i L H cs') (ok:aJ6 m idx=true:=by kernel_rfl) (hp:pick m idx cs=cs':=by rfl):c6 F S H0 w0 p es i L H cs:=c6.pick m idx ok hp k
theorem Ur (m:Nat) (idx:List Nat) [aO3 m idx cs cs'] (k:o5 F S H0 w0 p es T T2 bs n ls L H cs') (ok:aJ6 m idx=true:=by kernel_rfl) (hp:pick m idx cs=cs':=by rfl):o5 F S H0 w0 p es T T2 bs n ls L H cs:=o5.pick m idx ok hp k
/-! ### 93. Operations that only read: what they leave in the slots is not written out -/
def bg7 (F:Ctx) (p:List Nat) (n i:Nat) (L:w7) (vs:List Value):w7:=match runT F.P F.N (s9 F.c p) n i L vs with
  | some x=>x.1
  | none=>[]
theorem ch0 {m:Nat} {vs:List Value} {G8:List Ev} (h:(runT F.P F.N (s9 F.c p) m i L vs).map Prod.snd=some G8):runT F.P F.N (s9 F.c p) m i L vs=some (bg7 F p m i L vs,G8):=by
  unfold bg7
  cases h2:runT F.P F.N (s9 F.c p) m i L vs with
  | none=>rw [h2] at h; cases h
  | some x =>
    rw [h2] at h
    simp only [Option.map_some,Option.some.injEq] at h
    rw [← h]
theorem Zk (j:Nat) (k:c6 F S H0 w0 p es j (bg7 F p (j - i) i L []) H cs) (h:(runT F.P F.N (s9 F.c p) (j - i) i L []).map Prod.snd=some []:=by kernel_rfl) (hij:(Nat.ble i j&&Nat.ble j (s9 F.c p).size)=true:=by kernel_rfl):c6 F S H0 w0 p es i L H cs :=
  fun hl w hh=>N8.run j (ch0 h) hij trivial (k hl w hh)
theorem Zv (j:Nat) (J:List (JE (fun w=>Heap H w0 w cs))) (k:c6 F S H0 w0 p es j (bg7 F p (j - i) i L (aO4 J)) H cs) (h:(runT F.P F.N (s9 F.c p) (j - i) i L (aO4 J)).map Prod.snd=some (bg5 J):=by kernel_rfl) (hij:(Nat.ble i j&&Nat.ble j (s9 F.c p).size)=true:=by kernel_rfl):c6 F S H0 w0 p es i L H cs :=
  fun hl w hh=>N8.run j (ch0 h) hij (bB6 (T:=fun w=>Heap H w0 w cs) hh J) (k hl w hh)
theorem Zd (j:Nat) (k:b8 F S H0 w0 es (bg7 F p (j - i) i L []) H cs) (h:(runT F.P F.N (s9 F.c p) (j - i) i L []).map Prod.snd=some []:=by kernel_rfl) (hij:(Nat.ble i j&&Nat.ble j (s9 F.c p).size)=true:=by kernel_rfl) (hj:Nat.beq (s9 F.c p).size j=true:=by kernel_rfl):c6 F S H0 w0 p es i L H cs :=
  Zk j (c6.done hj k) h hij
theorem Zw (j:Nat) (J:List (JE (fun w=>Heap H w0 w cs))) (k:b8 F S H0 w0 es (bg7 F p (j - i) i L (aO4 J)) H cs) (h:(runT F.P F.N (s9 F.c p) (j - i) i L (aO4 J)).map Prod.snd=some (bg5 J):=by kernel_rfl) (hij:(Nat.ble i j&&Nat.ble j (s9 F.c p).size)=true:=by kernel_rfl) (hj:Nat.beq (s9 F.c p).size j=true:=by kernel_rfl):c6 F S H0 w0 p es i L H cs :=
  Zv j J (c6.done hj k) h hij
def bb3 (ls:List Bool):List Nat→List Bool
  | []=>ls
  | i::is=>bb3 (ls.set i true) is
def bC1 (F:Ctx) (p:List Nat) (bs:List Nat) (b:Bool) (order:List Nat) (ls:List Bool) (L:w7) (vs:List Value):w7:=match aq4 F.P F.N (s9 F.c p) bs b order ls L vs with
  | some x=>x.2.1
  | none=>[]
theorem ch1 {b:Bool} {order:List Nat} {vs:List Value} {G8:List Ev} (h:(aq4 F.P F.N (s9 F.c p) bs b order ls L vs).map (fun x=>(x.1,x.2.2))=some (bb3 ls order,G8)):aq4 F.P F.N (s9 F.c p) bs b order ls L vs=some (bb3 ls order,bC1 F p bs b order ls L vs,G8):=by
  unfold bC1
  cases h2:aq4 F.P F.N (s9 F.c p) bs b order ls L vs with
  | none=>rw [h2] at h; cases h
  | some x =>
    obtain ⟨x1,x2,x3⟩:=x
    rw [h2] at h
    simp only [Option.map_some,Option.some.injEq,Prod.mk.injEq] at h
    rw [← h.1,← h.2]
theorem Zr (order:List Nat) (m:Nat) (J:List (JE T)) (hT:∀ w,Heap H w0 w cs→T w) (hT2:∀ w,T w→T2 w) (k:o5 F S H0 w0 p es T T2 bs m (bb3 ls order) (bC1 F p bs true order ls L (aO4 J)) H cs)
    (h:(aq4 F.P F.N (s9 F.c p) bs true order ls L (aO4 J)).map (fun x=>(x.1,x.2.2))=some (bb3 ls order,bg5 J):=by kernel_rfl) (hsel:Region.noSelect (s9 F.c p)=true:=by kernel_rfl) (hnm:Nat.beq (order.length+m) n=true:=by kernel_rfl):o5 F S H0 w0 p es T T2 bs n ls L H cs :=
  o5.run order hsel hT hT2 (ch1 h) (fun w hw=>bB6 hw J) hnm k
theorem Zt (order:List Nat) (m:Nat) (J:List (JE T2)) (hT:∀ w,Heap H w0 w cs→T2 w) (k:o5 F S H0 w0 p es T T2 bs m (bb3 ls order) (bC1 F p bs false order ls L (aO4 J)) H cs)
    (h:(aq4 F.P F.N (s9 F.c p) bs false order ls L (aO4 J)).map (fun x=>(x.1,x.2.2))=some (bb3 ls order,bg5 J):=by kernel_rfl) (hsel:Region.noSelect (s9 F.c p)=true:=by kernel_rfl) (hnm:Nat.beq (order.length+m) n=true:=by kernel_rfl):o5 F S H0 w0 p es T T2 bs n ls L H cs :=
  o5.cH0 order hsel hT (ch1 h) (fun w hw=>bB6 hw J) hnm k
theorem Fr.dup {N:Nat} {a:Act} {L:w7} {g:Nat} {v v':Value} (hf:Fr N a L) (h:v=v') (hl:lk L g=some v):Fr N a ((g,v')::L):=by
  refine ⟨hf.size,hf.defers,fun t u hu=>?_⟩
  simp only [lk] at hu
  split at hu
  · rename_i he
    have he:=Nat.eq_of_beq_eq_true he
    subst he
    rw [← Option.some.inj hu,← h]
    exact hf.has _ _ hl
  · exact hf.has _ _ hu
theorem Zs (g:Nat) {v v':Value} (h:v=v') (k:c6 F S H0 w0 p es i ((g,v')::L) H cs) (hl:lk L g=some v:=by kernel_rfl):c6 F S H0 w0 p es i L H cs:=fun hle w hh a hf=>k hle w hh a (hf.dup h hl)
theorem Zu (g:Nat) {v v':Value} (h:v=v') (k:o5 F S H0 w0 p es T T2 bs n ls ((g,v')::L) H cs) (hl:lk L g=some v:=by kernel_rfl):o5 F S H0 w0 p es T T2 bs n ls L H cs:=fun hle w hh a hf=>k hle w hh a (hf.dup h hl)
theorem Dz (i:Nat) {K:w7→Hp→List Ch→Prop} (h:j6 F p i w0 L H cs K) (k:∀ L' H' cs',Le H H'→K L' H' cs'→(∀ wb w,Heap H' w0 w cs'→Sx T T2 bs i wb w)∧o5 F S H0 w0 p es T T2 bs n (ls.set i true) L' H' cs')
    (hr:Region.ready .any (s9 F.c p) ls.toArray=[i]:=by kernel_rfl):o5 F S H0 w0 p es T T2 bs (n+1) ls L H cs:=o5.e5 i hr rfl h k
class bC2 (l:List Ch) (l':outParam (List Ch)):Prop
instance bC2.set {l l':List Ch} {k:Nat} {y:Ch} [aG8 l k y l']:bC2 (l.set k y) l':=⟨⟩
theorem c6.p6 [bC2 cs cs'] (k:c6 F S H0 w0 p es i L H cs') (h:cs=cs':=by rfl):c6 F S H0 w0 p es i L H cs:=by rw [h]; exact k
theorem o5.p6 [bC2 cs cs'] (k:o5 F S H0 w0 p es T T2 bs n ls L H cs') (h:cs=cs':=by rfl):o5 F S H0 w0 p es T T2 bs n ls L H cs:=by rw [h]; exact k
theorem c6.cse (h:cs=cs') (k:c6 F S H0 w0 p es i L H cs'):c6 F S H0 w0 p es i L H cs:=by rw [h]; exact k
theorem Co (F:Ctx) {S:Value→Hp→List Ch→Prop} {H:Hp} {w0:World} {cs:List Ch} {fn:Func} {args:List Value} (hf:F.P.funcs[F.f]? = some fn) (hN:fn.ntmps=F.N) (h:b8 F S H w0 [.c []] (Z3 0 args) H cs) (hb:fn.body=some F.c:=by kernel_rfl) (hle:Nat.ble args.length F.N=true:=by kernel_rfl):z7 F.P F.f args.toArray H w0 cs S :=
  ba4 hf hb hN hle h
end
section
variable {F:Ctx} {H:Hp} {w0:World} {L:w7} {cs:List Ch} {p:List Nat} {i:Nat}
theorem o9 (d:Nat) {g:FuncId} {args:Array Value} {S':Value→Hp→List Ch→Prop} (hc:z7 F.P g args H w0 cs S') (h:bf3 F.P F.N (s9 F.c p) i L=some (some d,g,args):=by kernel_rfl):j6 F p i w0 L H cs (fun L' H' cs'=>∃ v,L'=(d,v)::L∧S' v H' cs'):=j6.call h hc
end
end Go.Proofs.YtiecpfnjmlidbaaGreatDoor.Kit
