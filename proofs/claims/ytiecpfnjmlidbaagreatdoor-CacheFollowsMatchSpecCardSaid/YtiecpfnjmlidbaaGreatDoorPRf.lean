/- Caches: the reference's way through an event; Do on both sides. -/
import Derived.Test.YtiecpfnjmlidbaaGreatDoorPAns
import Derived.Test.YtiecpfnjmlidbaaGreatDoorPC7E
set_option linter.unusedVariables false
set_option linter.unusedSimpArgs false
namespace Go.Proofs.YtiecpfnjmlidbaaGreatDoor
open Go Go.Proofs.YtiecpfnjmlidbaaGreatDoor.Kit
theorem bU1 {α β:Type} {p:α→Bool} {r:Option β} {e:Unit→Option β}:∀ (l:List α) (i:Int),au7 (fun _ x (s:Unit) f=>bif p x then r else f s) e i l ()=bif l.any p then r else e ()
  | [],_=>rfl
  | x::l,i=>by
    show (bif p x then _ else _)=_
    rw [List.any_cons]
    cases h:p x
    · exact bU1 l (i+1)
    · rfl
theorem bc6 {α:Type} {key:α→ByteArray} {l:List α} {d:ByteArray} (hs:l.Pairwise (fun a b=>x9 (key a) (key b)=true)) (h:l.any (fun x=>p4 (key x) d)=true):placeOf key l d<l.length:=by
  obtain ⟨y,hy,hym,hye,X2⟩:=aH2 hs h
  rcases Nat.lt_or_ge (placeOf key l d) l.length with h | h
  · exact h
  · rw [List.getElem?_eq_none h] at X2; cases X2
theorem cr4 {α:Type} {key:α→ByteArray} {l:List α} {d:ByteArray} (hs:l.Pairwise (fun a b=>x9 (key a) (key b)=true)) (h:l.any (fun x=>p4 (key x) d)=true):l.findIdx? (fun x=>p4 (key x) d)=some (placeOf key l d):=by
  obtain ⟨y,hy,hym,hye,X2⟩:=aH2 hs h
  have hlt:=bc6 hs h
  rw [List.getElem?_eq_getElem hlt] at X2
  injection X2 with X2
  rw [List.findIdx?_eq_some_iff_getElem]
  refine ⟨hlt,by rw [X2]; exact hye,fun j hj=>?_⟩
  have h1:=bh3 (key:=key) l d j (by omega) hj
  rw [bE3 h1]
  simp
theorem br2 {t l:Int} {a3 a4:Bool} {bl:List Blob} {d:ByteArray} {y:Blob} (hs:bl.Pairwise (fun a b=>x9 a.b7 b.b7=true)) (hg:bl[placeOf (fun x:Blob=>x.b7) bl d]? = some y) (hd:y.b7=d) :
    bl.set (placeOf (fun x:Blob=>x.b7) bl d) (ag6 t l a3 a4 y)=bl.map (fun x=>bif p4 x.b7 d then ag6 t l a3 a4 x else x):=by
  have e:=bi0 (key:=fun y:Blob=>y.b7) (f:=ag6 t l a3 a4) hs hg
  simp only [hd] at e
  exact e
theorem map_none {bl:List Blob} {d:ByteArray} {f:Blob→Blob} (ha:bl.any (fun x=>p4 x.b7 d)=false):bl.map (fun x=>bif p4 x.b7 d then f x else x)=bl:=by
  have:∀ y∈bl,(fun y:Blob=>bif p4 y.b7 d then f y else y) y=id y:=fun y hy=>by
    have:p4 y.b7 d=false:=by
      cases hc:p4 y.b7 d
      · rfl
      · rw [List.any_eq_true.2 ⟨y,hy,hc⟩] at ha; cases ha
    simp only [this,cond_false,id]
  rw [List.map_congr_left this,List.map_id]
theorem bU2 (t l:Int) (a3 a4:Bool) (d:ByteArray) (bl:List Blob):P9 t l a3 a4 [d] bl=bl.map (fun x=>bif p4 x.b7 d then ag6 t l a3 a4 x else x):=by
  rw [← bp9]
  simp [P9,Q2]
theorem cW9 {t l:Int} {a3 a4:Bool} {d:ByteArray} {bl:List Blob} (ha:bl.any (fun x=>p4 x.b7 d)=false):P9 t l a3 a4 [d] bl=bl:=by
  rw [bU2,map_none ha]
theorem bU3 (t l:Int) (a3 a4:Bool) (bl:List Blob):P9 t l a3 a4 [] bl=bl:=by
  simp [P9,Q2]
theorem cX0 {α:Type} {key:α→ByteArray} {l:List α} {d:ByteArray} (hs:l.Pairwise (fun a b=>x9 (key a) (key b)=true)) (h:placeOf key l d<l.length):placeOf key (cutAt l (placeOf key l d)) d=placeOf key l d:=by
  have h1:∀ x∈l.take (placeOf key l d),x9 (key x) d=true:=by
    intro x hx
    obtain ⟨n,hn,rfl⟩:=List.getElem_of_mem hx
    rw [List.length_take] at hn
    rw [List.getElem_take]
    exact bh3 (key:=key) l d n (by omega) (by omega)
  have h2:(l.drop (placeOf key l d+1)).takeWhile (fun x=>x9 (key x) d)=[]:=by
    cases hq:l.drop (placeOf key l d+1) with
    | nil=>rfl
    | cons x r =>
      have hlen:placeOf key l d+1<l.length:=by
        rcases Nat.lt_or_ge (placeOf key l d+1) l.length with h | h
        · exact h
        · rw [List.drop_eq_nil_of_le h] at hq; cases hq
      rw [List.drop_eq_getElem_cons hlen] at hq
      injection hq with q1 ae2
      have:=bp5 (key:=key) l d hs (placeOf key l d+1) hlen (by omega)
      rw [q1] at this
      rw [List.takeWhile_cons,this]
      rfl
  show ((l.take (placeOf key l d)++l.drop (placeOf key l d+1)).takeWhile (fun x=>x9 (key x) d)).length=placeOf key l d
  rw [List.takeWhile_append_of_pos h1,h2,List.append_nil,List.length_take]
  omega
theorem cX1 {α:Type} {l:List α} {p:Nat} {x:α} (h:p<l.length):aq7 (cutAt l p) p x=l.set p x:=by
  unfold aq7 cutAt
  have h1:(l.take p).length=p:=by rw [List.length_take]; omega
  rw [List.take_append_of_le_length (by omega),List.take_take,Nat.min_self,List.drop_append_of_le_length (by omega)]
  rw [List.drop_eq_nil_of_le (by omega),List.nil_append,List.set_eq_take_append_cons_drop,if_pos h]
  simp
end Go.Proofs.YtiecpfnjmlidbaaGreatDoor

namespace Go.Proofs.YtiecpfnjmlidbaaGreatDoor
open Go Go.Proofs.YtiecpfnjmlidbaaGreatDoor.Kit
theorem g2 {a b:Bool} {α:Type} {x:Option α} (ha:a=true) (hb:b=true):G5 (a&&b) x=x:=by rw [ha,hb]; rfl
theorem bj3 {c:Cache} (hb:c.U.length≤4611686018427387904) (hs:c.U.Pairwise (fun a b=>x9 a.b7 b.b7=true)) (d:ByteArray):V8.f c d=some (bif c.U.any (fun x=>p4 x.b7 d) then ((placeOf (fun x:Blob=>x.b7) c.U d:Nat):Int) else -1):=by
  rw [cq8 hb]
  cases ha:c.U.any (fun x=>p4 x.b7 d)
  · rw [List.findIdx?_eq_none_iff.2 (fun x hx=>by
      cases hc:p4 x.b7 d
      · rfl
      · rw [List.any_eq_true.2 ⟨x,hx,hc⟩] at ha; cases ha)]
    rfl
  · rw [cr4 (key:=fun x:Blob=>x.b7) hs ha]
    simp only [Int.zero_add,cond_true]
theorem cr5 {c:Cache} (hb:c.Entries.length≤4611686018427387904) (hs:c.Entries.Pairwise (fun a b=>x9 a.Key b.Key=true)) (d:ByteArray):ai4.f c d=some (bif c.Entries.any (fun x=>p4 x.Key d) then ((placeOf (fun x:Entry=>x.Key) c.Entries d:Nat):Int) else -1):=by
  rw [cW4 hb]
  cases ha:c.Entries.any (fun x=>p4 x.Key d)
  · rw [List.findIdx?_eq_none_iff.2 (fun x hx=>by
      cases hc:p4 x.Key d
      · rfl
      · rw [List.any_eq_true.2 ⟨x,hx,hc⟩] at ha; cases ha)]
    rfl
  · rw [cr4 (key:=fun x:Entry=>x.Key) hs ha]
    simp only [Int.zero_add,cond_true]
theorem bU4 {c:Cache} {p:Nat} (hp:p<c.Entries.length) (hel:c.Entries.length≤1000):aX0.f c (p:Int)=some ⟨c.Room,c.c4,c.U,cutAt c.Entries p⟩:=by
  have hw:c5 ((p:Int)+1)=((p+1:Nat):Int):=by rw [B7 (by omega) (by omega)]; omega
  unfold aX0.f
  rw [hw]
  simp only [Int.toNat_natCast,List.nil_append]
  rw [g2 (decide_eq_true (by omega)) (decide_eq_true (by omega)),Y3 (ab6 (by omega)),g2 (decide_eq_true (by omega)) (decide_eq_true (by omega)),Y3 (ab6 (by simp; omega))]
  rfl
theorem cX2 {bl:List Blob} {p:Nat} (hp:p<bl.length) (z:Blob):o7 (bl.set p z) ((p:Nat):Int)=some z:=by
  rw [Z6 (by rw [List.length_set]; exact hp)]
  simp
theorem cr6 {r l:Int} {bl:List Blob} {es:List Entry} {p:Nat} {y:Blob} (hy:o7 bl ((p:Nat):Int)=some y) {t:Int} (hw:c5 (t+l)=t+l) :
    aS7.f ⟨r,l,bl,es⟩ ((p:Nat):Int) t=some ⟨r,l,bl.set p (ag6 t l false true y),es⟩:=by
  unfold aS7.f
  simp only [hy,Option.bind_some,hw,Int.toNat_natCast]
  rfl
theorem bU5 {r l:Int} {bl:List Blob} {es:List Entry} {p:Nat} (hp:p<bl.length) (y:Blob) {t:Int} (hw:c5 (t+l)=t+l) :
    aS7.f ⟨r,l,bl.set p ⟨y.b7,y.j4,t,y.u6,y.q4⟩,es⟩ ((p:Nat):Int) t=some ⟨r,l,bl.set p (ag6 t l true true y),es⟩:=by
  rw [cr6 (cX2 hp _) hw,List.set_set]
  rfl
theorem cX3 (e:k7):am8.f e=some (!bc3 e):=by
  have hl:((e.j9.length:Int) == 0)=!decide (0<(e.j9.length:Int)):=by
    rcases Nat.eq_zero_or_pos e.j9.length with h | h
    · rw [h]
      rfl
    · rw [decide_eq_true (by omega),beq_eq_false_iff_ne.2 (by omega)]
      rfl
  have h1:∀ a b c d:Bool,am8.j1 e a b c d=some (!((!a&&!p4 e.b7 ({ data:=#[] }:ByteArray))||((!b&&decide (0<(e.j9.length:Int)))||((!c&&!p4 e.Key ({ data:=#[] }:ByteArray))||(!d&&e.j4 != 0))))):=by
    intro a b c d
    have hz:(e.j4 == 0)=!(e.j4 != 0):=by simp [bne]
    unfold am8.j1
    rw [hl,hz]
    cases a <;> cases b <;> cases c <;> cases d <;> cases p4 e.b7 ({ data:=#[] }:ByteArray) <;> cases decide (0<(e.j9.length:Int)) <;> cases p4 e.Key ({ data:=#[] }:ByteArray) <;> cases e.j4 != 0 <;> rfl
  unfold am8.f bc3 aq8
  simp only [h1]
  cases e.Kind == 1 <;> cases e.Kind == 3 <;> cases e.Kind == 6 <;> cases e.Kind == 7 <;> rfl
def br3 (c:Cache) (e:k7):Bool:=match ax0 c e.b7 with | some y=>y.j4 != e.j4 | none=>false
def br4 (c:Cache) (e:k7):Bool:=match ax0 c e.b7 with | some y=>y.q4 == 3000 | none=>false
def aq9 (c:Cache) (e:k7):Int:=bif (e.Kind == 1&&br3 c e) then 12 else bif (e.Kind == 4&&br4 c e) then 16 else 0
theorem cX4 {c:Cache} {t:Int} (h:0≤t):decide (t<ab1 c)=(c.U.any (fun x=>decide (t<x.Used))||c.Entries.any (fun x=>decide (t<x.Used))):=by
  have:=aH3 (c:=c) (t:=t)
  cases h1:c.U.any (fun x=>decide (t<x.Used))
  · cases h2:c.Entries.any (fun x=>decide (t<x.Used))
    · have h1:=List.any_eq_false.1 h1
      have h2:=List.any_eq_false.1 h2
      refine decide_eq_false ?_
      have h3:=this.2 ⟨⟨h,fun x hx=>by have:=h1 x hx; simp at this; omega⟩,fun x hx=>by have:=h2 x hx; simp at this; omega⟩
      omega
    · obtain ⟨x,hx,hu⟩:=List.any_eq_true.1 h2
      refine decide_eq_true ?_
      rcases Int.lt_or_le t (ab1 c) with h3 | h3
      · exact h3
      · have:=(this.1 h3).2 x hx
        have:=of_decide_eq_true hu
        omega
  · obtain ⟨x,hx,hu⟩:=List.any_eq_true.1 h1
    refine decide_eq_true ?_
    rcases Int.lt_or_le t (ab1 c) with h3 | h3
    · exact h3
    · have:=(this.1 h3).1.2 x hx
      have:=of_decide_eq_true hu
      omega
theorem cX5 {c:Cache} (ok:N5 c) {e:k7} (ht:0≤e.At):Q0.l4 Q0.e1 n8 c e 0=some (bif decide (e.At<ab1 c) then 11 else aq9 c e):=by
  have hbl:=ok.bl
  have hel:=ok.el
  have h2:Q0.e2 c e=some (aq9 c e):=by
    unfold Q0.e2 aq9 br3 br4
    rw [bj3 (by omega) ok.bs]
    simp only [Option.bind_some]
    rcases aW7 ok.bs e.b7 with ⟨g1,g2⟩ | ⟨y,g1,g2,g3,g4,g5,g6⟩
    · rw [g1,g2]
      cases e.Kind == 1 <;> cases e.Kind == 4 <;> rfl
    · rw [g1,g2]
      simp only [cond_true,g3,Option.bind_some]
      rw [decide_eq_true (by omega)]
      cases e.Kind == 1 <;> cases e.Kind == 4 <;> cases y.j4 != e.j4 <;> cases y.q4 == 3000 <;> rfl
  have h1:Q0.e1 c e=some (bif c.Entries.any (fun x=>decide (e.At<x.Used)) then 11 else aq9 c e):=by
    unfold Q0.e1
    rw [as3 (S:=Unit) (L:=fun k _ v=>Q0.l3 Q0.e2 k c e v) (body:=fun _ x s f=>bif decide (e.At<x.Used) then some 11 else f s) (e:=fun _=>Q0.e2 c e) (xs:=c.Entries) (by omega) (fun k s v=>rfl) (),bU1 c.Entries 0,h2]
    cases c.Entries.any (fun x=>decide (e.At<x.Used)) <;> rfl
  rw [as3 (S:=Unit) (L:=fun k _ v=>Q0.l4 Q0.e1 k c e v) (body:=fun _ x s f=>bif decide (e.At<x.Used) then some 11 else f s) (e:=fun _=>Q0.e1 c e) (xs:=c.U) (by omega) (fun k s v=>rfl) (),bU1 c.U 0,h1,cX4 ht]
  cases c.U.any (fun x=>decide (e.At<x.Used)) <;> cases c.Entries.any (fun x=>decide (e.At<x.Used)) <;> rfl
theorem cX6 {c:Cache} (ok:N5 c) {e:k7} (hsd:as2 e.j9) (hd:e.b7.size≤4611686018427387904) (hk:e.Key.size≤4611686018427387904) :
    Q0.f c e=(aB6 e).bind fun y=>some (bif y != 0 then y else bif decide (e.At<ab1 c) then 11 else aq9 c e):=by
  unfold Q0.f aB6
  simp only [bC9,Option.bind_some,cX3,bp1 _ hd,bp1 _ hk]
  cases M8 1 8 e.Kind
  · rfl
  · cases bc3 e
    · simp only [Bool.not_true,Bool.not_false,cond_true,cond_false]
      have hb:∀ X:Option Int,((bif e.Kind == 6 then (some true) else (some (e.Kind == 7))).bind fun t1 =>
          (bif !t1 then (some (e.Kind != 3)) else (some false)).bind fun t2 =>
          (bif t2 then (bif !Q8 e.b7 then (some true) else (bif t1 then (some (!Q8 e.Key)) else (some false))) else (bif t1 then (some (!Q8 e.Key)) else (some false))).bind fun t3 =>
          bif t3 then some 3 else X)=bif aP0 e then some 3 else X:=by
        intro X
        unfold aP0 aq8
        by_cases k1:e.Kind=1
        · rw [k1]
          cases Q8 e.b7 <;> cases Q8 e.Key <;> rfl
        · by_cases k3:e.Kind=3
          · rw [k3]
            cases Q8 e.b7 <;> cases Q8 e.Key <;> rfl
          · by_cases as1:e.Kind=6
            · rw [as1]
              cases Q8 e.b7 <;> cases Q8 e.Key <;> rfl
            · by_cases bp0:e.Kind=7
              · rw [bp0]
                cases Q8 e.b7 <;> cases Q8 e.Key <;> rfl
              · have e1:(e.Kind == 1)=false:=by simpa using k1
                have S7:(e.Kind == 3)=false:=by simpa using k3
                have W8:(e.Kind == 6)=false:=by simpa using as1
                have aW8:(e.Kind == 7)=false:=by simpa using bp0
                simp only [bne,e1,S7,W8,aW8]
                cases Q8 e.b7 <;> cases Q8 e.Key <;> rfl
      rw [hb]
      cases aP0 e
      · simp only [cond_false]
        unfold ay8
        rw [cl2 hsd]
        cases decide ((200:Int)<(e.j9.length:Int))
        · simp only [cond_false]
          cases aV9 e.j9 with
          | none=>rfl
          | some g =>
            simp only [Option.bind_some]
            cases hg:g != 0
            · simp only [cond_false]
              cases h1:M8 0 100000000 e.j4
              · rfl
              · cases h2:M8 0 1000000000 e.At
                · rfl
                · have ht:0≤e.At:=by simp [M8] at h2; exact h2.1
                  simp only [Bool.not_true,cond_false,Option.bind_some,Bool.or_self,bne_self_eq_false]
                  exact cX5 ok ht
            · simp only [cond_true,Option.bind_some,hg]
        · rfl
      · rfl
    · rfl
end Go.Proofs.YtiecpfnjmlidbaaGreatDoor

namespace Go.Proofs.YtiecpfnjmlidbaaGreatDoor
open Go Go.Proofs.YtiecpfnjmlidbaaGreatDoor.Kit
theorem cr7 (p:Nat):decide (((p:Nat):Int)<0)=false:=decide_eq_false (by omega)
theorem bU6 (p:Nat):decide ((0:Int)≤((p:Nat):Int))=true:=decide_eq_true (by omega)
theorem cX7 {c:Cache} (ok:N5 c) {e:k7} (hs0:0≤e.j4) (hs1:e.j4≤100000000) (V9:0≤e.At) (A9:e.At≤1000000000) (hx:∀ y,ax0 c e.b7=some y→y.j4=e.j4):ag9.f c e=some (ab8 c e.b7 e.j4 e.At):=by
  have hr0:=ok.aW3
  have I0:=ok.aW4
  have hl0:=ok.ay9
  have hl1:=ok.az0
  have hbl:=ok.bl
  have hq:c5 (e.At+c.c4)=e.At+c.c4:=B7 (by omega) (by omega)
  unfold ag9.f ab8
  have e1:V8.f (⟨c.Room,c.c4,c.U,c.Entries⟩:Cache) e.b7=_:=bj3 (c:=c) (by omega) ok.bs e.b7
  rw [e1]
  simp only [Option.bind_some]
  rcases aW7 ok.bs e.b7 with ⟨g1,g2'⟩ | ⟨y,g1,g2',g3,g4,g5,g6⟩
  · rw [g2']
    simp only [cond_false]
    rw [show decide ((0:Int) ≤ -1)=false from rfl]
    simp only [cond_false]
    have hw:c5 (c.Room - e.j4)=c.Room - e.j4:=B7 (by omega) (by omega)
    have e2:K7.f (⟨c.Room,c.c4,c.U,c.Entries⟩:Cache) (c.Room - e.j4) e.At=some (N3 c (c.Room - e.j4) e.At):=cW8 (c:=c) hbl ok.sz ok.bs _ _
    rw [hw,e2]
    simp only [Option.bind_some]
    obtain ⟨m1,m2,m3,m4,_,_⟩:=bE5 c (c.Room - e.j4) e.At
    cases hb:decide (c.Room<e.j4)
    · simp only [cond_false]
      cases hc:(N3 c (c.Room - e.j4) e.At).2.1
      · rfl
      · simp only [Bool.not_true,cond_false]
        cases h3:decide (3000≤((N3 c (c.Room - e.j4) e.At).2.2.U.length:Int))
        · have h4:=of_decide_eq_false h3
          rw [beq_eq_false_iff_ne.2 (by omega)]
          simp only [cond_false]
          have hp:=aO7 (key:=fun x:Blob=>x.b7) (N3 c (c.Room - e.j4) e.At).2.2.U e.b7
          rw [cp9 (xs:=(N3 c (c.Room - e.j4) e.At).2.2.U) (key:=fun y:Blob=>y.b7) (d:=e.b7) (L:=fun k' v'=>ag9.l2 ag9.e1 k' e (N3 c (c.Room - e.j4) e.At) v') (E:=ag9.e1 e (N3 c (c.Room - e.j4) e.At)) (by omega) (fun k v'=>by rw [ag9.l2])]
          unfold ag9.e1
          simp only [Int.toNat_natCast,List.nil_append]
          rw [g2 (decide_eq_true (by omega)) (decide_eq_true (by omega)),Y3 (ab6 (by omega)),Y3 (ab6 (by simp; omega)),g2 (decide_eq_true (by omega)) (decide_eq_true (by omega)),Y3 (ab6 (by simp; omega))]
          rw [m2,hq,m1,m3]
          rfl
        · have h4:=of_decide_eq_true h3
          rw [beq_iff_eq.2 (show ((N3 c (c.Room - e.j4) e.At).2.2.U.length:Int)=3000 by omega)]
          rfl
    · have hlt:=of_decide_eq_true hb
      have hcl:N3 c (c.Room - e.j4) e.At=([],false,c):=by
        unfold N3
        have h1:=cr3 c e.At
        have h2:=bR9 (c.U.filter (fun b=>ae0 b e.At)) (fun x hx=>(ok.sz x (List.mem_filter.1 hx).1).1)
        rw [decide_eq_true (by omega)]
        rfl
      rw [hcl]
      rfl
  · rw [g2']
    simp only [cond_true]
    rw [bU6]
    have hp:=bc6 (key:=fun x:Blob=>x.b7) ok.bs g2'
    have hz:=hx y g1
    simp only [cond_true,g3,Option.bind_some,Int.toNat_natCast]
    rw [bU5 hp y hq]
    have hzz:(y.j4 != e.j4)=false:=by rw [hz]; simp
    simp only [Option.bind_some,g6,hzz,cond_false]
    rw [br2 ok.bs g6 g5,bU2]
theorem cX8 {c:Cache} (ok:N5 c) {e:k7} (hd:e.j9.length≤200) (V9:0≤e.At) (A9:e.At≤1000000000) :
    V0.f c e=some (⟨((S6 c e.j9).length:Int) == 0,S6 c e.j9,[]⟩,⟨c.Room,c.c4,P9 e.At c.c4 false true e.j9 c.U,c.Entries⟩):=by
  have hl0:=ok.ay9
  have hl1:=ok.az0
  have hbl:=ok.bl
  have hq:c5 (e.At+c.c4)=e.At+c.c4:=B7 (by omega) (by omega)
  have main:∀ (l:List ByteArray) (k v:Nat) (bl:List Blob),e.j9.drop v=l→v≤e.j9.length→bl.length≤3000→bl.Pairwise (fun a b=>x9 a.b7 b.b7=true)→l.length<k →
      V0.l2 V0.e1 k e c.Room c.c4 bl c.Entries (v:Int)=V0.e1 e c.Room c.c4 (P9 e.At c.c4 false true l bl) c.Entries:=by
    intro l
    induction l with
    | nil =>
      intro k v bl h1 h2 h3 h4 h5
      obtain ⟨k,rfl⟩:∃ m,k=m+1:=⟨k - 1,by omega⟩
      have hv:e.j9.length≤v:=List.drop_eq_nil_iff.1 h1
      rw [V0.l2,decide_eq_false (by omega),cond_false,bU3]
    | cons x l ih =>
      intro k v bl h1 h2 h3 h4 h5
      simp only [List.length_cons] at h5
      obtain ⟨k,rfl⟩:∃ m,k=m+1:=⟨k - 1,by omega⟩
      have hv:v<e.j9.length:=by
        rcases Nat.lt_or_ge v e.j9.length with h | h
        · exact h
        · rw [List.drop_eq_nil_of_le h] at h1; cases h1
      rw [List.drop_eq_getElem_cons hv] at h1
      injection h1 with q1 ae2
      have hw:c5 ((v:Int)+1)=((v+1:Nat):Int):=by rw [B7 (by omega) (by omega)]; omega
      rw [V0.l2,decide_eq_true (by omega),Z6 hv,q1]
      simp only [cond_true,Option.bind_some]
      rw [bj3 (c:=⟨c.Room,c.c4,bl,c.Entries⟩) (by simp only; omega) h4 x,← bp9]
      simp only [Option.bind_some,V0.j3,hw]
      rw [← ih k (v+1) _ ae2 (by omega) (by rw [List.length_map]; exact h3) (bb8 (fun y=>bb9 e.At c.c4 false true x y) h4) (by omega)]
      cases ha:bl.any (fun y=>p4 y.b7 x)
      · rw [map_none ha]
        rfl
      · obtain ⟨y,hy,hym,hye,X2⟩:=aH2 (key:=fun y:Blob=>y.b7) h4 ha
        simp only [cond_true]
        rw [bU6,cond_true,cr6 hy hq]
        simp only [Option.bind_some]
        rw [br2 h4 X2 (as4.1 hye)]
  unfold V0.f
  have h:=main e.j9 n8 0 c.U rfl (by omega) hbl ok.bs (by unfold n8; omega)
  rw [show ((0:Nat):Int)=0 from rfl] at h
  rw [h]
  unfold V0.e1
  have aW6:am6 ⟨c.Room,c.c4,P9 e.At c.c4 false true e.j9 c.U,c.Entries⟩:=bE4 (fun y=>by cases Q2 e.j9 y.b7 <;> rfl) ok.fit.small
  rw [bS1 aW6 (by omega),co2]
  rfl
theorem cX9 {l:List Entry} {k:ByteArray} {x:Entry} (hs:l.Pairwise (fun a b=>x9 a.Key b.Key=true)) (ha:l.any (fun y=>p4 y.Key k)=true):aq7 (cutAt l (placeOf (fun y:Entry=>y.Key) l k)) (placeOf (fun y:Entry=>y.Key) (cutAt l (placeOf (fun y:Entry=>y.Key) l k)) k) x=l.set (placeOf (fun y:Entry=>y.Key) l k) x:=by
  have hp:=bc6 (key:=fun y:Entry=>y.Key) hs ha
  rw [cX0 hs hp,cX1 hp]
theorem cr8 {c:Cache} {e:k7} (hd:e.j9.length≤200) {bl:List Blob} {es:List Entry} (hel:es.length≤1000) (r l:Int) :
    B0.j3 e r l bl es=some (aK6,⟨r,l,bl,aq7 es (placeOf (fun x:Entry=>x.Key) es e.Key) ⟨e.Key,e.j9,e.At⟩⟩):=by
  have hp:=aO7 (key:=fun x:Entry=>x.Key) es e.Key
  unfold B0.j3
  rw [cp9 (xs:=es) (key:=fun y:Entry=>y.Key) (d:=e.Key) (L:=fun k' v'=>B0.l5 B0.S2 k' e r l bl es v') (E:=B0.S2 e r l bl es) (by omega) (fun k v'=>by rw [B0.l5])]
  unfold B0.S2
  simp only [Int.toNat_natCast,List.nil_append]
  rw [Y3 (ab6 (by omega)),g2 (decide_eq_true (by omega)) (decide_eq_true (by omega)),Y3 (ab6 (by omega)),Y3 (ab6 (by simp; omega)),g2 (decide_eq_true (by omega)) (decide_eq_true (by omega)),Y3 (ab6 (by simp; omega))]
  rfl
theorem cY0 {c:Cache} {e:k7} (hd:e.j9.length≤200) {bl:List Blob} {es:List Entry} (hel:es.length≤1000) (r l:Int) :
    ((some (⟨r,l,bl,es⟩:Cache)).bind fun y3=>B0.j3 e y3.Room y3.c4 y3.U y3.Entries)=some (aK6,⟨r,l,bl,aq7 es (placeOf (fun x:Entry=>x.Key) es e.Key) ⟨e.Key,e.j9,e.At⟩⟩):=by
  rw [Option.bind_some]
  exact cr8 (c:=c) hd hel r l
theorem cY1 {e:k7} {r l:Int} {bl:List Blob} {es:List Entry} {j3:k7→Int→Int→List Blob→List Entry→Option (k6 × Cache)} (hel:es.length≤1000):∀ (q:List Entry) (k v b:Nat),es.drop v=q→v≤es.length→b<es.length→q.length<k →
    aP1 es q v b<es.length∧B0.l7 (B0.W8 j3) k e r l bl es (b:Int) (v:Int)=B0.W8 j3 e r l bl es ((aP1 es q v b:Nat):Int):=by
  intro q
  induction q with
  | nil =>
    intro k v b h1 h2 h3 h5
    obtain ⟨k,rfl⟩:∃ m,k=m+1:=⟨k - 1,by omega⟩
    have hv:es.length≤v:=List.drop_eq_nil_iff.1 h1
    rw [B0.l7,decide_eq_false (by omega),cond_false]
    exact ⟨h3,rfl⟩
  | cons x q ih =>
    intro k v b h1 h2 h3 h5
    simp only [List.length_cons] at h5
    obtain ⟨k,rfl⟩:∃ m,k=m+1:=⟨k - 1,by omega⟩
    have hv:v<es.length:=by
      rcases Nat.lt_or_ge v es.length with h | h
      · exact h
      · rw [List.drop_eq_nil_of_le h] at h1; cases h1
    rw [List.drop_eq_getElem_cons hv] at h1
    injection h1 with g1 g2
    have hw:c5 ((v:Int)+1)=((v+1:Nat):Int):=by rw [B7 (by omega) (by omega)]; omega
    rw [B0.l7,decide_eq_true (by omega),Z6 hv,g1,Z6 h3]
    simp only [cond_true,Option.bind_some,B0.j8,hw,aP1,List.getElem?_eq_getElem h3]
    cases hc:decide (x.Used<es[b].Used)
    · exact ih k (v+1) b g2 (by omega) h3 (by omega)
    · exact ih k (v+1) v g2 (by omega) hv (by omega)
theorem cr9 {c:Cache} {e:k7} (hd:e.j9.length≤200) {bl:List Blob} {es:List Entry} (hel:es.length≤1000) (r l:Int) :
    B0.j2 e r l bl es=some (aK6,⟨r,l,bl,aq7 (aj4 es) (placeOf (fun x:Entry=>x.Key) (aj4 es) e.Key) ⟨e.Key,e.j9,e.At⟩⟩):=by
  unfold B0.j2
  cases hq:decide (1000≤(es.length:Int))
  · have:=of_decide_eq_false hq
    rw [beq_eq_false_iff_ne.2 (by omega),show aj4 es=es by unfold aj4; rw [hq]; rfl]
    simp only [cond_false]
    exact cr8 (c:=c) hd hel r l
  · have:=of_decide_eq_true hq
    rw [beq_iff_eq.2 (show (es.length:Int)=1000 by omega),show aj4 es=cutAt es (aK5 es) by unfold aj4; rw [hq]; rfl]
    have hls:aP1 es es 0 0=aK5 es:=rfl
    obtain ⟨q1,ae2⟩:=cY1 (e:=e) (r:=r) (l:=l) (bl:=bl) (j3:=B0.j3) hel es n8 0 0 rfl (by omega) (by omega) (by unfold n8; omega)
    rw [show ((0:Nat):Int)=0 from rfl] at ae2
    rw [hls] at q1 ae2
    simp only [cond_true]
    rw [ae2]
    unfold B0.W8
    rw [bU4 (c:=⟨r,l,bl,es⟩) q1 hel]
    exact cY0 (c:=c) hd (Nat.le_trans (bF1 es (aK5 es)).length_le hel) r l
theorem cY2 {c:Cache} (ok:N5 c) {e:k7} (hd:e.j9.length≤200):B0.f c e=some (aH0 c e):=by
  have hbl:=ok.bl
  have hel:=ok.el
  unfold B0.f aH0
  have e2:U9.f (⟨c.Room,c.c4,c.U,c.Entries⟩:Cache) e.j9=some (S6 c e.j9):=bS1 (c:=c) ok.fit.small (by omega)
  rw [e2]
  simp only [Option.bind_some]
  cases hm:decide (0<((S6 c e.j9).length:Int))
  · have hmn:S6 c e.j9=[]:=by have:=of_decide_eq_false hm; exact List.eq_nil_of_length_eq_zero (by omega)
    have hall:=cm2.1 (show (S6 c e.j9).isEmpty=true by rw [hmn]; rfl)
    have main:∀ (l:List ByteArray) (k v:Nat) (bl:List Blob),e.j9.drop v=l→v≤e.j9.length→bl.length≤3000→bl.Pairwise (fun a b=>x9 a.b7 b.b7=true)→(∀ d∈e.j9,bl.any (fun x=>p4 x.b7 d)=true)→l.length<k →
        B0.l9 B0.e1 k c e bl (v:Int)=B0.e1 c e (P9 e.At c.c4 true false l bl):=by
      intro l
      induction l with
      | nil =>
        intro k v bl h1 h2 h3 h4 ha h5
        obtain ⟨k,rfl⟩:∃ m,k=m+1:=⟨k - 1,by omega⟩
        have hv:e.j9.length≤v:=List.drop_eq_nil_iff.1 h1
        rw [B0.l9,decide_eq_false (by omega),cond_false,bU3]
      | cons x l ih =>
        intro k v bl h1 h2 h3 h4 ha h5
        simp only [List.length_cons] at h5
        obtain ⟨k,rfl⟩:∃ m,k=m+1:=⟨k - 1,by omega⟩
        have hv:v<e.j9.length:=by
          rcases Nat.lt_or_ge v e.j9.length with h | h
          · exact h
          · rw [List.drop_eq_nil_of_le h] at h1; cases h1
        rw [List.drop_eq_getElem_cons hv] at h1
        injection h1 with q1 ae2
        have hx:=ha _ (List.getElem_mem hv)
        rw [q1] at hx
        have hw:c5 ((v:Int)+1)=((v+1:Nat):Int):=by rw [B7 (by omega) (by omega)]; omega
        obtain ⟨y,hy,hym,hye,X2⟩:=aH2 (key:=fun y:Blob=>y.b7) h4 hx
        rw [B0.l9,decide_eq_true (by omega),Z6 hv,q1]
        simp only [cond_true,Option.bind_some]
        rw [bj3 (c:=⟨c.Room,c.c4,bl,c.Entries⟩) (by simp only; omega) h4 x,← bp9]
        simp only [Option.bind_some,hx,cond_true,hy,hw,Int.toNat_natCast]
        rw [← ih k (v+1) _ ae2 (by omega) (by rw [List.length_map]; exact h3) (bb8 (fun y=>bb9 e.At c.c4 true false x y) h4) (fun d hd=>by
          have:=ha d hd
          rw [List.any_eq_true] at this ⊢
          obtain ⟨z,bU7,z2⟩:=this
          exact ⟨_,List.mem_map.2 ⟨z,bU7,rfl⟩,by rw [bb9]; exact z2⟩) (by omega),← br2 h4 X2 (as4.1 hye)]
        rfl
    have h:=main e.j9 n8 0 c.U rfl (by omega) hbl ok.bs hall (by unfold n8; omega)
    rw [show ((0:Nat):Int)=0 from rfl] at h
    simp only [cond_false]
    rw [h]
    unfold B0.e1
    rw [cr5 (c:=⟨c.Room,c.c4,P9 e.At c.c4 true false e.j9 c.U,c.Entries⟩) (by simp only; omega) ok.es e.Key]
    simp only [Option.bind_some]
    cases ha:c.Entries.any (fun x=>p4 x.Key e.Key)
    · simp only [cond_false]
      rw [show decide ((0:Int) ≤ -1)=false from rfl]
      simp only [cond_false]
      exact cr9 (c:=c) hd hel _ _
    · simp only [cond_true]
      have hp:=bc6 (key:=fun y:Entry=>y.Key) ok.es ha
      rw [bU6,cond_true,bU4 (c:=⟨c.Room,c.c4,P9 e.At c.c4 true false e.j9 c.U,c.Entries⟩) hp hel]
      simp only [Option.bind_some]
      have hcl:(cutAt c.Entries (placeOf (fun x:Entry=>x.Key) c.Entries e.Key)).length<1000:=by
        unfold cutAt
        rw [List.length_append,List.length_take,List.length_drop]
        omega
      rw [cr9 (c:=c) hd (by omega)]
      have hr:aj4 (cutAt c.Entries (placeOf (fun x:Entry=>x.Key) c.Entries e.Key))=cutAt c.Entries (placeOf (fun x:Entry=>x.Key) c.Entries e.Key):=by
        unfold aj4
        rw [decide_eq_false (by omega)]
        rfl
      rw [hr,cX9 ok.es ha]
  · rfl
theorem cY3 {c:Cache} (ok:N5 c) {e:k7} (V9:0≤e.At) (A9:e.At≤1000000000):ah0.f c e=some (aG9 c e):=by
  have hl0:=ok.ay9
  have hl1:=ok.az0
  have hbl:=ok.bl
  have hel:=ok.el
  have hq:c5 (e.At+c.c4)=e.At+c.c4:=B7 (by omega) (by omega)
  unfold ah0.f aG9
  have e1:ai4.f (⟨c.Room,c.c4,c.U,c.Entries⟩:Cache) e.Key=_:=cr5 (c:=c) (by omega) ok.es e.Key
  rw [e1]
  simp only [Option.bind_some]
  rcases bC5 ok.es e.Key with ⟨h1,h2⟩ | ⟨x,h1,h2,h3,h4,h5,h6⟩
  · rw [h1,h2]
    rfl
  · rw [h1,h2]
    have hrl:=(ok.ee x h4).2.1
    have e2:U9.f (⟨c.Room,c.c4,c.U,c.Entries⟩:Cache) x.Refs=some (S6 c x.Refs):=bS1 (c:=c) ok.fit.small (by omega)
    have hp:=bc6 (key:=fun y:Entry=>y.Key) ok.es h2
    simp only [cond_true]
    rw [cr7]
    simp only [cond_false,h3,Option.bind_some,e2]
    cases hm:decide (0<((S6 c x.Refs).length:Int))
    · have hmn:S6 c x.Refs=[]:=by have:=of_decide_eq_false hm; exact List.eq_nil_of_length_eq_zero (by omega)
      have hall:=cm2.1 (show (S6 c x.Refs).isEmpty=true by rw [hmn]; rfl)
      simp only [cond_false,Int.toNat_natCast]
      generalize c.Entries.set (placeOf (fun x:Entry=>x.Key) c.Entries e.Key) ⟨x.Key,x.Refs,e.At⟩=es
      have main:∀ (l:List ByteArray) (k v:Nat) (bl:List Blob),x.Refs.drop v=l→v≤x.Refs.length→bl.length≤3000→bl.Pairwise (fun a b=>x9 a.b7 b.b7=true)→(∀ d∈x.Refs,bl.any (fun x=>p4 x.b7 d)=true)→l.length<k →
          ah0.l2 ah0.e1 k e x c.Room c.c4 bl es (v:Int)=ah0.e1 c.Room c.c4 (P9 e.At c.c4 true true l bl) es:=by
        intro l
        induction l with
        | nil =>
          intro k v bl h1 h2 h3 h4 ha h5
          obtain ⟨k,rfl⟩:∃ m,k=m+1:=⟨k - 1,by omega⟩
          have hv:x.Refs.length≤v:=List.drop_eq_nil_iff.1 h1
          rw [ah0.l2,decide_eq_false (by omega),cond_false,bU3]
        | cons d l ih =>
          intro k v bl h1 h2 h3 h4 ha h5
          simp only [List.length_cons] at h5
          obtain ⟨k,rfl⟩:∃ m,k=m+1:=⟨k - 1,by omega⟩
          have hv:v<x.Refs.length:=by
            rcases Nat.lt_or_ge v x.Refs.length with h | h
            · exact h
            · rw [List.drop_eq_nil_of_le h] at h1; cases h1
          rw [List.drop_eq_getElem_cons hv] at h1
          injection h1 with q1 ae2
          have hx:=ha _ (List.getElem_mem hv)
          rw [q1] at hx
          have hw:c5 ((v:Int)+1)=((v+1:Nat):Int):=by rw [B7 (by omega) (by omega)]; omega
          obtain ⟨y,hy,hym,hye,X2⟩:=aH2 (key:=fun y:Blob=>y.b7) h4 hx
          have hpb:=bc6 (key:=fun y:Blob=>y.b7) h4 hx
          rw [ah0.l2,decide_eq_true (by omega),Z6 hv,q1]
          simp only [cond_true,Option.bind_some]
          rw [bj3 (c:=⟨c.Room,c.c4,bl,es⟩) (by simp only; omega) h4 d,← bp9]
          simp only [Option.bind_some,hx,cond_true,hy,hw,Int.toNat_natCast]
          rw [bU5 hpb y hq]
          simp only [Option.bind_some]
          rw [← ih k (v+1) _ ae2 (by omega) (by rw [List.length_map]; exact h3) (bb8 (fun y=>bb9 e.At c.c4 true true d y) h4) (fun d' hd=>by
            have:=ha d' hd
            rw [List.any_eq_true] at this ⊢
            obtain ⟨z,bU7,z2⟩:=this
            exact ⟨_,List.mem_map.2 ⟨z,bU7,rfl⟩,by rw [bb9]; exact z2⟩) (by omega),← br2 h4 X2 (as4.1 hye)]
      have h:=main x.Refs n8 0 c.U rfl (by omega) hbl ok.bs hall (by unfold n8; omega)
      rw [show ((0:Nat):Int)=0 from rfl] at h
      rw [h]
      rfl
    · simp only [cond_true]
      have S7:aX0.f (⟨c.Room,c.c4,c.U,c.Entries⟩:Cache) ((placeOf (fun x:Entry=>x.Key) c.Entries e.Key:Nat):Int)=_:=bU4 (c:=c) hp hel
      rw [S7]
      rfl
theorem cY5 {c:Cache} (ok:N5 c) {e:k7} (V9:0≤e.At) (A9:e.At≤1000000000) (hk:e.Kind=2∨e.Kind=4∨e.Kind=5∨e.Kind=8) (hx:e.Kind=4→∀ y,ax0 c e.b7=some y→y.q4≠3000) :
    as8.f c e=some ((Z1 c e).1,(Z1 c e).2.2)∧(Z1 c e).2.1=0:=by
  have hl0:=ok.ay9
  have hl1:=ok.az0
  have hbl:=ok.bl
  have hq:c5 (e.At+c.c4)=e.At+c.c4:=B7 (by omega) (by omega)
  unfold as8.f
  have e1:V8.f (⟨c.Room,c.c4,c.U,c.Entries⟩:Cache) e.b7=_:=bj3 (c:=c) (by omega) ok.bs e.b7
  rw [e1]
  simp only [Option.bind_some]
  rcases aW7 ok.bs e.b7 with ⟨h1,h2⟩ | ⟨y,h1,h2,h3,h4,h5,h6⟩
  · rw [h2]
    simp only [cond_false]
    rw [show decide ((-1:Int)<0)=true from rfl]
    simp only [cond_true]
    unfold Z1
    rcases hk with k | k | k | k
    · rw [k]
      show some _=some ((⟨c.U.any (fun x=>p4 x.b7 e.b7),[],[]⟩:k6),(⟨c.Room,c.c4,P9 e.At c.c4 true true [e.b7] c.U,c.Entries⟩:Cache))∧_
      rw [h2,cW9 h2]
      exact ⟨rfl,rfl⟩
    · rw [k]
      show some _=some ((af2 c e).1,(af2 c e).2.2)∧(af2 c e).2.1=0
      unfold af2
      rw [h1]
      exact ⟨rfl,rfl⟩
    · rw [k]
      show some _=some ((af2 c e).1,(af2 c e).2.2)∧(af2 c e).2.1=0
      unfold af2
      rw [h1]
      exact ⟨rfl,rfl⟩
    · rw [k]
      show some _=some ((ay7 c e).1,(ay7 c e).2.2)∧(ay7 c e).2.1=0
      unfold ay7
      rw [h1]
      exact ⟨rfl,rfl⟩
  · rw [h2]
    obtain ⟨_,_,_,_,_,_,_,bc1,b9⟩:=ok.be y h4
    have hp:=bc6 (key:=fun x:Blob=>x.b7) ok.bs h2
    have em:c5 (y.q4 - 1)=y.q4 + -1:=by rw [B7 (by omega) (by omega)]; omega
    have ep:c5 (y.q4+1)=y.q4+1:=B7 (by omega) (by omega)
    have s1:=bi0 (key:=fun y:Blob=>y.b7) (f:=bc0 (-1)) ok.bs h6
    have s2:=bi0 (key:=fun y:Blob=>y.b7) (f:=bc0 1) ok.bs h6
    simp only [h5] at s1 s2
    simp only [cond_true]
    rw [cr7]
    simp only [cond_false,h3,Option.bind_some,Int.toNat_natCast,em,ep]
    rw [bU5 hp y hq]
    unfold Z1
    rcases hk with k | k | k | k
    · rw [k]
      simp only [Option.bind_some]
      show some _=some ((⟨c.U.any (fun x=>p4 x.b7 e.b7),[],[]⟩:k6),(⟨c.Room,c.c4,P9 e.At c.c4 true true [e.b7] c.U,c.Entries⟩:Cache))∧_
      rw [h2,bU2,← br2 ok.bs h6 h5]
      exact ⟨rfl,rfl⟩
    · have hn:=hx k y h1
      rw [k]
      show some _=some ((af2 c e).1,(af2 c e).2.2)∧(af2 c e).2.1=0
      unfold af2
      rw [h1,k]
      simp only
      rw [decide_eq_false (by omega)]
      refine ⟨?_,rfl⟩
      show some _=some (aK6,(⟨c.Room,c.c4,az1 e.b7 1 c.U,c.Entries⟩:Cache))
      unfold az1
      rw [← s2]
      rfl
    · rw [k]
      show _=some ((af2 c e).1,(af2 c e).2.2)∧(af2 c e).2.1=0
      unfold af2
      rw [h1,k]
      simp only
      cases hz:y.q4 == 0
      · refine ⟨?_,rfl⟩
        show some _=some (aK6,(⟨c.Room,c.c4,az1 e.b7 (-1) c.U,c.Entries⟩:Cache))
        unfold az1
        rw [← s1]
        rfl
      · exact ⟨rfl,rfl⟩
    · rw [k]
      show _=some ((ay7 c e).1,(ay7 c e).2.2)∧(ay7 c e).2.1=0
      unfold ay7
      rw [h1]
      simp only [bT8,Option.bind_some]
      cases hh:ae0 y e.At
      · have S2:aW9.f (⟨c.Room,c.c4,c.U,c.Entries⟩:Cache) e.b7=some ⟨c.Room,c.c4,c.U.filter (fun x=>!p4 x.b7 e.b7),c.Entries⟩:=by
          have:=cr0 (c:=c) hbl ok.bs h4
          rw [h5] at this
          exact this
        have bq5:c.U.filter (fun b=>!Q2 [e.b7] b.b7)=c.U.filter (fun x=>!p4 x.b7 e.b7):=by
          congr 1
          funext b
          congr 1
          unfold Q2
          simp only [List.any_cons,List.any_nil,Bool.or_false]
          by_cases hb:e.b7=b.b7
          · rw [← hb,aO8]
            simp
          · rw [decide_eq_false hb]
            cases he:p4 b.b7 e.b7
            · rfl
            · exact absurd (as4.1 he).symm hb
        rw [bq5]
        show ((aW9.f (⟨c.Room,c.c4,c.U,c.Entries⟩:Cache) e.b7).bind _)=_∧_
        rw [S2]
        exact ⟨rfl,rfl⟩
      · exact ⟨rfl,rfl⟩
theorem doR {c:Cache} (ok:N5 c) {e:k7} (hsd:as2 e.j9) (hd:e.b7.size≤4611686018427387904) (hk:e.Key.size≤4611686018427387904) :
    ∃ a c',bi6.f c e=some (a,(dE c e).2.1,c')∧((dE c e).2.1=0→a=(dE c e).1∧c'=(dE c e).2.2):=by
  unfold bi6.f dE
  have e0:Q0.f (⟨c.Room,c.c4,c.U,c.Entries⟩:Cache) e=_:=cX6 (c:=c) ok hsd hd hk
  obtain ⟨y,hy⟩:=bF4 e
  rw [e0,hy]
  simp only [Option.bind_some,Option.getD_some]
  cases h1:y != 0
  · have:y=0:=by simpa using h1
    subst this
    obtain ⟨hdl,⟨hs0,hs1⟩,⟨V9,A9⟩,_,_,cY6⟩:=bC6 hy
    cases h2:decide (e.At<ab1 c)
    · simp only [cond_false]
      have hkd:e.Kind=1∨e.Kind=3∨e.Kind=6∨e.Kind=7∨(e.Kind=2∨e.Kind=4∨e.Kind=5∨e.Kind=8):=by
        simp [M8] at cY6
        omega
      rcases hkd with k | k | k | k | k
      · cases hz:(e.Kind == 1&&br3 c e)
        · have hx0:aq9 c e=0:=by
            unfold aq9
            rw [hz,k]
            rfl
          rw [hx0]
          have hp:=cX7 ok hs0 hs1 V9 A9 (fun y hy=>by
            unfold br3 at hz
            rw [k,hy] at hz
            simpa using hz)
          have hp':ag9.f (⟨c.Room,c.c4,c.U,c.Entries⟩:Cache) e=_:=hp
          rw [hp']
          unfold Z1
          rw [k]
          exact ⟨_,_,rfl,fun _=>⟨rfl,rfl⟩⟩
        · have hx0:aq9 c e=12:=by
            unfold aq9
            rw [hz]
            rfl
          rw [hx0]
          have cY8:(Z1 c e).2.1=12:=by
            unfold Z1
            rw [k]
            show (ab8 c e.b7 e.j4 e.At).2.1=12
            unfold ab8
            unfold br3 at hz
            rcases aW7 ok.bs e.b7 with ⟨g1,g2'⟩ | ⟨z,g1,g2',g3,g4,g5,g6⟩
            · rw [g1] at hz
              simp at hz
            · rw [g1] at hz
              have hzz:(z.j4 != e.j4)=true:=by
                rw [k] at hz
                exact hz
              rw [g2',g6]
              simp only [cond_true,hzz]
          rw [cY8]
          exact ⟨_,_,rfl,fun h=>by cases h⟩
      · have hx0:aq9 c e=0:=by unfold aq9; rw [k]; rfl
        rw [hx0,k]
        have hp':V0.f (⟨c.Room,c.c4,c.U,c.Entries⟩:Cache) e=_:=cX8 (c:=c) ok hdl V9 A9
        rw [hp']
        unfold Z1
        rw [k]
        exact ⟨_,_,rfl,fun _=>⟨rfl,rfl⟩⟩
      · have hx0:aq9 c e=0:=by unfold aq9; rw [k]; rfl
        rw [hx0,k]
        have hp':B0.f (⟨c.Room,c.c4,c.U,c.Entries⟩:Cache) e=_:=cY2 (c:=c) ok hdl
        rw [hp']
        unfold Z1
        rw [k]
        exact ⟨_,_,rfl,fun _=>⟨rfl,rfl⟩⟩
      · have hx0:aq9 c e=0:=by unfold aq9; rw [k]; rfl
        rw [hx0,k]
        have hp':ah0.f (⟨c.Room,c.c4,c.U,c.Entries⟩:Cache) e=_:=cY3 (c:=c) ok V9 A9
        rw [hp']
        unfold Z1
        rw [k]
        exact ⟨_,_,rfl,fun _=>⟨rfl,rfl⟩⟩
      · have C4:(e.Kind == 1)=false:=by rw [beq_eq_false_iff_ne]; omega
        have S9:(e.Kind == 3)=false:=by rw [beq_eq_false_iff_ne]; omega
        have hn6:(e.Kind == 6)=false:=by rw [beq_eq_false_iff_ne]; omega
        have hn7:(e.Kind == 7)=false:=by rw [beq_eq_false_iff_ne]; omega
        cases hz:(e.Kind == 4&&br4 c e)
        · have hx0:aq9 c e=0:=by
            unfold aq9
            rw [hz,C4]
            rfl
          have hp':as8.f (⟨c.Room,c.c4,c.U,c.Entries⟩:Cache) e=some ((Z1 c e).1,(Z1 c e).2.2)∧(Z1 c e).2.1=0:=cY5 (c:=c) ok V9 A9 k (fun k4 z hz' hq=>by
            unfold br4 at hz
            rw [k4,hz'] at hz
            simp only [hq] at hz
            cases hz)
          rw [hx0,C4,S9,hn6,hn7,hp'.1,hp'.2]
          exact ⟨_,_,rfl,fun _=>⟨rfl,rfl⟩⟩
        · have hx0:aq9 c e=16:=by
            unfold aq9
            rw [hz,C4]
            rfl
          rw [Bool.and_eq_true] at hz
          have k4:e.Kind=4:=by simpa using hz.1
          have cY9:(Z1 c e).2.1=16:=by
            unfold Z1
            rw [k4]
            show (af2 c e).2.1=16
            unfold af2
            unfold br4 at hz
            rcases aW7 ok.bs e.b7 with ⟨g1,g2'⟩ | ⟨z,g1,g2',g3,g4,g5,g6⟩
            · rw [g1] at hz
              simp at hz
            · rw [g1] at hz
              have hzz:z.q4=3000:=by simpa using hz.2
              rw [g1,k4]
              simp only
              rw [hzz]
              rfl
          rw [hx0,cY9]
          exact ⟨_,_,rfl,fun h=>by cases h⟩
    · exact ⟨_,_,rfl,fun h=>by cases h⟩
  · simp only [cond_true,h1]
    exact ⟨_,_,rfl,fun h=>by rw [h] at h1; simp at h1⟩
end Go.Proofs.YtiecpfnjmlidbaaGreatDoor

namespace Go.Proofs.YtiecpfnjmlidbaaGreatDoor
open Go Go.Proofs.YtiecpfnjmlidbaaGreatDoor.Kit
theorem cZ0 {l:List k7} (he:l.length*80≤140737490452480) (hr:∀ x∈l,x.j9.length*16≤140737490452480):aj6.f l=some l:=by
  unfold aj6.f
  rw [as3 (xs:=l) (L:=fun k s v=>aj6.l2 aj6.e1 k l s v) (body:=fun _ x s f=>bif (fun _=>true) x then G5 (room s.length 1 80) (f (s++[id x])) else f s) (e:=fun s=>some s) (by omega) (fun k s v=>by
    simp only [aj6.l2]
    congr 1
    refine aS1 (fun x hx=>?_)
    rw [bE0 (hr x hx)]
    rfl) []]
  rw [aW5 l 0 [] (by simp; omega)]
  have:∀ l:List k7,l.filter (fun _=>true)=l:=fun l=>by simp
  simp [this]
theorem cZ1 {l:List k7} (hl:l.length≤4611686018427387904) (h:∀ e∈l,as2 e.j9):ai5.f l l=some true:=by
  unfold ai5.f
  rw [bne_self_eq_false]
  refine bo9 (L:=fun k v=>ai5.l2 ai5.e1 k l l v) hl (fun k v h0 h1=>?_) (fun k=>?_)
  · obtain ⟨hn,hat⟩:=bg8 (xs:=l) h0 h1
    have hr:=(h _ (List.getElem_mem hn)).1
    simp only [ai5.l2,decide_eq_true h1,cond_true,hat,Option.bind_some,bne_self_eq_false,aO8,Bool.not_true,cond_false,bC4 (show _≤4611686018427387904 from Nat.le_trans hr (by omega))]
    rw [B7 (by omega) (by omega)]
  · simp only [ai5.l2,decide_eq_false (Int.lt_irrefl _),cond_false]
    rfl
theorem cZ2:am6 ⟨0,0,[],[]⟩:=⟨⟨by simp,fun x hx=>by cases hx⟩,⟨by simp,fun x hx=>by cases hx⟩⟩
end Go.Proofs.YtiecpfnjmlidbaaGreatDoor
