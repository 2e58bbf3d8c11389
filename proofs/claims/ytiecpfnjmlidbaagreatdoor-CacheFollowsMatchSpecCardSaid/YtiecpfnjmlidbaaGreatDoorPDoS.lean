/- Merged of PDoA, PDoB, PDoC, PDoD, PKeep, PDoS. -/
import Derived.Test.YtiecpfnjmlidbaaGreatDoorPLaw7
set_option linter.unusedVariables false
set_option linter.unusedSimpArgs false
namespace Go.Proofs.YtiecpfnjmlidbaaGreatDoor
open Go Go.Proofs.YtiecpfnjmlidbaaGreatDoor.Kit
def aq8 (k:Int):Bool × Bool × Bool × Bool:=bif k == 1 then (true,false,false,true) else bif k == 3 then (false,true,false,false) else bif k == 6 then (false,true,true,false) else bif k == 7 then (false,false,true,false) else (true,false,false,false)
theorem cS6 (k:Int):bq3.f k=some (aq8 k):=by
  unfold bq3.f aq8
  cases k == 1 <;> cases k == 3 <;> cases k == 6 <;> cases k == 7 <;> rfl
def bc3 (e:k7):Bool:=(!(aq8 e.Kind).1&&!p4 e.b7 ({ data:=#[] }:ByteArray))||((!(aq8 e.Kind).2.1&&decide (0<(e.j9.length:Int)))||((!(aq8 e.Kind).2.2.1&&!p4 e.Key ({ data:=#[] }:ByteArray))||(!(aq8 e.Kind).2.2.2&&e.j4 != 0)))
def aP0 (e:k7):Bool:=((aq8 e.Kind).1&&!Q8 e.b7)||((aq8 e.Kind).2.2.1&&!Q8 e.Key)
def aB6 (e:k7):Option Int :=
  bif !M8 1 8 e.Kind then some 4 else bif bc3 e then some 3 else bif aP0 e then some 3 else
  (ay8 e.j9 200).bind fun y=>bif y != 0 then some y else bif (!M8 0 100000000 e.j4||!M8 0 1000000000 e.At) then some 1 else some 0
theorem co1 {e:k7} (h:as2 e.j9):ac1.f e=aB6 e:=by
  have h2:∀ b:Bool,ac1.j2 e b=bif b then some 3 else (ay8 e.j9 200).bind fun y=>bif y != 0 then some y else bif (!M8 0 100000000 e.j4||!M8 0 1000000000 e.At) then some 1 else some 0:=by
    intro b
    unfold ac1.j2
    rw [cl1 h]
    congr 1
    congr 1
    funext y
    simp only [bp2,Option.bind_some,aW0.f]
    cases M8 0 100000000 e.j4 <;> cases M8 0 1000000000 e.At <;> rfl
  have h1:∀ b:Bool,ac1.j1 e (aq8 e.Kind) b=bif b then some 3 else bif aP0 e then some 3 else (ay8 e.j9 200).bind fun y=>bif y != 0 then some y else bif (!M8 0 100000000 e.j4||!M8 0 1000000000 e.At) then some 1 else some 0:=by
    intro b
    unfold ac1.j1 aP0
    simp only [bC8,Option.bind_some,h2]
    cases b
    · cases (aq8 e.Kind).1 <;> cases (aq8 e.Kind).2.2.1 <;> cases Q8 e.b7 <;> cases Q8 e.Key <;> rfl
    · rfl
  unfold ac1.f aB6
  simp only [bp2,Option.bind_some,cS6,h1]
  unfold bc3
  cases M8 1 8 e.Kind
  · rfl
  · cases (aq8 e.Kind).1 <;> cases (aq8 e.Kind).2.1 <;> cases (aq8 e.Kind).2.2.1 <;> cases (aq8 e.Kind).2.2.2 <;> cases p4 e.b7 ({ data:=#[] }:ByteArray) <;> cases decide (0<(e.j9.length:Int)) <;> cases p4 e.Key ({ data:=#[] }:ByteArray) <;> cases e.j4 != 0 <;> rfl
theorem bF4 (e:k7):∃ r,aB6 e=some r:=by
  unfold aB6
  cases M8 1 8 e.Kind
  · exact ⟨_,rfl⟩
  · cases bc3 e
    · cases aP0 e
      · have hd:∃ g,ay8 e.j9 200=some g:=by
          unfold ay8
          cases decide ((200:Int)<(e.j9.length:Int))
          · exact bR5 e.j9
          · exact ⟨_,rfl⟩
        obtain ⟨g,hg⟩:=hd
        rw [hg]
        simp only [Bool.not_true,cond_false,Option.bind_some]
        cases g != 0
        · cases (!M8 0 100000000 e.j4||!M8 0 1000000000 e.At)
          · exact ⟨_,rfl⟩
          · exact ⟨_,rfl⟩
        · exact ⟨_,rfl⟩
      · exact ⟨_,rfl⟩
    · exact ⟨_,rfl⟩
end Go.Proofs.YtiecpfnjmlidbaaGreatDoor

namespace Go.Proofs.YtiecpfnjmlidbaaGreatDoor
open Go Go.Proofs.YtiecpfnjmlidbaaGreatDoor.Kit
def aK6:k6:=⟨true,[],[]⟩
def ax0 (c:Cache) (d:ByteArray):Option Blob:=bif c.U.any (fun x=>p4 x.b7 d) then c.U[placeOf (fun x:Blob=>x.b7) c.U d]? else none
def bi2 (c:Cache) (k:ByteArray):Option Entry:=bif c.Entries.any (fun x=>p4 x.Key k) then c.Entries[placeOf (fun x:Entry=>x.Key) c.Entries k]? else none
theorem aW7 {c:Cache} (hs:c.U.Pairwise (fun a b=>x9 a.b7 b.b7=true)) (d:ByteArray):(ax0 c d=none∧c.U.any (fun x=>p4 x.b7 d)=false)∨∃ y,ax0 c d=some y∧c.U.any (fun x=>p4 x.b7 d)=true∧o7 c.U ((placeOf (fun x:Blob=>x.b7) c.U d:Nat):Int)=some y∧y∈c.U∧y.b7=d∧c.U[placeOf (fun x:Blob=>x.b7) c.U d]? = some y:=by
  unfold ax0
  cases ha:c.U.any (fun x=>p4 x.b7 d)
  · exact .inl ⟨rfl,rfl⟩
  · obtain ⟨y,hy,hym,hye,X2⟩:=aH2 (key:=fun y:Blob=>y.b7) hs ha
    exact .inr ⟨y,X2,rfl,hy,hym,as4.1 hye,X2⟩
theorem bC5 {c:Cache} (hs:c.Entries.Pairwise (fun a b=>x9 a.Key b.Key=true)) (d:ByteArray):(bi2 c d=none∧c.Entries.any (fun x=>p4 x.Key d)=false)∨∃ y,bi2 c d=some y∧c.Entries.any (fun x=>p4 x.Key d)=true∧o7 c.Entries ((placeOf (fun x:Entry=>x.Key) c.Entries d:Nat):Int)=some y∧y∈c.Entries∧y.Key=d∧c.Entries[placeOf (fun x:Entry=>x.Key) c.Entries d]? = some y:=by
  unfold bi2
  cases ha:c.Entries.any (fun x=>p4 x.Key d)
  · exact .inl ⟨rfl,rfl⟩
  · obtain ⟨y,hy,hym,hye,X2⟩:=aH2 (key:=fun y:Entry=>y.Key) hs ha
    exact .inr ⟨y,X2,rfl,hy,hym,as4.1 hye,X2⟩
def bc0 (k:Int) (y:Blob):Blob:=⟨y.b7,y.j4,y.Used,y.u6,y.q4+k⟩
def az1 (d:ByteArray) (k:Int) (bl:List Blob):List Blob:=bl.map (fun y=>bif p4 y.b7 d then bc0 k y else y)
def af2 (c:Cache) (e:k7):k6 × Int × Cache :=
  match ax0 c e.b7 with
  | none=>(noA,0,c)
  | some y=>bif e.Kind == 5 then bif y.q4 == 0 then (noA,0,c) else (aK6,0,⟨c.Room,c.c4,az1 e.b7 (-1) c.U,c.Entries⟩)
    else bif decide (3000≤y.q4) then (noA,16,c) else (aK6,0,⟨c.Room,c.c4,az1 e.b7 1 c.U,c.Entries⟩)
theorem cS7 {c:Cache} (ok:N5 c) (e:k7):az2.f c e=some (af2 c e):=by
  unfold az2.f af2
  have e1:aE1.f (⟨c.Room,c.c4,c.U,c.Entries⟩:Cache) e.b7=_:=bh7 (c:=c) ok.fit.small ok.bs e.b7
  rw [e1]
  simp only [Option.bind_some]
  rcases aW7 ok.bs e.b7 with ⟨h1,h2⟩ | ⟨y,h1,h2,h3,h4,h5,h6⟩
  · rw [h1,h2]
    rfl
  · rw [h1,h2]
    obtain ⟨_,_,_,_,_,_,_,bc1,b9⟩:=ok.be y h4
    have em:c5 (y.q4 - 1)=y.q4 + -1:=by rw [B7 (by omega) (by omega)]; omega
    have ep:c5 (y.q4+1)=y.q4+1:=B7 (by omega) (by omega)
    have s1:=bi0 (key:=fun y:Blob=>y.b7) (f:=bc0 (-1)) ok.bs h6
    have s2:=bi0 (key:=fun y:Blob=>y.b7) (f:=bc0 1) ok.bs h6
    simp only [h5] at s1 s2
    simp only [h3,Option.bind_some,Bool.not_true,cond_false,Int.toNat_natCast,em,ep,az2.j1]
    cases e.Kind == 5
    · simp only [cond_false,Option.bind_some]
      cases hq:decide (3000≤y.q4)
      · simp only [cond_false,az1,← s2]
        rfl
      · rfl
    · simp only [cond_true,Option.bind_some]
      cases hq:y.q4 == 0
      · simp only [cond_false,cond_true,az1,← s1]
        rfl
      · rfl
def cutAt {α:Type} (l:List α) (p:Nat):List α:=l.take p++l.drop (p+1)
def aG9 (c:Cache) (e:k7):k6 × Cache :=
  match bi2 c e.Key with
  | none=>(noA,c)
  | some x=>bif decide (0<((S6 c x.Refs).length:Int)) then (⟨false,S6 c x.Refs,[]⟩,⟨c.Room,c.c4,c.U,cutAt c.Entries (placeOf (fun x:Entry=>x.Key) c.Entries e.Key)⟩)
    else (aK6,⟨c.Room,c.c4,P9 e.At c.c4 true true x.Refs c.U,c.Entries.set (placeOf (fun x:Entry=>x.Key) c.Entries e.Key) ⟨x.Key,x.Refs,e.At⟩⟩)
theorem cS8 {c:Cache} (ok:N5 c) {e:k7} (V9:0≤e.At) (A9:e.At≤1000000000):bi3.f c e=some (aG9 c e):=by
  have hel:=ok.el
  have hf:=ok.fit
  unfold bi3.f aG9
  have e1:aW2.f (⟨c.Room,c.c4,c.U,c.Entries⟩:Cache) e.Key=_:=bR6 (c:=c) ok.fit.small ok.es e.Key
  rw [e1]
  simp only [Option.bind_some]
  rcases bC5 ok.es e.Key with ⟨h1,h2⟩ | ⟨x,h1,h2,h3,h4,h5,h6⟩
  · rw [h1,h2]
    rfl
  · rw [h1,h2]
    have hrl:=(ok.ee x h4).2.1
    have e2:U8.f (⟨c.Room,c.c4,c.U,c.Entries⟩:Cache) x.Refs=some (S6 c x.Refs):=bS0 (c:=c) hf.small ok.bs (hf.fr x h4)
    simp only [Bool.not_true,cond_false,h3,Option.bind_some,e2]
    have hlt:placeOf (fun x:Entry=>x.Key) c.Entries e.Key<c.Entries.length:=by
      rcases Nat.lt_or_ge (placeOf (fun x:Entry=>x.Key) c.Entries e.Key) c.Entries.length with h | h
      · exact h
      · rw [List.getElem?_eq_none h] at h6; cases h6
    cases hm:decide (0<((S6 c x.Refs).length:Int))
    · have hsm:am6 ⟨c.Room,c.c4,c.U,c.Entries.set (placeOf (fun x:Entry=>x.Key) c.Entries e.Key) ⟨x.Key,x.Refs,e.At⟩⟩:=by
        refine ⟨hf.small.1,by simp only [List.length_set]; exact hf.small.2.1,fun z hz=>?_⟩
        rcases bq2 hz with rfl | hz
        · exact hf.small.2.2 x h4
        · exact hf.small.2.2 z hz
      have S7:=bq0 (c:=⟨c.Room,c.c4,c.U,c.Entries.set (placeOf (fun x:Entry=>x.Key) c.Entries e.Key) ⟨x.Key,x.Refs,e.At⟩⟩) hsm ok.bs V9 A9 ok.ay9 ok.az0 (ds:=x.Refs) (by omega) true true
      simp only [cond_false,Int.toNat_natCast]
      rw [S7]
      rfl
    · simp only [cond_true]
      have hw:c5 (((placeOf (fun x:Entry=>x.Key) c.Entries e.Key:Nat):Int)+1)=((placeOf (fun x:Entry=>x.Key) c.Entries e.Key+1:Nat):Int):=by rw [B7 (by omega) (by omega)]; omega
      rw [hw]
      unfold bi4.f
      rw [Y3 (by
        simp only [Bool.and_eq_true,decide_eq_true_eq]
        exact ⟨by omega,by omega,by omega,ab6 (by omega)⟩)]
      rfl
end Go.Proofs.YtiecpfnjmlidbaaGreatDoor

namespace Go.Proofs.YtiecpfnjmlidbaaGreatDoor
open Go Go.Proofs.YtiecpfnjmlidbaaGreatDoor.Kit
theorem bF1 {α:Type} (l:List α) (p:Nat):(cutAt l p).Sublist l:=by
  have h:(l.take p++l.drop (p+1)).Sublist (l.take p++l.drop p):=List.Sublist.append (List.Sublist.refl _) (by rw [← List.drop_drop]; exact List.drop_sublist _ _)
  rw [List.take_append_drop] at h
  exact h
def aP1 (es:List Entry):List Entry→Nat→Nat→Nat
  | [],_,b=>b
  | x::l,v,b=>aP1 es l (v+1) (match es[b]? with | some y=>bif decide (x.Used<y.Used) then v else b | none=>b)
def aK5 (es:List Entry):Nat:=aP1 es es 0 0
theorem cn8 {c:Cache} {e:k7} {ds:List ByteArray} {j1:k7→Cache→(List ByteArray)→(List Entry)→Int→Option (k6 × Cache)} (hel:c.Entries.length≤1000):∀ (l:List Entry) (k v b:Nat),c.Entries.drop v=l→v≤c.Entries.length→b<c.Entries.length→l.length<k →
    aP1 c.Entries l v b<c.Entries.length∧M9.l3 (M9.e2 j1) k e c ds (b:Int) (v:Int)=M9.e2 j1 e c ds ((aP1 c.Entries l v b:Nat):Int):=by
  intro l
  induction l with
  | nil =>
    intro k v b h1 h2 h3 h5
    obtain ⟨k,rfl⟩:∃ m,k=m+1:=⟨k - 1,by omega⟩
    have hv:c.Entries.length≤v:=List.drop_eq_nil_iff.1 h1
    rw [M9.l3,decide_eq_false (by omega),cond_false]
    exact ⟨h3,rfl⟩
  | cons x l ih =>
    intro k v b h1 h2 h3 h5
    simp only [List.length_cons] at h5
    obtain ⟨k,rfl⟩:∃ m,k=m+1:=⟨k - 1,by omega⟩
    have hv:v<c.Entries.length:=by
      rcases Nat.lt_or_ge v c.Entries.length with h | h
      · exact h
      · rw [List.drop_eq_nil_of_le h] at h1; cases h1
    rw [List.drop_eq_getElem_cons hv] at h1
    injection h1 with g1 g2
    have hw:c5 ((v:Int)+1)=((v+1:Nat):Int):=by rw [B7 (by omega) (by omega)]; omega
    rw [M9.l3,decide_eq_true (by omega),Z6 hv,g1,Z6 h3]
    simp only [cond_true,Option.bind_some,M9.ap0,hw,aP1,List.getElem?_eq_getElem h3]
    cases hc:decide (x.Used<c.Entries[b].Used)
    · exact ih k (v+1) b g2 (by omega) h3 (by omega)
    · exact ih k (v+1) v g2 (by omega) hv (by omega)
def aj4 (es:List Entry):List Entry:=bif decide (1000≤(es.length:Int)) then cutAt es (aK5 es) else es
def aH0 (c:Cache) (e:k7):k6 × Cache :=
  bif decide (0<((S6 c e.j9).length:Int)) then (⟨false,S6 c e.j9,[]⟩,c) else
  bif c.Entries.any (fun x=>p4 x.Key e.Key) then (aK6,⟨c.Room,c.c4,P9 e.At c.c4 true false e.j9 c.U,c.Entries.set (placeOf (fun x:Entry=>x.Key) c.Entries e.Key) ⟨e.Key,e.j9,e.At⟩⟩)
  else (aK6,⟨c.Room,c.c4,P9 e.At c.c4 true false e.j9 c.U,aq7 (aj4 c.Entries) (placeOf (fun x:Entry=>x.Key) (aj4 c.Entries) e.Key) ⟨e.Key,e.j9,e.At⟩⟩)
theorem cS9 {c:Cache} (ok:N5 c) {e:k7} (hd:e.j9.length≤200) (V9:0≤e.At) (A9:e.At≤1000000000):M9.f c e=some (aH0 c e):=by
  have hel:=ok.el
  have hf:=ok.fit
  have hsm:=hf.small
  unfold M9.f aH0
  have e2:U8.f (⟨c.Room,c.c4,c.U,c.Entries⟩:Cache) e.j9=some (S6 c e.j9):=bS0 (c:=c) hf.small ok.bs (by omega)
  have S7:R4.f (⟨c.Room,c.c4,c.U,c.Entries⟩:Cache) e.j9 e.At true false=_:=bq0 (c:=c) hsm ok.bs V9 A9 ok.ay9 ok.az0 (ds:=e.j9) (by omega) true false
  rw [e2]
  simp only [Option.bind_some]
  cases hm:decide (0<((S6 c e.j9).length:Int))
  · simp only [cond_false,S7,Option.bind_some,bE0 (show e.j9.length*16≤140737490452480 by omega)]
    have aW6:am6 ⟨c.Room,c.c4,P9 e.At c.c4 true false e.j9 c.U,c.Entries⟩:=bE4 (fun y=>by cases Q2 e.j9 y.b7 <;> rfl) hsm
    have S2:=bR6 (c:=(⟨c.Room,c.c4,P9 e.At c.c4 true false e.j9 c.U,c.Entries⟩:Cache)) aW6 ok.es e.Key
    rw [S2]
    simp only [Option.bind_some]
    generalize P9 e.At c.c4 true false e.j9 c.U=bl at *
    cases ha:c.Entries.any (fun x=>p4 x.Key e.Key)
    · simp only [cond_false]
      cases hq:decide (1000≤(c.Entries.length:Int))
      · have hr:aj4 c.Entries=c.Entries:=by unfold aj4; rw [hq]; rfl
        have hp:=aO7 (key:=fun y:Entry=>y.Key) c.Entries e.Key
        simp only [cond_false,M9.j1,hr]
        unfold bq4.f
        rw [decide_eq_true (by omega),decide_eq_true (by omega)]
        rw [Y3 (by
          simp only [Bool.true_and,List.length_singleton,Bool.and_eq_true]
          exact ⟨by simp,ab6 (by omega)⟩)]
        rfl
      · have hr:aj4 c.Entries=cutAt c.Entries (aK5 c.Entries):=by unfold aj4; rw [hq]; rfl
        have hge:=of_decide_eq_true hq
        obtain ⟨q1,ae2⟩:=cn8 (c:=(⟨c.Room,c.c4,bl,c.Entries⟩:Cache)) (e:=e) (ds:=e.j9) (j1:=M9.j1) hel c.Entries n8 0 0 rfl (by omega) (by show 0<c.Entries.length; omega) (by unfold n8; omega)
        simp only [cond_true]
        rw [show ((0:Nat):Int)=0 from rfl] at ae2
        rw [ae2]
        have hls:aP1 c.Entries c.Entries 0 0=aK5 c.Entries:=rfl
        simp only [hls] at q1 ⊢
        unfold M9.e2
        have hw:c5 (((aK5 c.Entries:Nat):Int)+1)=((aK5 c.Entries+1:Nat):Int):=by rw [B7 (by omega) (by omega)]; omega
        simp only [hw]
        unfold bi4.f
        rw [Y3 (by
          simp only [Bool.and_eq_true,decide_eq_true_eq]
          exact ⟨by omega,by omega,by omega,ab6 (by omega)⟩)]
        simp only [Option.bind_some,Int.toNat_natCast]
        have cT0:c.Entries.take (aK5 c.Entries)++c.Entries.drop (aK5 c.Entries+1)=aj4 c.Entries:=hr.symm
        rw [cT0]
        have hsub:(aj4 c.Entries).Sublist c.Entries:=by rw [hr]; exact bF1 _ _
        have hlen:=hsub.length_le
        have cT1:am6 ⟨c.Room,c.c4,bl,aj4 c.Entries⟩:=⟨aW6.1,Nat.le_trans hlen hsm.2.1,fun x hx=>hsm.2.2 x (hsub.subset hx)⟩
        have bq5:=bR6 (c:=(⟨c.Room,c.c4,bl,aj4 c.Entries⟩:Cache)) cT1 (ok.es.sublist hsub) e.Key
        rw [bq5]
        have hp:=aO7 (key:=fun y:Entry=>y.Key) (aj4 c.Entries) e.Key
        simp only [Option.bind_some,M9.j1]
        unfold bq4.f
        rw [decide_eq_true (by omega),decide_eq_true (by omega)]
        rw [Y3 (by
          simp only [Bool.true_and,List.length_singleton,Bool.and_eq_true]
          exact ⟨by simp,ab6 (by omega)⟩)]
        rfl
    · obtain ⟨y,hy,hym,hye,X2⟩:=aH2 (key:=fun y:Entry=>y.Key) ok.es ha
      simp only [cond_true,hy,Option.bind_some,Int.toNat_natCast,aK6]
  · rfl
end Go.Proofs.YtiecpfnjmlidbaaGreatDoor

namespace Go.Proofs.YtiecpfnjmlidbaaGreatDoor
open Go Go.Proofs.YtiecpfnjmlidbaaGreatDoor.Kit
theorem cT2 {c:Cache} (ok:N5 c) (e:k7) (hs0:0≤e.j4) (hs1:e.j4≤100000000) (V9:0≤e.At) (A9:e.At≤1000000000):aS3.f c e=some (ab8 c e.b7 e.j4 e.At) :=
  (show aS3.f c e=aS3.f c (⟨1,e.At,e.b7,[],ByteArray.empty,e.j4⟩:k7) from rfl).trans (cR7 ok hs0 hs1 V9 A9)
def ay7 (c:Cache) (e:k7):k6 × Int × Cache :=
  match ax0 c e.b7 with
  | none=>(noA,0,c)
  | some y=>bif ae0 y e.At then (noA,0,c) else (⟨true,[],[e.b7]⟩,0,⟨c.Room,c.c4,c.U.filter (fun b=>!Q2 [e.b7] b.b7),c.Entries⟩)
def Z1 (c:Cache) (e:k7):k6 × Int × Cache :=
  bif e.Kind == 1 then ab8 c e.b7 e.j4 e.At else
  bif e.Kind == 2 then (⟨c.U.any (fun x=>p4 x.b7 e.b7),[],[]⟩,0,⟨c.Room,c.c4,P9 e.At c.c4 true true [e.b7] c.U,c.Entries⟩) else
  bif e.Kind == 3 then (⟨((S6 c e.j9).length:Int) == 0,S6 c e.j9,[]⟩,0,⟨c.Room,c.c4,P9 e.At c.c4 false true e.j9 c.U,c.Entries⟩) else
  bif (e.Kind == 4||e.Kind == 5) then af2 c e else
  bif e.Kind == 6 then ((aH0 c e).1,0,(aH0 c e).2) else
  bif e.Kind == 7 then ((aG9 c e).1,0,(aG9 c e).2) else ay7 c e
theorem co2 (c:Cache) (t l:Int) (a3 a4:Bool) (ds:List ByteArray) (es:List Entry) (r le:Int) (xs:List ByteArray):S6 ⟨r,le,P9 t l a3 a4 ds c.U,es⟩ xs=S6 c xs:=by
  unfold S6
  congr 1
  funext d
  show (!(P9 t l a3 a4 ds c.U).any (fun x=>p4 x.b7 d))=!c.U.any (fun x=>p4 x.b7 d)
  rw [bS6]
theorem cT3 {c:Cache} (ok:N5 c) {e:k7} (hd:e.j9.length≤200) (hs0:0≤e.j4) (hs1:e.j4≤100000000) (V9:0≤e.At) (A9:e.At≤1000000000) (hsd:as2 e.j9) :
    aj5.f c e=(aB6 e).bind fun y=>bif y != 0 then some (noA,y,c) else bif decide (e.At<ab1 c) then some (noA,11,c) else some (Z1 c e):=by
  have hf:=ok.fit
  have hsm:=hf.small
  have hbl:=ok.bl
  have hel:=ok.el
  unfold aj5.f
  rw [co1 hsd]
  congr 1
  funext y
  cases y != 0
  · have e2:S8.f (⟨c.Room,c.c4,c.U,c.Entries⟩:Cache)=some (ab1 c):=cR6 (c:=c) (by omega) (by omega)
    have S7:aE1.f (⟨c.Room,c.c4,c.U,c.Entries⟩:Cache) e.b7=_:=bh7 (c:=c) hsm ok.bs e.b7
    have S2:aS3.f (⟨c.Room,c.c4,c.U,c.Entries⟩:Cache) e=_:=cT2 (c:=c) ok e hs0 hs1 V9 A9
    have bq5:R4.f (⟨c.Room,c.c4,c.U,c.Entries⟩:Cache) [e.b7] e.At true true=_:=bq0 (c:=c) hsm ok.bs V9 A9 ok.ay9 ok.az0 (ds:=[e.b7]) (by simp) true true
    have W8:R4.f (⟨c.Room,c.c4,c.U,c.Entries⟩:Cache) e.j9 e.At false true=_:=bq0 (c:=c) hsm ok.bs V9 A9 ok.ay9 ok.az0 (ds:=e.j9) (by omega) false true
    have aW6:am6 ⟨c.Room,c.c4,P9 e.At c.c4 false true e.j9 c.U,c.Entries⟩:=bE4 (fun y=>by cases Q2 e.j9 y.b7 <;> rfl) hsm
    have cT4:(P9 e.At c.c4 false true e.j9 c.U).Pairwise (fun a b=>x9 a.b7 b.b7=true):=bb8 (fun y=>by cases Q2 e.j9 y.b7 <;> rfl) ok.bs
    have aW8:=bS0 (c:=(⟨c.Room,c.c4,P9 e.At c.c4 false true e.j9 c.U,c.Entries⟩:Cache)) aW6 cT4 (l:=e.j9) (by omega)
    rw [co2] at aW8
    have am7:az2.f (⟨c.Room,c.c4,c.U,c.Entries⟩:Cache) e=_:=cS7 (c:=c) ok e
    have e9:M9.f (⟨c.Room,c.c4,c.U,c.Entries⟩:Cache) e=_:=cS9 (c:=c) ok hd V9 A9
    have e10:bi3.f (⟨c.Room,c.c4,c.U,c.Entries⟩:Cache) e=_:=cS8 (c:=c) ok V9 A9
    have e11:af3.f (⟨c.Room,c.c4,c.U,c.Entries⟩:Cache) [e.b7]=_:=cn0 (c:=c) (l:=[e.b7]) (by simp) (by omega)
    simp only [cond_false,e2,Option.bind_some]
    cases decide (e.At<ab1 c)
    · simp only [cond_false,S7,Option.bind_some,S2,bq5,W8,aW8]
      unfold Z1
      cases e.Kind == 1
      · cases e.Kind == 2
        · cases e.Kind == 3
          · have hj:∀ b:Bool,aj5.j1 c e (((placeOf (fun x:Blob=>x.b7) c.U e.b7:Nat):Int),c.U.any (fun x=>p4 x.b7 e.b7)) b=some (bif b then af2 c e else bif e.Kind == 6 then ((aH0 c e).1,0,(aH0 c e).2) else bif e.Kind == 7 then ((aG9 c e).1,0,(aG9 c e).2) else ay7 c e):=by
              intro b
              unfold aj5.j1
              simp only [am7,e9,e10,e11,Option.bind_some,bS4]
              cases b
              · cases e.Kind == 6
                · cases e.Kind == 7
                  · simp only [cond_false]
                    unfold ay7
                    rcases aW7 ok.bs e.b7 with ⟨h1,h2⟩ | ⟨y,h1,h2,h3,h4,h5,h6⟩
                    · rw [h1,h2]
                      rfl
                    · rw [h1,h2]
                      simp only [h3,Option.bind_some,Bool.not_true,cond_false]
                      cases ae0 y e.At <;> rfl
                  · rfl
                · rfl
              · rfl
            simp only [cond_false,hj]
            cases e.Kind == 4 <;> cases e.Kind == 5 <;> rfl
          · rfl
        · rfl
      · rfl
    · rfl
  · rfl
end Go.Proofs.YtiecpfnjmlidbaaGreatDoor

namespace Go.Proofs.YtiecpfnjmlidbaaGreatDoor
open Go Go.Proofs.YtiecpfnjmlidbaaGreatDoor.Kit
structure dv8 (c c':Cache) (gone:List ByteArray) (t:Int):Prop where
  size:∀ x∈c.U,∀ y∈c'.U,y.b7=x.b7→y.j4=x.j4
  found:∀ x∈c.U,cT6 (fun x:Blob=>x.b7) c'.U x.b7=!Q2 gone x.b7
  held:∀ x∈c.U,ae0 x t=true→Q2 gone x.b7=false
  len:c.U.length≤c'.U.length+gone.length
end Go.Proofs.YtiecpfnjmlidbaaGreatDoor

namespace Go.Proofs.YtiecpfnjmlidbaaGreatDoor
open Go Go.Proofs.YtiecpfnjmlidbaaGreatDoor.Kit
theorem bC6 {e:k7} (h:aB6 e=some 0):e.j9.length≤200∧(0≤e.j4∧e.j4≤100000000)∧(0≤e.At∧e.At≤1000000000)∧bD6 e.j9∧aP0 e=false∧M8 1 8 e.Kind=true:=by
  unfold aB6 at h
  cases h1:M8 1 8 e.Kind
  · rw [h1] at h; simp at h
  · cases h2:bc3 e
    · cases h3:aP0 e
      · rw [h1,h2,h3] at h
        simp only [Bool.not_true,cond_false] at h
        cases hg:ay8 e.j9 200 with
        | none=>rw [hg] at h; cases h
        | some g =>
          rw [hg] at h
          simp only [Option.bind_some] at h
          cases hz:g != 0
          · have:g=0:=by simpa using hz
            subst this
            rw [hz] at h
            simp only [cond_false] at h
            unfold ay8 at hg
            cases hl:decide ((200:Int)<(e.j9.length:Int))
            · rw [hl] at hg
              have:=of_decide_eq_false hl
              cases h4:M8 0 100000000 e.j4
              · rw [h4] at h; simp at h
              · cases h5:M8 0 1000000000 e.At
                · rw [h4,h5] at h; simp at h
                · simp [M8] at h4 h5
                  exact ⟨by omega,h4,h5,cm4 hg,rfl,rfl⟩
            · rw [hl] at hg
              simp at hg
          · rw [hz] at h
            simp only [cond_true] at h
            injection h with h
            subst h
            simp at hz
      · rw [h1,h2,h3] at h; simp at h
    · rw [h1,h2] at h; simp at h
theorem cT7 {c:Cache} (ok:N5 c) {e:k7} (hsd:as2 e.j9) :
    aj5.f c e=(aB6 e).bind fun y=>bif y != 0 then some (noA,y,c) else bif decide (e.At<ab1 c) then some (noA,11,c) else some (Z1 c e):=by
  obtain ⟨y,hy⟩:=bF4 e
  by_cases h:y=0
  · subst h
    obtain ⟨h1,h2,h3,_⟩:=bC6 hy
    exact cT3 ok h1 h2.1 h2.2 h3.1 h3.2 hsd
  · have hn:(y != 0)=true:=by simpa using h
    unfold aj5.f
    rw [co1 hsd,hy]
    simp only [Option.bind_some,hn,cond_true]
    rfl
theorem cT8 (c:Cache) (most t:Int):(af5 c most t).length≤c.U.length:=by
  obtain ⟨r,hr2⟩:=bq6 (W7 c t) (D8 c.U - most)
  have h4:(aS4 c most t).length+r.length=(W7 c t).length:=by rw [hr2,List.length_append]; rfl
  have:=bF7 c t
  unfold af5
  rw [List.length_map]
  omega
theorem cT9 (c:Cache) (Q3:ByteArray) (size t:Int):(ab8 c Q3 size t).2.2.U.length≤c.U.length+1∧(ab8 c Q3 size t).1.x4.length≤c.U.length:=by
  have hcl:(N3 c (c.Room - size) t).1.length≤c.U.length∧(N3 c (c.Room - size) t).2.2.U.length≤c.U.length:=by
    refine ⟨?_,(bE5 c _ t).2.2.2.1⟩
    unfold N3
    cases decide (D8 (W7 c t)<D8 c.U - (c.Room - size))
    · exact cT8 c _ t
    · exact Nat.zero_le _
  unfold ab8
  cases c.U.any (fun x=>p4 x.b7 Q3)
  · cases (N3 c (c.Room - size) t).2.1
    · exact ⟨by simp only [Bool.not_false,cond_true,cond_false]; omega,Nat.zero_le _⟩
    · cases decide (3000≤((N3 c (c.Room - size) t).2.2.U.length:Int))
      · exact ⟨by simp only [Bool.not_true,cond_false,bF2]; omega,hcl.1⟩
      · exact ⟨by simp only [Bool.not_true,cond_true,cond_false]; omega,Nat.zero_le _⟩
  · simp only [cond_true]
    cases c.U[placeOf (fun x:Blob=>x.b7) c.U Q3]? with
    | none=>exact ⟨by simp,Nat.zero_le _⟩
    | some x =>
      simp only
      cases x.j4 != size
      · exact ⟨by simp [P9],Nat.zero_le _⟩
      · exact ⟨by simp,Nat.zero_le _⟩
theorem cO3 {c:Cache} (ok:N5 c) (e:k7):(Z1 c e).2.2.U.length≤4611686018427387904∧(Z1 c e).1.x4.length≤4611686018427387904:=by
  have hbl:=ok.bl
  have hp:=cT9 c e.b7 e.j4 e.At
  have same:c.U.length≤4611686018427387904∧([]:List ByteArray).length≤4611686018427387904:=⟨by omega,Nat.zero_le _⟩
  have tm:∀ (t l:Int) (a3 a4:Bool) (ds:List ByteArray),(P9 t l a3 a4 ds c.U).length≤4611686018427387904∧([]:List ByteArray).length≤4611686018427387904:=fun _ _ _ _ _=>⟨by simp only [P9,List.length_map]; omega,Nat.zero_le _⟩
  have pm:∀ (d:ByteArray) (k:Int),(az1 d k c.U).length≤4611686018427387904∧([]:List ByteArray).length≤4611686018427387904:=fun _ _=>⟨by simp only [az1,List.length_map]; omega,Nat.zero_le _⟩
  unfold Z1
  cases k1:e.Kind == 1
  · cases k2:e.Kind == 2
    · cases k3:e.Kind == 3
      · cases k4:(e.Kind == 4||e.Kind == 5)
        · cases as1:e.Kind == 6
          · cases bp0:e.Kind == 7
            · simp only [cond_false]
              unfold ay7
              cases ax0 c e.b7 with
              | none=>exact same
              | some y =>
                simp only
                cases ae0 y e.At
                · exact ⟨Nat.le_trans (List.length_filter_le _ _) (by omega),by simp⟩
                · exact same
            · simp only [cond_false,cond_true]
              unfold aG9
              cases bi2 c e.Key with
              | none=>exact same
              | some x =>
                simp only
                cases decide (0<((S6 c x.Refs).length:Int))
                · exact tm _ _ _ _ _
                · exact same
          · simp only [cond_false,cond_true]
            unfold aH0
            cases decide (0<((S6 c e.j9).length:Int))
            · cases c.Entries.any (fun x=>p4 x.Key e.Key)
              · exact tm _ _ _ _ _
              · exact tm _ _ _ _ _
            · exact same
        · simp only [cond_false,cond_true]
          unfold af2
          cases ax0 c e.b7 with
          | none=>exact same
          | some y =>
            simp only
            cases e.Kind == 5
            · cases decide (3000≤y.q4)
              · exact pm _ _
              · exact same
            · cases y.q4 == 0
              · exact pm _ _
              · exact same
      · exact tm _ _ _ _ _
    · exact tm _ _ _ _ _
  · simp only [cond_true]
    exact ⟨by omega,by omega⟩
end Go.Proofs.YtiecpfnjmlidbaaGreatDoor
