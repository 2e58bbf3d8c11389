/- Digests and caches as the program and the reference check them: the same. -/
import Derived.Test.YtiecpfnjmlidbaaGreatDoorPO
import Derived.Test.YtiecpfnjmlidbaaGreatDoorPSame
set_option linter.unusedVariables false
set_option linter.unusedSimpArgs false
namespace Go.Proofs.YtiecpfnjmlidbaaGreatDoor
open Go Go.Proofs.YtiecpfnjmlidbaaGreatDoor.Kit
theorem ck9:bC7.f=some true:=by kernel_rfl
def bb4 (b:UInt8):Bool:=(decide (48≤b.toNat)&&decide (b.toNat≤57))||(decide (97≤b.toNat)&&decide (b.toNat≤102))
def Q8 (s:ByteArray):Bool:=decide (s.size=16)&&s.data.toList.all bb4
theorem bC8 (s:ByteArray):aS0.f s=some (Q8 s):=by
  unfold aS0.f Q8
  by_cases h:s.size=16
  · have e1:((s.size:Int) == 16)=true:=by simp; omega
    rw [e1,decide_eq_true h]
    simp only [cond_true,Bool.true_and,strings_Trim.f]
    have g1:decide (s.size≤9223372036854775807)=true:=decide_eq_true (by omega)
    have g2:decide (((⟨#[48,49,50,51,52,53,54,55,56,57,97,98,99,100,101,102]⟩:ByteArray)).size<4294967281)=true:=by kernel_rfl
    have g3:((⟨#[48,49,50,51,52,53,54,55,56,57,97,98,99,100,101,102]⟩:ByteArray).data.toList.all (fun b=>decide (b.toNat<128)))=true:=by kernel_rfl
    rw [g1,g2,g3]
    simp only [Bool.and_self,G5,cond_true,Option.bind_some,Option.some.injEq]
    have hs:∀ (x:List UInt8),p4 ⟨x.toArray⟩ ⟨#[]⟩=(x == []):=by
      intro x
      unfold p4
      simp [ByteArray.toList_eq]
    rw [hs,cO4]
    congr 1
    funext c
    have cO5:∀ c:UInt8,([48,49,50,51,52,53,54,55,56,57,97,98,99,100,101,102]:List UInt8).contains c=bb4 c:=fun c=>by
      have:=cl0 (p:=fun c=>([48,49,50,51,52,53,54,55,56,57,97,98,99,100,101,102]:List UInt8).contains c == bb4 c) (by kernel_rfl) c
      simpa using this
    exact cO5 c
  · have e1:((s.size:Int) == 16)=false:=by simp; omega
    rw [e1,decide_eq_false h]
    rfl
theorem cO6 (s:ByteArray) (h:s.size≤4611686018427387904):∀ (d k:Nat) (v:Int),0≤v→v≤s.size→(s.size:Int) - v=d→d<k→ab9.l2 ab9.e1 k s v=some (decide (s.size=16)&&(s.data.toList.drop v.toNat).all bb4):=by
  intro d
  induction d with
  | zero =>
    intro k v h0 h1 hd hk
    obtain ⟨k,rfl⟩:∃ m,k=m+1:=⟨k - 1,by omega⟩
    have e:decide (v<(s.size:Int))=false:=decide_eq_false (by omega)
    have hn:s.data.toList.drop v.toNat=[]:=List.drop_eq_nil_of_le (by simp; show s.size≤_; omega)
    rw [ab9.l2,e,hn]
    have:((s.size:Int) == 16)=decide (s.size=16):=by
      by_cases h:s.size=16 <;> simp [h]
      omega
    simp [ab9.e1,this]
  | succ d ih =>
    intro k v h0 h1 hd hk
    obtain ⟨k,rfl⟩:∃ m,k=m+1:=⟨k - 1,by omega⟩
    have e:decide (v<(s.size:Int))=true:=decide_eq_true (by omega)
    have e0:decide ((0:Int)≤v)=true:=decide_eq_true (by omega)
    have hn:v.toNat<s.data.toList.length:=by simp; show _<s.size; omega
    have hb:bt s v=((s.data.toList[v.toNat]).toNat:Int):=by
      have:=cO7 (s:=s) (i:=v.toNat) (List.getElem?_eq_getElem hn)
      rwa [Int.toNat_of_nonneg h0] at this
    have hw:c5 (v+1)=v+1:=B7 (by omega) (by omega)
    rw [ab9.l2,e,e0,hb,hw,ih k (v+1) (by omega) (by omega) (by omega) (by omega),List.drop_eq_getElem_cons hn,show (v+1).toNat=v.toNat+1 by omega]
    simp only [Bool.and_self,G5,cond_true,List.all_cons]
    generalize s.data.toList[v.toNat]=c
    generalize List.all _ _=r
    generalize decide (s.size=16)=q
    have key:∀ c:UInt8,(bif decide (48≤(c.toNat:Int)) then (bif decide ((c.toNat:Int)≤57) then (some false) else (bif decide (97≤(c.toNat:Int)) then (some (!(decide ((c.toNat:Int)≤102)))) else (some true))) else (bif decide (97≤(c.toNat:Int)) then (some (!(decide ((c.toNat:Int)≤102)))) else (some true)))=some (!bb4 c):=fun c=>of_decide_eq_true (cl0 (p:=fun c=>decide ((bif decide (48≤(c.toNat:Int)) then (bif decide ((c.toNat:Int)≤57) then (some false) else (bif decide (97≤(c.toNat:Int)) then (some (!(decide ((c.toNat:Int)≤102)))) else (some true))) else (bif decide (97≤(c.toNat:Int)) then (some (!(decide ((c.toNat:Int)≤102)))) else (some true)))=some (!bb4 c))) (by kernel_rfl) c)
    rw [key c]
    cases bb4 c <;> cases q <;> rfl
theorem bp1 (s:ByteArray) (h:s.size≤4611686018427387904):ab9.f s=some (Q8 s):=by
  unfold ab9.f
  have:=cO6 s h s.size n8 0 (by omega) (by omega) (by omega) (by unfold n8; omega)
  simpa [Q8] using this
theorem bp2 (a b c:Int):aH1.f a b c=some (M8 b c a):=by
  unfold aH1.f M8
  cases decide (b≤a) <;> rfl
theorem bC9 (a b c:Int):aB4.f a b c=some (M8 b c a):=by
  unfold aB4.f M8
  cases decide (b≤a) <;> rfl
def bp3 (p:Option ByteArray) (x:ByteArray) (k:Option Int):Option Int :=
  bif !Q8 x then some 3 else bif au6 (fun y=>x9 x y||p4 x y) p then some 8 else k
def aV9 (l:List ByteArray):Option Int:=ao8 bp3 (some 0) none l
def ay8 (l:List ByteArray) (n:Int):Option Int:=bif decide (n<(l.length:Int)) then some 2 else aV9 l
def as2 (l:List ByteArray):Prop:=l.length≤2305843009213693952∧∀ x∈l,x.size≤4611686018427387904
theorem cl1 {l:List ByteArray} {n:Int} (h:as2 l):aj2.f l n=ay8 l n:=by
  have hl:l.length≤4611686018427387904:=by have:=h.1; omega
  unfold aj2.f ay8
  congr 1
  refine bp4 (L:=fun k v=>aj2.l2 aj2.e1 k l v) hl (fun k v h0 h1=>?_)
  simp only [aj2.l2]
  congr 1
  refine aS1 (fun x hx=>?_)
  rw [bC8,bh0 (P:=fun y=>x9 x y||p4 x y) h0 h1 hl]
  simp only [Option.bind_some]
  rfl
theorem cl2 {l:List ByteArray} (h:as2 l):aj3.f l=aV9 l:=by
  have hl:l.length≤4611686018427387904:=by have:=h.1; omega
  unfold aj3.f aV9
  refine bp4 (L:=fun k v=>aj3.l2 aj3.e1 k l v) hl (fun k v h0 h1=>?_)
  simp only [aj3.l2]
  congr 1
  refine bR4 (fun x hat hx=>?_)
  simp only [hat,Option.bind_some]
  rw [bp1 _ (h.2 x hx),bh0 (P:=fun y=>x9 x y||p4 x y) h0 h1 hl]
  simp only [Option.bind_some]
  rfl
theorem bR5 (l:List ByteArray):∃ r,aV9 l=some r:=by
  refine bD0 (fun p x k hk=>?_) ⟨_,rfl⟩ l none
  unfold bp3
  cases Q8 x <;> cases au6 (fun y=>x9 x y||p4 x y) p <;> first | exact hk | exact ⟨_,rfl⟩
def aS2 (x:Blob):Bool:=!M8 0 100000000 x.j4||(!M8 0 1000000000 x.Used||(!M8 0 1001000000 x.u6||!M8 0 3000 x.q4))
def aK3 (p:Option Blob) (x:Blob) (k:Option Int):Option Int :=
  bif !Q8 x.b7 then some 3 else bif aS2 x then some 1 else bif au6 (fun y=>x9 x.b7 y.b7||p4 x.b7 y.b7) p then some 8 else k
def cl3 (p:Option Blob) (x:Blob) (s:Int) (k:Int→Option Int):Option Int :=
  bif !Q8 x.b7 then some 3 else bif aS2 x then some 1 else bif au6 (fun y=>x9 x.b7 y.b7||p4 x.b7 y.b7) p then some 8 else k (c5 (s+x.j4))
def Z2:Int→List Blob→Int
  | s,[]=>s
  | s,x::l=>Z2 (c5 (s+x.j4)) l
def bh1 (room:Int) (s:Int):Option Int:=bif decide (room<s) then some 16 else some 0
def aO5 (l:List Blob) (room:Int):Option Int:=bif decide (3000<(l.length:Int)) then some 2 else ao8 aK3 (bh1 room (Z2 0 l)) none l
theorem cl4 (e:Int→Option Int):∀ (l:List Blob) (p:Option Blob) (s:Int),bh2 cl3 e p l s=ao8 aK3 (e (Z2 s l)) p l
  | [],_,_=>rfl
  | x::l,p,s=>by
    simp only [bh2,ao8,cl3,aK3,cl4 e l,Z2]
theorem four (a b c d:Bool):(bif !a then (some true) else (bif !b then (some true) else (bif !c then (some true) else (some (!d)))))=some (!a||(!b||(!c||!d))):=by
  cases a <;> cases b <;> cases c <;> cases d <;> rfl
theorem two (a b:Bool):(bif !a then (some true) else (some (!b)))=some (!a||!b):=by
  cases a <;> cases b <;> rfl
def am6 (c:Cache):Prop:=(c.U.length≤2305843009213693952∧∀ x∈c.U,x.b7.size≤4611686018427387904)∧(c.Entries.length≤2305843009213693952∧∀ x∈c.Entries,x.Key.size≤4611686018427387904∧as2 x.Refs)
theorem cO8 {l:List Blob} {room:Int} (h:l.length≤2305843009213693952):ak9.f l room=aO5 l room:=by
  have hl:l.length≤4611686018427387904:=by omega
  unfold ak9.f aO5
  congr 1
  rw [← cl4 (bh1 room) l none 0]
  refine cO9 (L:=fun k s v=>ak9.l2 ak9.e1 k l room s v) hl (fun k s v h0 h1=>?_) 0
  simp only [ak9.l2]
  congr 1
  refine aS1 (fun x hx=>?_)
  rw [bC8,bh0 (P:=fun y=>x9 x.b7 y.b7||p4 x.b7 y.b7) h0 h1 hl]
  simp only [Option.bind_some,bp2,aW0.f,four]
  rfl
def aW1 (p:Option Entry) (x:Entry) (k:Option Int):Option Int :=
  bif !Q8 x.Key then some 3 else (ay8 x.Refs 200).bind fun f=>bif f != 0 then some f else bif !M8 0 1000000000 x.Used then some 1 else
  bif au6 (fun y=>x9 x.Key y.Key||p4 x.Key y.Key) p then some 8 else k
def aO6 (l:List Entry):Option Int:=bif decide (1000<(l.length:Int)) then some 2 else ao8 aW1 (some 0) none l
def aK4 (c:Cache):Option Int :=
  bif !M8 0 1000000000 c.Room||!M8 0 1000000 c.c4 then some 1 else (aO5 c.U c.Room).bind fun f=>bif f != 0 then some f else aO6 c.Entries
theorem cl5 {c:Cache} (h:am6 c):ae1.f c=aK4 c:=by
  have hl:c.Entries.length≤4611686018427387904:=by have:=h.2.1; omega
  unfold ae1.f aK4 aO6
  rw [cO8 h.1.1]
  have cP0:ae1.l2 ae1.e1 n8 c 0=ao8 aW1 (some 0) none c.Entries:=by
    refine bp4 (L:=fun k v=>ae1.l2 ae1.e1 k c v) hl (fun k v h0 h1=>?_)
    simp only [ae1.l2]
    congr 1
    refine aS1 (fun x hx=>?_)
    rw [bC8,cl1 (h.2.2 x hx).2,bh0 (P:=fun y=>x9 x.Key y.Key||p4 x.Key y.Key) h0 h1 hl]
    simp only [Option.bind_some,bp2,aW0.f]
    rfl
  rw [cP0]
  simp only [bp2,Option.bind_some,two]
theorem bD1 {l:List Blob} (h:l.length≤4611686018427387904):ag4.f l=some (Z2 0 l):=by
  unfold ag4.f
  rw [as3 (L:=fun k s v=>ag4.l2 ag4.e1 k l s v) (body:=fun v x s f=>f (c5 (s+x.j4))) (e:=fun s=>some s) h (fun k s v=>rfl) 0]
  have key:∀ (l:List Blob) (i s:Int),au7 (fun v (x:Blob) s f=>f (c5 (s+x.j4))) (fun s=>some s) i l s=some (Z2 s l):=by
    intro l
    induction l with
    | nil=>intro i s; rfl
    | cons x t ih=>intro i s; simp only [au7,Z2]; exact ih _ _
  exact key l 0 0
theorem cl6 {c:Cache} (h:c.U.length≤4611686018427387904):ac0.f c=some (Z2 0 c.U):=by
  unfold ac0.f
  rw [as3 (L:=fun k s v=>ac0.l2 ac0.e1 k c s v) (body:=fun v x s f=>f (c5 (s+x.j4))) (e:=fun s=>some s) h (fun k s v=>rfl) 0]
  have key:∀ (l:List Blob) (i s:Int),au7 (fun v (x:Blob) s f=>f (c5 (s+x.j4))) (fun s=>some s) i l s=some (Z2 s l):=by
    intro l
    induction l with
    | nil=>intro i s; rfl
    | cons x t ih=>intro i s; simp only [au7,Z2]; exact ih _ _
  exact key c.U 0 0
theorem cl7 {G:Int→Option Int} (h1:G 1=some 1) (h3:G 3=some 3) (h8:G 8=some 8) (k0:Option Int):∀ (l:List Blob) (p:Option Blob),(ao8 aK3 k0 p l).bind G=ao8 aK3 (k0.bind G) p l
  | [],_=>rfl
  | x::l,p=>by
    simp only [ao8]
    rw [← cl7 h1 h3 h8 k0 l (some x)]
    unfold aK3
    cases Q8 x.b7 <;> cases aS2 x <;> cases au6 (fun y=>x9 x.b7 y.b7||p4 x.b7 y.b7) p <;> simp [h1,h3,h8]
theorem cP1 {c:Cache} (h:am6 c):Q1.f c=aK4 c:=by
  have hl:c.Entries.length≤4611686018427387904:=by have:=h.2.1; omega
  have hb:c.U.length≤4611686018427387904:=by have:=h.1.1; omega
  unfold Q1.f aK4 aO5
  have cP2:Q1.l3 Q1.e2 n8 c 0=ao8 aW1 (some 0) none c.Entries:=by
    refine bp4 (L:=fun k v=>Q1.l3 Q1.e2 k c v) hl (fun k v h0 h1=>?_)
    simp only [Q1.l3]
    congr 1
    refine aS1 (fun x hx=>?_)
    rw [bp1 _ (h.2.2 x hx).1,cl2 (h.2.2 x hx).2,bh0 (P:=fun y=>x9 x.Key y.Key||p4 x.Key y.Key) h0 h1 hl]
    simp only [Option.bind_some,bC9]
    unfold aW1 ay8
    cases decide (200<(x.Refs.length:Int)) <;> rfl
  have cP3:Q1.l4 Q1.e1 n8 c 0=ao8 aK3 (Q1.e1 c) none c.U:=by
    refine bp4 (L:=fun k v=>Q1.l4 Q1.e1 k c v) hb (fun k v h0 h1=>?_)
    simp only [Q1.l4]
    congr 1
    refine aS1 (fun x hx=>?_)
    rw [bp1 _ (h.1.2 x hx),bh0 (P:=fun y=>x9 x.b7 y.b7||p4 x.b7 y.b7) h0 h1 hb]
    simp only [Option.bind_some,bC9,four]
    rfl
  rw [cP3]
  unfold Q1.e1
  rw [cP2,bD1 hb]
  simp only [bC9,Option.bind_some,two]
  cases (!M8 0 1000000000 c.Room||!M8 0 1000000 c.c4)
  · simp only [cond_false]
    cases decide (3000<(c.U.length:Int))
    · simp only [cond_false]
      rw [cl7 (G:=fun f=>bif f != 0 then some f else aO6 c.Entries) rfl rfl rfl]
      congr 1
      unfold bh1 aO6
      cases decide (c.Room<Z2 0 c.U) <;> rfl
    · rfl
  · rfl
theorem cP4 (l:List Entry):∃ r,aO6 l=some r:=by
  unfold aO6
  cases decide (1000<(l.length:Int))
  · refine bD0 (fun p x k hk=>?_) ⟨_,rfl⟩ l none
    unfold aW1 ay8
    obtain ⟨r,hr⟩:=bR5 x.Refs
    rw [hr]
    cases Q8 x.Key
    · exact ⟨_,rfl⟩
    · cases decide (200<(x.Refs.length:Int))
      · simp only [Bool.not_true,cond_false,Option.bind_some]
        cases r != 0
        · cases (!M8 0 1000000000 x.Used) <;> cases au6 (fun y=>x9 x.Key y.Key||p4 x.Key y.Key) p <;> first | exact hk | exact ⟨_,rfl⟩
        · exact ⟨_,rfl⟩
      · exact ⟨_,rfl⟩
  · exact ⟨_,rfl⟩
theorem cP5 (l:List Blob) (room:Int):∃ r,aO5 l room=some r:=by
  unfold aO5
  cases decide (3000<(l.length:Int))
  · refine bD0 (fun p x k hk=>?_) ?_ l none
    · unfold aK3
      cases Q8 x.b7 <;> cases aS2 x <;> cases au6 (fun y=>x9 x.b7 y.b7||p4 x.b7 y.b7) p <;> first | exact hk | exact ⟨_,rfl⟩
    · unfold bh1
      cases decide (room<Z2 0 l) <;> exact ⟨_,rfl⟩
  · exact ⟨_,rfl⟩
theorem cl8 (c:Cache):∃ r,aK4 c=some r:=by
  unfold aK4
  obtain ⟨r,hr⟩:=cP5 c.U c.Room
  obtain ⟨q,hq⟩:=cP4 c.Entries
  rw [hr,hq]
  cases (!M8 0 1000000000 c.Room||!M8 0 1000000 c.c4)
  · simp only [cond_false,Option.bind_some]
    cases r != 0 <;> exact ⟨_,rfl⟩
  · exact ⟨_,rfl⟩
end Go.Proofs.YtiecpfnjmlidbaaGreatDoor
