/- Caches: what an event does, the program's side: touched blobs, the newest moment, putting. -/
import Derived.Test.YtiecpfnjmlidbaaGreatDoorPMgd
set_option linter.unusedVariables false
set_option linter.unusedSimpArgs false
namespace Go.Proofs.YtiecpfnjmlidbaaGreatDoor
open Go Go.Proofs.YtiecpfnjmlidbaaGreatDoor.Kit
def ag6 (t ag7:Int) (a3 a4:Bool) (y:Blob):Blob:=⟨y.b7,y.j4,bif a3 then t else y.Used,bif a4 then max2 y.u6 (t+ag7) else y.u6,y.q4⟩
def P9 (t ag7:Int) (a3 a4:Bool) (ds:List ByteArray) (bl:List Blob):List Blob:=bl.map (fun y=>bif Q2 ds y.b7 then ag6 t ag7 a3 a4 y else y)
theorem bi0 {α:Type} {key:α→ByteArray} {l:List α} {p:Nat} {y:α} {f:α→α} (hs:l.Pairwise (fun a b=>x9 (key a) (key b)=true)) (hp:l[p]? = some y) :
    l.set p (f y)=l.map (fun x=>bif p4 (key x) (key y) then f x else x):=by
  have hl:p<l.length:=by
    rcases Nat.lt_or_ge p l.length with h | h
    · exact h
    · rw [List.getElem?_eq_none h] at hp; cases hp
  have hy:l[p]=y:=by
    rw [List.getElem?_eq_getElem hl] at hp
    injection hp
  apply List.ext_getElem?
  intro n
  rw [List.getElem?_set,List.getElem?_map]
  by_cases h:p=n
  · subst h
    rw [if_pos rfl,if_pos hl,hp]
    simp only [Option.map_some,aO8,cond_true]
  · rw [if_neg h]
    rcases Nat.lt_or_ge n l.length with hn | hn
    · rw [List.getElem?_eq_getElem hn]
      have hne:p4 (key l[n]) (key y)=false:=by
        have hpw:=List.pairwise_iff_getElem.1 hs
        rcases Nat.lt_or_ge n p with g | g
        · have:=hpw n p hn hl g
          rw [hy] at this
          exact bE3 this
        · have:=hpw p n hl hn (by omega)
          rw [hy] at this
          cases hc:p4 (key l[n]) (key y)
          · rfl
          · rw [as4.1 hc,bb5] at this
            cases this
      simp only [Option.map_some,hne,cond_false]
    · rw [List.getElem?_eq_none hn]
      rfl
theorem cR5 (t ag7:Int) (a3 a4:Bool) (y:Blob):ag6 t ag7 a3 a4 (ag6 t ag7 a3 a4 y)=ag6 t ag7 a3 a4 y:=by
  unfold ag6
  cases a3 <;> cases a4 <;> simp only [cond_true,cond_false]
  all_goals
    congr 1
    unfold max2
    by_cases h:t+ag7 > y.u6
    · rw [if_pos h,if_neg (by omega)]
    · rw [if_neg h,if_neg h]
theorem bp9 (t ag7:Int) (a3 a4:Bool) (d:ByteArray) (l:List ByteArray) (bl:List Blob) :
    P9 t ag7 a3 a4 l (bl.map (fun x=>bif p4 x.b7 d then ag6 t ag7 a3 a4 x else x))=P9 t ag7 a3 a4 (d::l) bl:=by
  unfold P9
  rw [List.map_map]
  apply List.map_congr_left
  intro y _
  simp only [Function.comp]
  have e:Q2 (d::l) y.b7=(p4 y.b7 d||Q2 l y.b7):=by
    unfold Q2
    rw [List.any_cons]
    congr 1
    by_cases hx:d=y.b7
    · rw [← hx,aO8]; simp
    · rw [decide_eq_false hx]
      cases he:p4 y.b7 d
      · rfl
      · exact absurd (as4.1 he).symm hx
  rw [e]
  cases h:p4 y.b7 d
  · simp only [cond_false,Bool.false_or]
  · simp only [cond_true,Bool.true_or]
    rw [cR5]
    cases Q2 l (ag6 t ag7 a3 a4 y).b7 <;> rfl
theorem bb8 {f:Blob→Blob} (hf:∀ x,(f x).b7=x.b7) {l:List Blob} (hs:l.Pairwise (fun a b=>x9 a.b7 b.b7=true)):(l.map f).Pairwise (fun a b=>x9 a.b7 b.b7=true):=by
  rw [List.pairwise_map]
  exact hs.imp (fun h=>by rw [hf,hf]; exact h)
theorem bE4 {c:Cache} {f:Blob→Blob} (hf:∀ x,(f x).b7=x.b7) {bl:List Blob} (h:am6 ⟨c.Room,c.c4,bl,c.Entries⟩):am6 ⟨c.Room,c.c4,bl.map f,c.Entries⟩:=by
  refine ⟨⟨by have:=h.1.1; simpa using this,fun x hx=>?_⟩,h.2⟩
  obtain ⟨y,hy,rfl⟩:=List.mem_map.1 hx
  rw [hf]
  exact h.1.2 y hy
theorem bb9 (t ag7:Int) (a3 a4:Bool) (d:ByteArray) (x:Blob):(bif p4 x.b7 d then ag6 t ag7 a3 a4 x else x).b7=x.b7:=by
  cases p4 x.b7 d <;> rfl
theorem bq0 {c:Cache} (hs:am6 c) (hp:c.U.Pairwise (fun a b=>x9 a.b7 b.b7=true)) {t:Int} (V9:0≤t) (A9:t≤1000000000) (hl0:0≤c.c4) (hl1:c.c4≤1000000)
    {ds:List ByteArray} (hd:ds.length≤4611686018427387904) (a3 a4:Bool):R4.f c ds t a3 a4=some ⟨c.Room,c.c4,P9 t c.c4 a3 a4 ds c.U,c.Entries⟩:=by
  have main:∀ (l:List ByteArray) (k v:Nat) (bl:List Blob),ds.drop v=l→v≤ds.length→am6 ⟨c.Room,c.c4,bl,c.Entries⟩→bl.Pairwise (fun a b=>x9 a.b7 b.b7=true)→l.length<k →
      R4.l1 k c ds t a3 a4 bl (v:Int)=some ⟨c.Room,c.c4,P9 t c.c4 a3 a4 l bl,c.Entries⟩:=by
    intro l
    induction l with
    | nil =>
      intro k v bl h1 h2 h3 h4 h5
      obtain ⟨k,rfl⟩:∃ m,k=m+1:=⟨k - 1,by omega⟩
      have hv:ds.length≤v:=List.drop_eq_nil_iff.1 h1
      rw [R4.l1,decide_eq_false (by omega),cond_false]
      simp [P9,Q2]
    | cons x l ih =>
      intro k v bl h1 h2 h3 h4 h5
      simp only [List.length_cons] at h5
      obtain ⟨k,rfl⟩:∃ m,k=m+1:=⟨k - 1,by omega⟩
      have hv:v<ds.length:=by
        rcases Nat.lt_or_ge v ds.length with h | h
        · exact h
        · rw [List.drop_eq_nil_of_le h] at h1; cases h1
      rw [List.drop_eq_getElem_cons hv] at h1
      injection h1 with g1 g2
      have hw:c5 ((v:Int)+1)=((v+1:Nat):Int):=by rw [B7 (by omega) (by omega)]; omega
      have hq:c5 (t+c.c4)=t+c.c4:=B7 (by omega) (by omega)
      rw [R4.l1,decide_eq_true (by omega),Z6 hv,g1]
      simp only [cond_true,Option.bind_some]
      rw [bh7 h3 h4]
      simp only [Option.bind_some,R4.j2,R4.j3,hw,hq]
      rw [← bp9,← ih k (v+1) _ g2 (by omega) (bE4 (fun y=>bb9 t c.c4 a3 a4 x y) h3) (bb8 (fun y=>bb9 t c.c4 a3 a4 x y) h4) (by omega)]
      cases ha:bl.any (fun y=>p4 y.b7 x)
      · have e:bl.map (fun y=>bif p4 y.b7 x then ag6 t c.c4 a3 a4 y else y)=bl:=by
          have:∀ y∈bl,(fun y:Blob=>bif p4 y.b7 x then ag6 t c.c4 a3 a4 y else y) y=id y:=fun y hy=>by
            have:p4 y.b7 x=false:=by
              cases hc:p4 y.b7 x
              · rfl
              · rw [List.any_eq_true.2 ⟨y,hy,hc⟩] at ha; cases ha
            simp only [this,cond_false,id]
          rw [List.map_congr_left this,List.map_id]
        rw [e]
        rfl
      · obtain ⟨y,hy,hym,hye,X2⟩:=aH2 (key:=fun y:Blob=>y.b7) h4 ha
        have hyx:y.b7=x:=as4.1 hye
        have hlt:placeOf (fun y:Blob=>y.b7) bl x<bl.length:=by
          rcases Nat.lt_or_ge (placeOf (fun y:Blob=>y.b7) bl x) bl.length with h | h
          · exact h
          · rw [List.getElem?_eq_none h] at X2; cases X2
        have hset:∀ z:Blob,o7 (bl.set (placeOf (fun y:Blob=>y.b7) bl x) z) ((placeOf (fun y:Blob=>y.b7) bl x:Nat):Int)=some z:=fun z=>by
          rw [Z6 (by rw [List.length_set]; exact hlt)]
          simp
        have e:=bi0 (key:=fun y:Blob=>y.b7) (f:=ag6 t c.c4 a3 a4) h4 X2
        simp only [hyx] at e
        rw [← e]
        cases a3 <;> cases a4 <;> simp only [cond_true,cond_false,Option.bind_some,hy,hset,Int.toNat_natCast,List.set_set,ag6]
        rw [show (⟨y.b7,y.j4,y.Used,y.u6,y.q4⟩:Blob)=y from rfl]
        congr 1
        symm
        apply List.ext_getElem?
        intro n
        rw [List.getElem?_set]
        by_cases hn:placeOf (fun y:Blob=>y.b7) bl x=n
        · subst hn
          simp [hlt]
          rw [List.getElem?_eq_getElem hlt] at X2
          injection X2 with X2
          exact X2.symm
        · simp [hn]
  exact main ds n8 0 c.U rfl (by omega) hs hp (by unfold n8; omega)
def ab1 (c:Cache):Int:=c.Entries.foldl (fun n x=>max2 n x.Used) (c.U.foldl (fun n x=>max2 n x.Used) 0)
theorem cR6 {c:Cache} (hb:c.U.length≤4611686018427387904) (he:c.Entries.length≤4611686018427387904):S8.f c=some (ab1 c):=by
  unfold S8.f
  rw [as3 (xs:=c.U) (S:=Int) (L:=fun k s v=>S8.l4 S8.e1 k c s v) (body:=fun _ x s f=>f ((fun n (x:Blob)=>max2 n x.Used) s x)) (e:=fun s=>S8.e1 c s) hb (fun k s v=>rfl) 0]
  rw [bE2 (g:=fun n (x:Blob)=>max2 n x.Used)]
  unfold S8.e1
  rw [as3 (xs:=c.Entries) (S:=Int) (L:=fun k s v=>S8.l3 S8.e2 k c s v) (body:=fun _ x s f=>f ((fun n (x:Entry)=>max2 n x.Used) s x)) (e:=fun s=>S8.e2 s) he (fun k s v=>rfl)]
  rw [bE2 (g:=fun n (x:Entry)=>max2 n x.Used)]
  rfl
def noA:k6:=⟨false,[],[]⟩
def ab8 (c:Cache) (Q3:ByteArray) (size t:Int):k6 × Int × Cache :=
  bif c.U.any (fun x=>p4 x.b7 Q3) then
    (match c.U[placeOf (fun x:Blob=>x.b7) c.U Q3]? with
    | some x=>bif x.j4 != size then (noA,12,c) else (⟨true,[],[]⟩,0,⟨c.Room,c.c4,P9 t c.c4 true true [Q3] c.U,c.Entries⟩)
    | none=>(noA,12,c))
  else bif !(N3 c (c.Room - size) t).2.1 then (noA,0,(N3 c (c.Room - size) t).2.2) else
  bif decide (3000≤((N3 c (c.Room - size) t).2.2.U.length:Int)) then (noA,16,(N3 c (c.Room - size) t).2.2) else
  (⟨true,[],(N3 c (c.Room - size) t).1⟩,0,⟨c.Room,c.c4,aq7 (N3 c (c.Room - size) t).2.2.U (placeOf (fun x:Blob=>x.b7) (N3 c (c.Room - size) t).2.2.U Q3) ⟨Q3,size,t,t+c.c4,0⟩,c.Entries⟩)
theorem bE5 (c:Cache) (most t:Int):(N3 c most t).2.2.Room=c.Room∧(N3 c most t).2.2.c4=c.c4∧(N3 c most t).2.2.Entries=c.Entries∧(N3 c most t).2.2.U.length≤c.U.length∧(∀ x∈(N3 c most t).2.2.U,x∈c.U)∧(c.U.Pairwise (fun a b=>x9 a.b7 b.b7=true)→(N3 c most t).2.2.U.Pairwise (fun a b=>x9 a.b7 b.b7=true)):=by
  unfold N3
  cases decide (D8 (W7 c t)<D8 c.U - most)
  · exact ⟨rfl,rfl,rfl,List.length_filter_le _ _,fun x hx=>(List.mem_filter.1 hx).1,fun h=>h.filter _⟩
  · exact ⟨rfl,rfl,rfl,Nat.le_refl _,fun x hx=>hx,fun h=>h⟩
theorem cR7 {c:Cache} (ok:N5 c) {Q3:ByteArray} {size t:Int} (hs0:0≤size) (hs1:size≤100000000) (V9:0≤t) (A9:t≤1000000000):aS3.f c (⟨1,t,Q3,[],ByteArray.empty,size⟩:k7)=some (ab8 c Q3 size t):=by
  have hr0:=ok.aW3
  have I0:=ok.aW4
  have hl0:=ok.ay9
  have hl1:=ok.az0
  have hsm:=ok.fit.small
  unfold aS3.f ab8
  have e1:aE1.f (⟨c.Room,c.c4,c.U,c.Entries⟩:Cache) Q3=_:=bh7 (c:=c) hsm ok.bs Q3
  simp only [e1,Option.bind_some]
  cases ha:c.U.any (fun x=>p4 x.b7 Q3)
  · simp only [cond_false]
    have e2:af4.f (⟨c.Room,c.c4,c.U,c.Entries⟩:Cache) (c.Room - size) t=some (N3 c (c.Room - size) t):=cR8 (c:=c) ok.bl ok.sz (by omega) (by omega)
    rw [B7 (by omega) (by omega),e2]
    simp only [Option.bind_some]
    obtain ⟨m1,m2,m3,m4,m5,m6⟩:=bE5 c (c.Room - size) t
    have hbl:=ok.bl
    have aW6:am6 (⟨(N3 c (c.Room - size) t).2.2.Room,(N3 c (c.Room - size) t).2.2.c4,(N3 c (c.Room - size) t).2.2.U,(N3 c (c.Room - size) t).2.2.Entries⟩:Cache):=by
      refine ⟨⟨Nat.le_trans m4 hsm.1.1,fun x hx=>hsm.1.2 x (m5 x hx)⟩,?_⟩
      show (N3 c (c.Room - size) t).2.2.Entries.length≤_∧∀ x∈(N3 c (c.Room - size) t).2.2.Entries,_
      rw [m3]
      exact hsm.2
    have S7:=bh7 aW6 (m6 ok.bs) Q3
    cases hc:(N3 c (c.Room - size) t).2.1
    · rfl
    · simp only [Bool.not_true,cond_false]
      cases hq:decide (3000≤((N3 c (c.Room - size) t).2.2.U.length:Int))
      · simp only [cond_false,S7,Option.bind_some]
        have hp:=aO7 (key:=fun y:Blob=>y.b7) (N3 c (c.Room - size) t).2.2.U Q3
        unfold bE6.f
        rw [decide_eq_true (by omega),decide_eq_true (by omega)]
        rw [Y3 (by
          simp only [Bool.true_and,List.length_singleton,Bool.and_eq_true]
          exact ⟨by simp,ab6 (by omega)⟩)]
        simp only [Option.bind_some,m1,m2,m3,Int.toNat_natCast,aq7]
        rw [B7 (by omega) (by omega)]
      · rfl
  · obtain ⟨y,hy,hym,hye,X2⟩:=aH2 (key:=fun y:Blob=>y.b7) ok.bs ha
    simp only [cond_true,hy,X2,Option.bind_some]
    cases hz:y.j4 != size
    · simp only [cond_false]
      have S2:R4.f (⟨c.Room,c.c4,c.U,c.Entries⟩:Cache) [Q3] t true true=_:=bq0 (c:=c) hsm ok.bs V9 A9 hl0 hl1 (by simp) true true
      rw [S2]
      rfl
    · rfl
end Go.Proofs.YtiecpfnjmlidbaaGreatDoor
