/- Caches: following events on both sides; hits and the peak. cache_follow_9: Hits' follow, cache_follow_2: Peak's. -/
import Derived.Test.YtiecpfnjmlidbaaGreatDoorPRf
set_option linter.unusedVariables false
set_option linter.unusedSimpArgs false
namespace Go.Proofs.YtiecpfnjmlidbaaGreatDoor
open Go Go.Proofs.YtiecpfnjmlidbaaGreatDoor.Kit
def bi5 (e:k7):Bool:=e.Kind == 2||e.Kind == 7
def manyN (e:k7) (m:Int):Int:=bif bi5 e then m+1 else m
def aP2 (e:k7) (a:k6) (h:Int):Int:=bif bi5 e&&a.x8 then h+1 else h
def zC:Cache:=⟨0,0,[],[]⟩
def aS5:List k7→Cache→Int→Int→Cache × Int × Int × Int
  | [],c,m,h=>(c,0,m,h)
  | e::l,c,m,h=>bif (dE c e).2.1 != 0 then (zC,(dE c e).2.1,m,h) else aS5 l (dE c e).2.2 (manyN e m) (aP2 e (dE c e).1 h)
theorem co3 (e:k7) {m:Int} (h0:0≤m):0≤manyN e m∧manyN e m≤m+1:=by unfold manyN; cases bi5 e <;> simp <;> omega
theorem co4 (e:k7) (a:k6) {m:Int} (h0:0≤m):0≤aP2 e a m∧aP2 e a m≤m+1:=by unfold aP2; cases bi5 e&&a.x8 <;> simp <;> omega
theorem cU0 (c:Cache) (e:k7) (a:k6) {m h:Int} (hm0:0≤m) (hm1:m≤1000000) (hh0:0≤h) (hh1:h≤1000000):au8.f c e a m h=some (manyN e m,aP2 e a h):=by
  unfold au8.f au8.j1 manyN aP2 bi5
  rw [B7 (n:=m+1) (by omega) (by omega),B7 (n:=h+1) (by omega) (by omega)]
  cases e.Kind == 2 <;> cases e.Kind == 7 <;> cases a.x8 <;> rfl
theorem cU1 {es:List k7} (hes:es.length≤3000) (hsd:∀ e∈es,as2 e.j9):∀ (l:List k7) (k v:Nat) (c:Cache) (m h:Int),es.drop v=l→v≤es.length→N5 c→0≤m→m≤(v:Int)→0≤h→h≤(v:Int)→l.length<k →
    al2.l2 al2.e1 k es m h c.Room c.c4 c.U c.Entries (v:Int)=some (aS5 l c m h):=by
  intro l
  induction l with
  | nil =>
    intro k v c m h h1 h2 ok _ _ _ _ h5
    obtain ⟨k,rfl⟩:∃ m,k=m+1:=⟨k - 1,by omega⟩
    have hv:es.length≤v:=List.drop_eq_nil_iff.1 h1
    rw [al2.l2,decide_eq_false (by omega)]
    rfl
  | cons e l ih =>
    intro k v c m h h1 h2 ok a0 a1 b0 b1 h5
    simp only [List.length_cons] at h5
    obtain ⟨k,rfl⟩:∃ m,k=m+1:=⟨k - 1,by omega⟩
    have hv:v<es.length:=by
      rcases Nat.lt_or_ge v es.length with h | h
      · exact h
      · rw [List.drop_eq_nil_of_le h] at h1; cases h1
    rw [List.drop_eq_getElem_cons hv] at h1
    injection h1 with g1 g2
    have hmem:=List.getElem_mem hv
    rw [g1] at hmem
    have hw:c5 ((v:Int)+1)=((v+1:Nat):Int):=by rw [B7 (by omega) (by omega)]; omega
    have e1:aj5.f (⟨c.Room,c.c4,c.U,c.Entries⟩:Cache) e=_:=bS7 (c:=c) ok (hsd e hmem)
    rw [al2.l2,decide_eq_true (by omega),Z6 hv,g1]
    simp only [cond_true,Option.bind_some,e1,hw]
    unfold aS5
    cases hz:(dE c e).2.1 != 0
    · obtain ⟨k1,_⟩:=bg9 ok (by simpa using hz)
      obtain ⟨p1,p2⟩:=co3 e a0
      obtain ⟨q1,ae2⟩:=co4 e (dE c e).1 b0
      simp only [cond_false]
      have e2:au8.f (⟨(dE c e).2.2.Room,(dE c e).2.2.c4,(dE c e).2.2.U,(dE c e).2.2.Entries⟩:Cache) e (⟨(dE c e).1.x8,(dE c e).1.x5,(dE c e).1.x4⟩:k6) m h=some (manyN e m,aP2 e (dE c e).1 h):=cU0 _ e (dE c e).1 a0 (by omega) b0 (by omega)
      rw [e2]
      simp only [Option.bind_some]
      exact ih k (v+1) _ _ _ g2 (by omega) k1 p1 (by omega) q1 (by omega) (by omega)
    · rfl
theorem cU2 {es:List k7} (hes:es.length≤3000) (hsd:∀ e∈es,as2 e.j9) (hd:∀ e∈es,e.b7.size≤4611686018427387904) (hk:∀ e∈es,e.Key.size≤4611686018427387904):∀ (l:List k7) (k v:Nat) (c:Cache) (p:Int) (s:List k6),es.drop v=l→v≤es.length→N5 c→s.length≤v→l.length<k →
    ad4.l2 ad4.e1 k es c.Room c.c4 c.U c.Entries p s (v:Int)=some (bif (T8 l c s).2.1 != 0 then ((false,zC),[],0,(T8 l c s).2.1) else ((true,(T8 l c s).1),(T8 l c s).2.2,(aK7 l c p).2.2,0)):=by
  intro l
  induction l with
  | nil =>
    intro k v c p s h1 h2 ok h4 h5
    obtain ⟨k,rfl⟩:∃ m,k=m+1:=⟨k - 1,by omega⟩
    have hv:es.length≤v:=List.drop_eq_nil_iff.1 h1
    rw [ad4.l2,decide_eq_false (by omega)]
    rfl
  | cons e l ih =>
    intro k v c p s h1 h2 ok h4 h5
    simp only [List.length_cons] at h5
    obtain ⟨k,rfl⟩:∃ m,k=m+1:=⟨k - 1,by omega⟩
    have hv:v<es.length:=by
      rcases Nat.lt_or_ge v es.length with h | h
      · exact h
      · rw [List.drop_eq_nil_of_le h] at h1; cases h1
    rw [List.drop_eq_getElem_cons hv] at h1
    injection h1 with g1 g2
    have hm:=List.getElem_mem hv
    rw [g1] at hm
    have hw:c5 ((v:Int)+1)=((v+1:Nat):Int):=by rw [B7 (by omega) (by omega)]; omega
    obtain ⟨a,c',e1,S7⟩:=doR ok (hsd e hm) (hd e hm) (hk e hm)
    have e1':bi6.f (⟨c.Room,c.c4,c.U,c.Entries⟩:Cache) e=_:=e1
    rw [ad4.l2,decide_eq_true (by omega),Z6 hv,g1]
    simp only [cond_true,Option.bind_some,e1',hw]
    have hF:T8 (e::l) c s=bif (dE c e).2.1 != 0 then (⟨0,0,[],[]⟩,(dE c e).2.1,s) else T8 l (dE c e).2.2 (s++[(dE c e).1]):=rfl
    have hP:aK7 (e::l) c p=bif (dE c e).2.1 != 0 then (⟨0,0,[],[]⟩,(dE c e).2.1,p) else aK7 l (dE c e).2.2 (max2 p (D8 (dE c e).2.2.U)):=rfl
    rw [hF,hP]
    cases hz:(dE c e).2.1 != 0
    · have h0:(dE c e).2.1=0:=by simpa using hz
      obtain ⟨k1,_⟩:=bg9 ok h0
      obtain ⟨rfl,rfl⟩:=S7 h0
      simp only [cond_false]
      rw [Y3 (ab6 (by omega)),bD1 (by have:=k1.bl; omega),k1.D8]
      simp only [Option.bind_some]
      exact ih k (v+1) _ _ _ g2 (by omega) k1 (by simp; omega) (by omega)
    · simp only [cond_true,hz]
      rfl
theorem co6:∀ (l:List k7) (c:Cache) (s:List k6) (m h:Int),(aS5 l c m h).2.1=(T8 l c s).2.1
  | [],c,s,m,h=>rfl
  | e::l,c,s,m,h=>by
    unfold T8 aS5
    cases hz:(dE c e).2.1 != 0
    · exact co6 l _ _ _ _
    · rfl
theorem cU5 {es:List k7} (hes:es.length≤3000) {y:(Bool × Cache) × (List k6) × Int × Int}:∀ (l:List k7) (k v:Nat) (c:Cache) (m h:Int),es.drop v=l→y.2.1.drop v=(T8 l c []).2.2→(T8 l c []).2.1=0→v≤es.length→0≤m→m≤(v:Int)→0≤h→h≤(v:Int)→l.length<k →
    T9.l2 T9.e1 k es y h m (v:Int)=some ((aS5 l c m h).2.2.2,(aS5 l c m h).2.2.1,0):=by
  intro l
  induction l with
  | nil =>
    intro k v c m h h1 _ _ h2 _ _ _ _ h5
    obtain ⟨k,rfl⟩:∃ m,k=m+1:=⟨k - 1,by omega⟩
    have hv:es.length≤v:=List.drop_eq_nil_iff.1 h1
    rw [T9.l2,decide_eq_false (by omega)]
    rfl
  | cons e l ih =>
    intro k v c m h h1 h3 h4 h2 a0 a1 b0 b1 h5
    simp only [List.length_cons] at h5
    obtain ⟨k,rfl⟩:∃ m,k=m+1:=⟨k - 1,by omega⟩
    have hv:v<es.length:=by
      rcases Nat.lt_or_ge v es.length with h | h
      · exact h
      · rw [List.drop_eq_nil_of_le h] at h1; cases h1
    rw [List.drop_eq_getElem_cons hv] at h1
    injection h1 with g1 g2
    have hw:c5 ((v:Int)+1)=((v+1:Nat):Int):=by rw [B7 (by omega) (by omega)]; omega
    have hF:T8 (e::l) c []=bif (dE c e).2.1 != 0 then (⟨0,0,[],[]⟩,(dE c e).2.1,[]) else T8 l (dE c e).2.2 ([]++[(dE c e).1]):=rfl
    have hH:aS5 (e::l) c m h=bif (dE c e).2.1 != 0 then (zC,(dE c e).2.1,m,h) else aS5 l (dE c e).2.2 (manyN e m) (aP2 e (dE c e).1 h):=rfl
    rw [hF] at h3 h4
    rw [hH]
    cases hz:(dE c e).2.1 != 0
    · rw [hz] at h3 h4
      simp only [cond_false] at h3 h4 ⊢
      rw [bR3] at h3 h4
      simp only [List.nil_append,List.cons_append] at h3 h4
      have hva:v<y.2.1.length:=by
        rcases Nat.lt_or_ge v y.2.1.length with h | h
        · exact h
        · rw [List.drop_eq_nil_of_le h] at h3; cases h3
      rw [List.drop_eq_getElem_cons hva] at h3
      injection h3 with f1 f2
      obtain ⟨p1,p2⟩:=co3 e a0
      obtain ⟨q1,ae2⟩:=co4 e (dE c e).1 b0
      have step:=ih k (v+1) (dE c e).2.2 (manyN e m) (aP2 e (dE c e).1 h) g2 f2 h4 (by omega) p1 (by omega) q1 (by omega) (by omega)
      rw [← step,T9.l2,decide_eq_true (by omega),Z6 hv,g1,Z6 hva,f1]
      simp only [cond_true,Option.bind_some,T9.j3,hw]
      rw [B7 (n:=m+1) (by omega) (by omega),B7 (n:=h+1) (by omega) (by omega)]
      unfold manyN aP2 bi5
      cases e.Kind == 2 <;> cases e.Kind == 7 <;> cases (dE c e).1.x8 <;> rfl
    · have:(dE c e).2.1=0:=by rw [hz] at h4; simpa using h4
      rw [this] at hz
      cases hz
theorem cU6 {c:Cache} (h:c.U.length≤4611686018427387904):ac0.f c=some (Z2 0 c.U):=cl6 h
theorem cU7 {c:Cache} (hf:Fit c) {es:List k7} (hsd:∀ e∈es,as2 e.j9) (hd:∀ e∈es,e.b7.size≤4611686018427387904) (hk:∀ e∈es,e.Key.size≤4611686018427387904) :
    (∃ f,f≠0∧ad4.f c es=some ((false,zC),[],0,f)∧bc4.f c es=some (zC,[],f)∧bi7.f c es=some (0,0,f)∧bi8.f c es=some (0,f)) ∨
    (∃ c' as p h m,am6 c'∧as.length≤3000∧(∀ a∈as,bo8 a)∧ad4.f c es=some ((true,c'),as,p,0)∧bc4.f c es=some (c',as,0)∧bi7.f c es=some (h,m,0)∧bi8.f c es=some (p,0)∧T9.l2 T9.e1 n8 es ((true,c'),as,p,0) 0 0 0=some (h,m,0)):=by
  rw [cU8 hf hsd]
  unfold ad4.f bi7.f bi8.f al2.f al3.f bS8
  have hbl:c.U.length≤4611686018427387904:=by have:=hf.fb; omega
  rw [cU6 hbl]
  simp only [Option.bind_some]
  rw [cP1 hf.small,cl5 hf.small]
  obtain ⟨f,e1⟩:=cl8 c
  rw [e1]
  simp only [Option.bind_some]
  cases h0:f != 0
  · have hz:f=0:=by simpa using h0
    subst hz
    have ok:=cm5 e1
    simp only [cond_false]
    cases hl:decide (3000<(es.length:Int))
    · have hlen:es.length≤3000:=by have:=of_decide_eq_false hl; omega
      simp only [cond_false,cm6 hf.fb hf.fe hf.fr,cU9 hf,Option.bind_some,bD1 hbl]
      have e2:=cU2 hlen hsd hd hk es n8 0 c (Z2 0 c.U) [] rfl (by omega) ok (by simp) (by unfold n8; omega)
      have S7:=cU1 hlen hsd es n8 0 c 0 0 rfl (by omega) ok (by omega) (by omega) (by omega) (by omega) (by unfold n8; omega)
      have S2:=cV0 hlen hsd es n8 0 c (Z2 0 c.U) rfl (by omega) ok (by unfold n8; omega)
      rw [show ((0:Nat):Int)=0 from rfl] at e2 S7 S2
      rw [e2,S7,S2]
      obtain ⟨p1,p2,p3⟩:=co8 es c [] (Z2 0 c.U) ok
      have aB7:=co6 es c [] 0 0
      simp only [Option.bind_some]
      rw [aB7,← p1]
      cases hq:(T8 es c []).2.1 != 0
      · have hq0:(T8 es c []).2.1=0:=by simpa using hq
        obtain ⟨j1,-⟩:=p3 hq0
        refine .inr ⟨_,_,_,_,_,j1.fit.small,?_,ck8 es c [] ok (fun a ha=>by cases ha),rfl,rfl,rfl,rfl,?_⟩
        · have:=ck7 es c []
          simp at this
          omega
        · exact cU5 hlen es n8 0 c 0 0 rfl rfl hq0 (by omega) (by omega) (by omega) (by omega) (by omega) (by unfold n8; omega)
      · exact .inl ⟨_,by simpa using hq,rfl,rfl,rfl,rfl⟩
    · exact .inl ⟨2,by decide,rfl,rfl,rfl,rfl⟩
  · simp only [cond_true,Option.bind_some,h0]
    exact .inl ⟨f,by simpa using h0,rfl,rfl,rfl,rfl⟩
end Go.Proofs.YtiecpfnjmlidbaaGreatDoor
