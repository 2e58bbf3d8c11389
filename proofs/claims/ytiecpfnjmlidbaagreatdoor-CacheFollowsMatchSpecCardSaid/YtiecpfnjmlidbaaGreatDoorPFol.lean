/- Caches: following a list of events; Follow as a whole. -/
import Derived.Test.YtiecpfnjmlidbaaGreatDoorPDoK
set_option linter.unusedVariables false
set_option linter.unusedSimpArgs false
namespace Go.Proofs.YtiecpfnjmlidbaaGreatDoor
open Go Go.Proofs.YtiecpfnjmlidbaaGreatDoor.Kit
def dE (c:Cache) (e:k7):k6 × Int × Cache :=
  bif (aB6 e).getD 0 != 0 then (noA,(aB6 e).getD 0,c) else bif decide (e.At<ab1 c) then (noA,11,c) else Z1 c e
theorem bS7 {c:Cache} (ok:N5 c) {e:k7} (hsd:as2 e.j9):aj5.f c e=some (dE c e):=by
  rw [cT7 ok hsd]
  obtain ⟨y,hy⟩:=bF4 e
  unfold dE
  rw [hy]
  simp only [Option.bind_some,Option.getD_some]
  cases y != 0
  · cases decide (e.At<ab1 c) <;> rfl
  · rfl
theorem bg9 {c:Cache} (ok:N5 c) {e:k7} (h0:(dE c e).2.1=0):N5 (dE c e).2.2∧aB6 e=some 0∧ab1 c≤e.At∧dE c e=Z1 c e∧ab1 (dE c e).2.2≤e.At:=by
  obtain ⟨y,hy⟩:=bF4 e
  unfold dE at h0 ⊢
  rw [hy] at h0 ⊢
  simp only [Option.getD_some] at h0 ⊢
  cases h1:y != 0
  · have:y=0:=by simpa using h1
    subst this
    rw [h1] at h0
    cases h2:decide (e.At<ab1 c)
    · rw [h2] at h0
      simp only [cond_false] at h0 ⊢
      have hn:ab1 c≤e.At:=by have:=of_decide_eq_false h2; omega
      obtain ⟨k1,k2⟩:=cS0 ok hy hn h0
      exact ⟨k1,by simp,hn,by simp,k2⟩
    · rw [h2] at h0
      exact absurd h0 (by simp)
  · rw [h1] at h0
    simp only [cond_true] at h0
    subst h0
    simp at h1
theorem cV1 (c:Cache) (e:k7):(Z1 c e).2.2.Room=c.Room∧(Z1 c e).2.2.c4=c.c4:=by
  unfold Z1
  cases e.Kind == 1
  · cases e.Kind == 2
    · cases e.Kind == 3
      · cases (e.Kind == 4||e.Kind == 5)
        · cases e.Kind == 6
          · cases e.Kind == 7
            · simp only [cond_false]
              unfold ay7
              cases ax0 c e.b7 with
              | none=>exact ⟨rfl,rfl⟩
              | some y=>simp only; cases ae0 y e.At <;> exact ⟨rfl,rfl⟩
            · simp only [cond_false,cond_true]
              unfold aG9
              cases bi2 c e.Key with
              | none=>exact ⟨rfl,rfl⟩
              | some x=>simp only; cases decide (0<((S6 c x.Refs).length:Int)) <;> exact ⟨rfl,rfl⟩
          · simp only [cond_false,cond_true]
            unfold aH0
            cases decide (0<((S6 c e.j9).length:Int)) <;> cases c.Entries.any (fun x=>p4 x.Key e.Key) <;> exact ⟨rfl,rfl⟩
        · simp only [cond_false,cond_true]
          unfold af2
          cases ax0 c e.b7 with
          | none=>exact ⟨rfl,rfl⟩
          | some y=>simp only; cases e.Kind == 5 <;> cases decide (3000≤y.q4) <;> cases y.q4 == 0 <;> exact ⟨rfl,rfl⟩
      · exact ⟨rfl,rfl⟩
    · exact ⟨rfl,rfl⟩
  · simp only [cond_true]
    obtain ⟨m1,m2,_⟩:=bE5 c (c.Room - e.j4) e.At
    unfold ab8
    cases c.U.any (fun x=>p4 x.b7 e.b7)
    · cases (N3 c (c.Room - e.j4) e.At).2.1
      · exact ⟨m1,m2⟩
      · cases decide (3000≤((N3 c (c.Room - e.j4) e.At).2.2.U.length:Int))
        · exact ⟨rfl,rfl⟩
        · exact ⟨m1,m2⟩
    · simp only [cond_true]
      cases c.U[placeOf (fun x:Blob=>x.b7) c.U e.b7]? with
      | none=>exact ⟨rfl,rfl⟩
      | some x=>simp only; cases x.j4 != e.j4 <;> exact ⟨rfl,rfl⟩
def T8:List k7→Cache→List k6→Cache × Int × List k6
  | [],c,s=>(c,0,s)
  | e::l,c,s=>bif (dE c e).2.1 != 0 then (⟨0,0,[],[]⟩,(dE c e).2.1,s) else T8 l (dE c e).2.2 (s++[(dE c e).1])
def aK7:List k7→Cache→Int→Cache × Int × Int
  | [],c,s=>(c,0,s)
  | e::l,c,s=>bif (dE c e).2.1 != 0 then (⟨0,0,[],[]⟩,(dE c e).2.1,s) else aK7 l (dE c e).2.2 (max2 s (D8 (dE c e).2.2.U))
theorem co8:∀ (l:List k7) (c:Cache) (s:List k6) (p:Int),N5 c→(T8 l c s).2.1=(aK7 l c p).2.1∧((T8 l c s).2.1≠0→(T8 l c s).1=⟨0,0,[],[]⟩)∧((T8 l c s).2.1=0→N5 (T8 l c s).1∧(T8 l c s).1.Room=c.Room∧(p≤c.Room→(aK7 l c p).2.2≤c.Room)∧p≤(aK7 l c p).2.2∧(D8 c.U≤p→D8 (T8 l c s).1.U≤(aK7 l c p).2.2))
  | [],c,s,p,ok=>⟨rfl,fun h=>absurd rfl h,fun _=>⟨ok,rfl,fun h=>h,Int.le_refl p,fun h=>h⟩⟩
  | e::l,c,s,p,ok=>by
    unfold T8 aK7
    cases hz:(dE c e).2.1 != 0
    · simp only [cond_false]
      have h0:(dE c e).2.1=0:=by simpa using hz
      obtain ⟨k1,k2,k3,k4,_⟩:=bg9 ok h0
      have hr:(dE c e).2.2.Room=c.Room:=by rw [k4]; exact (cV1 c e).1
      have ih:=co8 l (dE c e).2.2 (s++[(dE c e).1]) (max2 p (D8 (dE c e).2.2.U)) k1
      have hsum:D8 (dE c e).2.2.U≤c.Room:=by rw [← k1.D8,← hr]; exact k1.sum
      have hm1:p≤max2 p (D8 (dE c e).2.2.U):=by unfold max2; split <;> omega
      have hm2:D8 (dE c e).2.2.U≤max2 p (D8 (dE c e).2.2.U):=by unfold max2; split <;> omega
      have hm3:p≤c.Room→max2 p (D8 (dE c e).2.2.U)≤c.Room:=by unfold max2; split <;> omega
      refine ⟨ih.1,ih.2.1,fun h=>?_⟩
      obtain ⟨j1,j2,j3,ap0,j5⟩:=ih.2.2 h
      exact ⟨j1,j2.trans hr,fun hp=>by have:=j3 (by rw [hr]; exact hm3 hp); rw [hr] at this; exact this,Int.le_trans hm1 ap0,fun _=>j5 hm2⟩
    · have hne:(dE c e).2.1≠0:=by simpa using hz
      simp only [cond_true]
      exact ⟨by simp,fun _=>by simp,fun h=>absurd h hne⟩
end Go.Proofs.YtiecpfnjmlidbaaGreatDoor

namespace Go.Proofs.YtiecpfnjmlidbaaGreatDoor
open Go Go.Proofs.YtiecpfnjmlidbaaGreatDoor.Kit
theorem cV3 {es:List k7} (hes:es.length≤3000) (hsd:∀ e∈es,as2 e.j9):∀ (l:List k7) (k v:Nat) (c:Cache) (s:List k6),es.drop v=l→v≤es.length→N5 c→s.length≤v→l.length<k →
    al4.l2 al4.e1 k es s c.Room c.c4 c.U c.Entries (v:Int)=some (T8 l c s):=by
  intro l
  induction l with
  | nil =>
    intro k v c s h1 h2 ok h4 h5
    obtain ⟨k,rfl⟩:∃ m,k=m+1:=⟨k - 1,by omega⟩
    have hv:es.length≤v:=List.drop_eq_nil_iff.1 h1
    rw [al4.l2,decide_eq_false (by omega)]
    rfl
  | cons e l ih =>
    intro k v c s h1 h2 ok h4 h5
    simp only [List.length_cons] at h5
    obtain ⟨k,rfl⟩:∃ m,k=m+1:=⟨k - 1,by omega⟩
    have hv:v<es.length:=by
      rcases Nat.lt_or_ge v es.length with h | h
      · exact h
      · rw [List.drop_eq_nil_of_le h] at h1; cases h1
    rw [List.drop_eq_getElem_cons hv] at h1
    injection h1 with g1 g2
    have hm:=List.getElem_mem hv
    rw [g1] at hm
    have hw:c5 ((v:Int)+1)=((v+1:Nat):Int):=by rw [B7 (by omega) (by omega)]; omega
    have e1:aj5.f (⟨c.Room,c.c4,c.U,c.Entries⟩:Cache) e=_:=bS7 (c:=c) ok (hsd e hm)
    rw [al4.l2,decide_eq_true (by omega),Z6 hv,g1]
    simp only [cond_true,Option.bind_some,e1,hw]
    unfold T8
    cases hz:(dE c e).2.1 != 0
    · obtain ⟨k1,_⟩:=bg9 ok (by simpa using hz)
      simp only [cond_false]
      unfold bF8.f
      rw [Y3 (ab6 (by omega))]
      simp only [Option.bind_some]
      exact ih k (v+1) _ _ g2 (by omega) k1 (by simp; omega) (by omega)
    · rfl
theorem cV0 {es:List k7} (hes:es.length≤3000) (hsd:∀ e∈es,as2 e.j9):∀ (l:List k7) (k v:Nat) (c:Cache) (s:Int),es.drop v=l→v≤es.length→N5 c→l.length<k →
    al3.l2 al3.e1 k es s c.Room c.c4 c.U c.Entries (v:Int)=some (aK7 l c s):=by
  intro l
  induction l with
  | nil =>
    intro k v c s h1 h2 ok h5
    obtain ⟨k,rfl⟩:∃ m,k=m+1:=⟨k - 1,by omega⟩
    have hv:es.length≤v:=List.drop_eq_nil_iff.1 h1
    rw [al3.l2,decide_eq_false (by omega)]
    rfl
  | cons e l ih =>
    intro k v c s h1 h2 ok h5
    simp only [List.length_cons] at h5
    obtain ⟨k,rfl⟩:∃ m,k=m+1:=⟨k - 1,by omega⟩
    have hv:v<es.length:=by
      rcases Nat.lt_or_ge v es.length with h | h
      · exact h
      · rw [List.drop_eq_nil_of_le h] at h1; cases h1
    rw [List.drop_eq_getElem_cons hv] at h1
    injection h1 with g1 g2
    have hm:=List.getElem_mem hv
    rw [g1] at hm
    have hw:c5 ((v:Int)+1)=((v+1:Nat):Int):=by rw [B7 (by omega) (by omega)]; omega
    have e1:aj5.f (⟨c.Room,c.c4,c.U,c.Entries⟩:Cache) e=_:=bS7 (c:=c) ok (hsd e hm)
    rw [al3.l2,decide_eq_true (by omega),Z6 hv,g1]
    simp only [cond_true,Option.bind_some,e1,hw]
    unfold aK7
    cases hz:(dE c e).2.1 != 0
    · obtain ⟨k1,_⟩:=bg9 ok (by simpa using hz)
      simp only [cond_false]
      unfold bF9.f
      have e2:ac0.f (⟨(dE c e).2.2.Room,(dE c e).2.2.c4,(dE c e).2.2.U,(dE c e).2.2.Entries⟩:Cache)=some (D8 (dE c e).2.2.U):=bS9 (c:=(dE c e).2.2) rfl k1.bl k1.sz
      rw [e2]
      simp only [Option.bind_some]
      exact ih k (v+1) _ _ g2 (by omega) k1 (by omega)
    · rfl
end Go.Proofs.YtiecpfnjmlidbaaGreatDoor

namespace Go.Proofs.YtiecpfnjmlidbaaGreatDoor
open Go Go.Proofs.YtiecpfnjmlidbaaGreatDoor.Kit
def bS8 (c:Cache) (es:List k7):Option (Cache × List k6 × Int) :=
  (aK4 c).bind fun f=>bif f != 0 then some ((⟨0,0,[],[]⟩:Cache),[],f) else bif decide (3000<(es.length:Int)) then some ((⟨0,0,[],[]⟩:Cache),[],2) else
  bif (T8 es c []).2.1 != 0 then some ((⟨0,0,[],[]⟩:Cache),[],(T8 es c []).2.1) else some ((T8 es c []).1,(T8 es c []).2.2,0)
theorem cU8 {c:Cache} (hf:Fit c) {es:List k7} (hsd:∀ e∈es,as2 e.j9):bc4.f c es=bS8 c es:=by
  unfold bc4.f al4.f bS8
  rw [cl5 hf.small]
  obtain ⟨f,e1⟩:=cl8 c
  rw [e1]
  simp only [Option.bind_some]
  cases h0:f != 0
  · have hz:f=0:=by simpa using h0
    subst hz
    have ok:=cm5 e1
    simp only [cond_false]
    cases hl:decide (3000<(es.length:Int))
    · have hlen:es.length≤3000:=by have:=of_decide_eq_false hl; omega
      simp only [cond_false,cm6 hf.fb hf.fe hf.fr,Option.bind_some]
      have e2:=cV3 hlen hsd es n8 0 c [] rfl (by omega) ok (by simp) (by unfold n8; omega)
      rw [show ((0:Nat):Int)=0 from rfl] at e2
      rw [e2]
      simp only [Option.bind_some]
    · rfl
  · simp only [cond_true,Option.bind_some,h0]
end Go.Proofs.YtiecpfnjmlidbaaGreatDoor
