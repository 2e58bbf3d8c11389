/- Caches: what an event leaves is a right cache, and its newest moment is the event's at most. -/
import Derived.Test.YtiecpfnjmlidbaaGreatDoorPDoS
set_option linter.unusedVariables false
set_option linter.unusedSimpArgs false
namespace Go.Proofs.YtiecpfnjmlidbaaGreatDoor
open Go Go.Proofs.YtiecpfnjmlidbaaGreatDoor.Kit
theorem bE7 {c:Cache} {bl:List Blob} {es:List Entry} (h:N5 ⟨c.Room,c.c4,bl,c.Entries⟩) (h1:es.length≤1000) (h2:∀ x∈es,bb6 x) (h3:es.Pairwise (fun a b=>x9 a.Key b.Key=true)):N5 ⟨c.Room,c.c4,bl,es⟩ :=
  ⟨h.aW3,h.aW4,h.ay9,h.az0,h.bl,h.be,h.bs,h.sum,h1,h2,h3⟩
theorem bq1 {c:Cache} {t:Int} (h:ab1 c≤t) (a3 a4:Bool) (ds:List ByteArray) {es:List Entry} (hes:∀ x∈es,x.Used≤t):ab1 ⟨c.Room,c.c4,P9 t c.c4 a3 a4 ds c.U,es⟩≤t:=by
  obtain ⟨⟨h0,h1⟩,h2⟩:=aH3.1 h
  refine aH3.2 ⟨⟨h0,fun x hx=>?_⟩,hes⟩
  obtain ⟨y,hy,rfl⟩:=List.mem_map.1 hx
  have:=h1 y hy
  cases Q2 ds y.b7
  · exact this
  · cases a3
    · exact this
    · exact Int.le_refl t
theorem cn5 (d:ByteArray) (k:Int):∀ (l:List Blob) (s:Int),Z2 s (az1 d k l)=Z2 s l
  | [],s=>rfl
  | x::l,s=>by
    have e:(bif p4 x.b7 d then bc0 k x else x).j4=x.j4:=by cases p4 x.b7 d <;> rfl
    show Z2 (c5 (s+(bif p4 x.b7 d then bc0 k x else x).j4)) (az1 d k l)=Z2 (c5 (s+x.j4)) l
    rw [e]
    exact cn5 d k l _
theorem cn6 {c:Cache} (ok:N5 c) {d:ByteArray} {k:Int} (hk:∀ y∈c.U,y.b7=d→0≤y.q4+k∧y.q4+k≤3000):N5 ⟨c.Room,c.c4,az1 d k c.U,c.Entries⟩:=by
  refine ⟨ok.aW3,ok.aW4,ok.ay9,ok.az0,by simp only [az1,List.length_map]; exact ok.bl,fun x hx=>?_,?_,?_,ok.el,ok.ee,ok.es⟩
  · obtain ⟨y,hy,rfl⟩:=List.mem_map.1 hx
    obtain ⟨b1,b2,b3,b4,b5,bE9,bF0,bc1,b9⟩:=ok.be y hy
    cases hd:p4 y.b7 d
    · exact ⟨b1,b2,b3,b4,b5,bE9,bF0,bc1,b9⟩
    · obtain ⟨k1,k2⟩:=hk y hy (as4.1 hd)
      exact ⟨b1,b2,b3,b4,b5,bE9,bF0,k1,k2⟩
  · exact bb8 (fun y=>by cases p4 y.b7 d <;> rfl) ok.bs
  · simp only
    rw [cn5]
    exact ok.sum
theorem cn7 {c:Cache} {t:Int} (h:ab1 c≤t) (d:ByteArray) (k:Int):ab1 ⟨c.Room,c.c4,az1 d k c.U,c.Entries⟩≤t:=by
  obtain ⟨⟨h0,h1⟩,h2⟩:=aH3.1 h
  refine aH3.2 ⟨⟨h0,fun x hx=>?_⟩,h2⟩
  obtain ⟨y,hy,rfl⟩:=List.mem_map.1 hx
  have:=h1 y hy
  cases p4 y.b7 d <;> exact this
theorem cR9 {c:Cache} (ok:N5 c):(aj4 c.Entries).length≤999∧(aj4 c.Entries).Sublist c.Entries:=by
  have hel:=ok.el
  unfold aj4
  cases hq:decide (1000≤(c.Entries.length:Int))
  · have:=of_decide_eq_false hq
    exact ⟨by simp only [cond_false]; omega,List.Sublist.refl _⟩
  · have hge:=of_decide_eq_true hq
    obtain ⟨q1,_⟩:=cn8 (c:=c) (e:=⟨0,0,ByteArray.empty,[],ByteArray.empty,0⟩) (ds:=[]) (j1:=M9.j1) hel c.Entries n8 0 0 rfl (by omega) (by omega) (by unfold n8; omega)
    refine ⟨?_,bF1 _ _⟩
    simp only [cond_true,cutAt,List.length_append,List.length_take,List.length_drop]
    have:aK5 c.Entries<c.Entries.length:=q1
    omega
theorem cS0 {c:Cache} (ok:N5 c) {e:k7} (hev:aB6 e=some 0) (hn:ab1 c≤e.At) (h0:(Z1 c e).2.1=0):N5 (Z1 c e).2.2∧ab1 (Z1 c e).2.2≤e.At:=by
  obtain ⟨hdl,⟨hs0,hs1⟩,⟨V9,A9⟩,hrefs,hbad,_⟩:=bC6 hev
  obtain ⟨⟨n0,n1⟩,n2⟩:=aH3.1 hn
  have same:N5 c∧ab1 c≤e.At:=⟨ok,hn⟩
  unfold aP0 at hbad
  rw [Bool.or_eq_false_iff] at hbad
  obtain ⟨o8,s3⟩:=hbad
  unfold Z1 at h0 ⊢
  cases k1:e.Kind == 1
  · cases k2:e.Kind == 2
    · cases k3:e.Kind == 3
      · cases k4:(e.Kind == 4||e.Kind == 5)
        · cases as1:e.Kind == 6
          · cases bp0:e.Kind == 7
            · simp only [cond_false]
              unfold ay7
              cases ax0 c e.b7 with
              | none=>exact same
              | some y =>
                simp only
                cases ae0 y e.At
                · have hok:=cP9 ok (fun b=>!Q2 [e.b7] b.b7) (fun _=>true)
                  rw [show c.Entries.filter (fun _=>true)=c.Entries by simp] at hok
                  exact ⟨hok,aH3.2 ⟨⟨n0,fun x hx=>n1 x (List.mem_filter.1 hx).1⟩,n2⟩⟩
                · exact same
            · simp only [cond_false,cond_true]
              unfold aG9
              rcases bC5 ok.es e.Key with ⟨g1,g2⟩ | ⟨x,g1,g2,g3,g4,g5,g6⟩
              · rw [g1]
                exact same
              · rw [g1]
                simp only
                cases decide (0<((S6 c x.Refs).length:Int))
                · simp only [cond_false]
                  obtain ⟨x1,x2,x3,C2,J5⟩:=ok.ee x g4
                  refine ⟨bE7 (bi1 ok V9 A9 true true x.Refs) (by rw [List.length_set]; exact ok.el) (fun z hz=>?_) (cn9 (key:=fun y:Entry=>y.Key) ok.es g6 rfl),bq1 hn true true x.Refs (fun z hz=>?_)⟩
                  · rcases bq2 hz with rfl | hz
                    · exact ⟨x1,x2,x3,V9,A9⟩
                    · exact ok.ee z hz
                  · rcases bq2 hz with rfl | hz
                    · exact Int.le_refl _
                    · exact n2 z hz
                · have hsub:=bF1 c.Entries (placeOf (fun x:Entry=>x.Key) c.Entries e.Key)
                  exact ⟨bE7 ok (Nat.le_trans hsub.length_le ok.el) (fun z hz=>ok.ee z (hsub.subset hz)) (ok.es.sublist hsub),aH3.2 ⟨⟨n0,n1⟩,fun z hz=>n2 z (hsub.subset hz)⟩⟩
          · have hk6:e.Kind=6:=by simpa using as1
            have hkey:Q8 e.Key=true:=by
              rw [hk6] at s3
              simpa [aq8] using s3
            simp only [cond_false,cond_true]
            unfold aH0
            cases decide (0<((S6 c e.j9).length:Int))
            · cases ha:c.Entries.any (fun x=>p4 x.Key e.Key)
              · simp only [cond_false]
                obtain ⟨r1,r2⟩:=cR9 ok
                have hno:(aj4 c.Entries).any (fun y=>p4 y.Key e.Key)=false:=by
                  rw [List.any_eq_false]
                  intro x hx hc
                  rw [List.any_eq_true.2 ⟨x,r2.subset hx,hc⟩] at ha
                  cases ha
                refine ⟨bE7 (bi1 ok V9 A9 true false e.j9) (by rw [bF2]; omega) (fun z hz=>?_) (co0 (key:=fun y:Entry=>y.Key) (x:=(⟨e.Key,e.j9,e.At⟩:Entry)) (ok.es.sublist r2) hno),bq1 hn true false e.j9 (fun z hz=>?_)⟩
                · rcases bF3 hz with rfl | hz
                  · exact ⟨hkey,hdl,hrefs,V9,A9⟩
                  · exact ok.ee z (r2.subset hz)
                · rcases bF3 hz with rfl | hz
                  · exact Int.le_refl _
                  · exact n2 z (r2.subset hz)
              · obtain ⟨y,hy,hym,hye,X2⟩:=aH2 (key:=fun y:Entry=>y.Key) ok.es ha
                simp only [cond_false,cond_true]
                refine ⟨bE7 (bi1 ok V9 A9 true false e.j9) (by rw [List.length_set]; exact ok.el) (fun z hz=>?_) (cn9 (key:=fun y:Entry=>y.Key) ok.es X2 (as4.1 hye).symm),bq1 hn true false e.j9 (fun z hz=>?_)⟩
                · rcases bq2 hz with rfl | hz
                  · exact ⟨hkey,hdl,hrefs,V9,A9⟩
                  · exact ok.ee z hz
                · rcases bq2 hz with rfl | hz
                  · exact Int.le_refl _
                  · exact n2 z hz
            · exact same
        · simp only [cond_false,cond_true]
          unfold af2
          rcases aW7 ok.bs e.b7 with ⟨g1,g2⟩ | ⟨y,g1,g2,g3,g4,g5,g6⟩
          · rw [g1]
            exact same
          · rw [g1]
            simp only
            obtain ⟨_,_,_,_,_,_,_,bc1,b9⟩:=ok.be y g4
            have only:∀ z∈c.U,z.b7=e.b7→z=y:=fun z hz hd=>key_inj (key:=fun x:Blob=>x.b7) ok.bs z hz y g4 (hd.trans g5.symm)
            cases e.Kind == 5
            · cases hq:decide (3000≤y.q4)
              · have:=of_decide_eq_false hq
                exact ⟨cn6 ok (fun z hz hd=>by rw [only z hz hd]; omega),cn7 hn _ _⟩
              · exact same
            · cases hq:y.q4 == 0
              · have:y.q4≠0:=by simpa using hq
                exact ⟨cn6 ok (fun z hz hd=>by rw [only z hz hd]; omega),cn7 hn _ _⟩
              · exact same
      · exact ⟨bi1 ok V9 A9 false true e.j9,bq1 hn false true e.j9 n2⟩
    · exact ⟨bi1 ok V9 A9 true true [e.b7],bq1 hn true true [e.b7] n2⟩
  · rw [k1] at h0
    have hk1:e.Kind=1:=by simpa using k1
    have cS4:Q8 e.b7=true:=by
      rw [hk1] at o8
      simpa [aq8] using o8
    obtain ⟨p1,p2,_⟩:=cS5 ok cS4 hs0 hs1 V9 A9 hn h0
    exact ⟨p1,p2⟩
end Go.Proofs.YtiecpfnjmlidbaaGreatDoor
