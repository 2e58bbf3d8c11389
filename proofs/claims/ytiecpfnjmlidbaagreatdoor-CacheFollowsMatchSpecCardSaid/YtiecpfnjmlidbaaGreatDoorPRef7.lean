/- Caches: the reference's way to what would go, what goes, and what is whole. -/
import Derived.Test.YtiecpfnjmlidbaaGreatDoorPLea
set_option linter.unusedVariables false
set_option linter.unusedSimpArgs false
namespace Go.Proofs.YtiecpfnjmlidbaaGreatDoor
open Go Go.Proofs.YtiecpfnjmlidbaaGreatDoor.Kit
theorem bT8 (b:Blob) (t:Int):bc5.f b t=some (ae0 b t):=by
  unfold bc5.f ae0
  cases decide (0<b.q4) <;> rfl
theorem cq6 {j5:Cache→Int→Int→List Blob→Option (List ByteArray)} {c:Cache} {t i:Int} {x:Blob} {l:List Blob} (hl:l.length≤4000) (hs:Srt C3 l):∀ (n k:Nat),n≤l.length→n<k→(∀ q (hq:q<l.length),n≤q→C3 x l[q]=true) →
    E5.l7 (E5.W8 j5) k c t l i x (n:Int)=j5 c t i (K1 C3 l [x])
  | n,k,h1,h2,h3=>by
    obtain ⟨k,rfl⟩:∃ m,k=m+1:=⟨k - 1,by omega⟩
    have fin:(∀ q (hq:q<l.length),q<n→C3 x l[q]=false)→E5.W8 j5 c t l i x (n:Int)=j5 c t i (K1 C3 l [x]):=by
      intro h4
      unfold E5.W8
      have g1:(decide ((0:Int)≤(n:Int))&&decide ((n:Int)≤((l.length:Nat):Int)))=true:=by simp; omega
      have:=bG4 (lt:=C3) (y:=x) (ac5:=l.take n) (ac4:=l.drop n) (fun y hy=>by
        obtain ⟨q,hq,hqn,rfl⟩:=bq9 hy
        exact h4 q hq hqn) (fun y hy=>by
        obtain ⟨q,hq,hqn,rfl⟩:=br0 hy
        exact h3 q hq hqn)
      rw [List.take_append_drop] at this
      rw [Y3 g1,Y3 (ab6 (by rw [Int.toNat_natCast]; omega)),Y3 (ab6 (by simp; omega)),Y3 g1,Y3 (ab6 (by simp; omega)),Int.toNat_natCast,List.nil_append,List.append_assoc,List.singleton_append,this]
    rw [E5.l7]
    cases n with
    | zero =>
      rw [decide_eq_false (by omega)]
      simp only [cond_false,Option.bind_some]
      exact fin (fun q _ h=>by omega)
    | succ n =>
      have hw:c5 (((n+1:Nat):Int) - 1)=(n:Int):=by rw [B7 (by omega) (by omega)]; omega
      rw [decide_eq_true (by omega),hw,Z6 (by omega)]
      simp only [cond_true,Option.bind_some]
      cases hc:C3 x l[n]
      · have hc':decide (x.Used<(l[n]).Used)=false:=hc
        rw [hc']
        simp only [cond_false]
        refine fin (fun q hq hqn=>?_)
        exact ac2.neg _ _ _ hc (aS6 hs (show n<l.length by omega) (show q≤n by omega))
      · have hc':decide (x.Used<(l[n]).Used)=true:=hc
        rw [hc']
        simp only [cond_true]
        refine cq6 hl hs n k (by omega) (by omega) (fun q hq hqn=>?_)
        rcases Nat.lt_or_ge n q with h | h
        · exact h3 q hq h
        · have:q=n:=by omega
          subst this
          exact hc
theorem bU0 {c:Cache} {t:Int} (hl:c.U.length≤3000):∀ (l:List Blob) (k v:Nat) (S:List Blob),c.U.drop v=l→v≤c.U.length→S.length≤v→l.length<k →
    E5.l4 E5.e1 k c t (ad5 C3 S) (v:Int)=E5.e1 (ad5 C3 (S++l.filter (fun b=>!ae0 b t)))
  | [],k,v,S,h1,h2,h3,h4=>by
    obtain ⟨k,rfl⟩:∃ m,k=m+1:=⟨k - 1,by omega⟩
    have hv:c.U.length≤v:=List.drop_eq_nil_iff.1 h1
    rw [E5.l4,decide_eq_false (by omega)]
    simp
  | b::l,k,v,S,h1,h2,h3,h4=>by
    simp only [List.length_cons] at h4
    obtain ⟨k,rfl⟩:∃ m,k=m+1:=⟨k - 1,by omega⟩
    have hv:v<c.U.length:=by
      rcases Nat.lt_or_ge v c.U.length with h | h
      · exact h
      · rw [List.drop_eq_nil_of_le h] at h1; cases h1
    rw [List.drop_eq_getElem_cons hv] at h1
    injection h1 with g1 g2
    have hw:c5 ((v:Int)+1)=((v+1:Nat):Int):=by rw [B7 (by omega) (by omega)]; omega
    rw [E5.l4,decide_eq_true (by omega),Z6 hv,g1]
    simp only [cond_true,Option.bind_some,bT8]
    have hsl:=aH5 ac2 S
    cases hb:ae0 b t
    · simp only [cond_false]
      rw [cq6 (by omega) (br1 ac2 S) (ad5 C3 S).length n8 (Nat.le_refl _) (by unfold n8; omega) (fun q hq h=>by omega)]
      unfold E5.j5
      rw [hw,← cq7,bU0 hl l k (v+1) (S++[b]) g2 (by omega) (by simp; omega) (by omega),List.filter_cons_of_pos (by simp [hb])]
      simp
    · simp only [cond_true,E5.j5,hw]
      rw [bU0 hl l k (v+1) S g2 (by omega) (by omega) (by omega),List.filter_cons_of_neg (by simp [hb])]
theorem cW3 {c:Cache} (hl:c.U.length≤3000) (t:Int):E5.f c t=some ((W7 c t).map (fun b=>b.b7)):=by
  unfold E5.f
  have h0:=bU0 (t:=t) hl c.U n8 0 [] rfl (by omega) (by simp) (by unfold n8; omega)
  rw [show ad5 C3 ([]:List Blob)=[] from rfl,show ((0:Nat):Int)=0 from rfl,List.nil_append] at h0
  rw [h0]
  unfold E5.e1
  have hll:=bF7 c t
  have h1:=as3 (xs:=W7 c t) (S:=List ByteArray) (L:=fun k s v=>E5.l3 E5.e2 k (W7 c t) s v) (body:=fun _ x s f=>G5 (room s.length 1 16) (f (s++[x.b7]))) (e:=E5.e2) (by omega) (fun k s v=>by simp only [E5.l3]) []
  have h2:=cR0 (g:=fun b:Blob=>b.b7) (b:=16) (E:=E5.e2) (W7 c t) 0 [] (by simp; omega)
  exact h1.trans h2
theorem cq8 {c:Cache} (hb:c.U.length≤4611686018427387904) (d:ByteArray):V8.f c d=some (match c.U.findIdx? (fun x=>p4 x.b7 d) with | some n=>(0:Int)+n | none => -1):=by
  unfold V8.f
  rw [as3 (S:=Unit) (L:=fun k _ v=>V8.l2 V8.e1 k c d v) (body:=fun v x s f=>bif p4 x.b7 d then some v else f s) (e:=fun _=>some (-1)) hb (fun k s v=>rfl) (),bh8 c.U 0]
  rfl
theorem cW4 {c:Cache} (hb:c.Entries.length≤4611686018427387904) (d:ByteArray):ai4.f c d=some (match c.Entries.findIdx? (fun x=>p4 x.Key d) with | some n=>(0:Int)+n | none => -1):=by
  unfold ai4.f
  rw [as3 (S:=Unit) (L:=fun k _ v=>ai4.l2 ai4.e1 k c d v) (body:=fun v x s f=>bif p4 x.Key d then some v else f s) (e:=fun _=>some (-1)) hb (fun k s v=>rfl) (),bh8 c.Entries 0]
  rfl
theorem cq9:∀ {l:List Blob} {b:Blob},l.Pairwise (fun a b=>x9 a.b7 b.b7=true)→b∈l→l.filter (fun x=>p4 x.b7 b.b7)=[b]
  | a::l,b,hs,hb=>by
    obtain ⟨h1,h2⟩:=List.pairwise_cons.1 hs
    rcases List.mem_cons.1 hb with rfl | hb'
    · rw [List.filter_cons_of_pos (p:=fun x:Blob=>p4 x.b7 b.b7) (a:=b) (aO8 _)]
      congr 1
      rw [List.filter_eq_nil_iff]
      intro y hy
      have:=bR8 (h1 y hy)
      simp only [Bool.or_eq_false_iff] at this
      rw [this.2]
      simp
    · rw [List.filter_cons_of_neg (p:=fun x:Blob=>p4 x.b7 b.b7) (a:=a) (by simp [bE3 (h1 b hb')])]
      exact cq9 h2 hb'
theorem erase_filter {α:Type} {key:α→ByteArray} {d:ByteArray}:∀ {l:List α} {n:Nat},l.Pairwise (fun a b=>x9 (key a) (key b)=true)→l.findIdx? (fun x=>p4 (key x) d)=some n→l.take n++l.drop (n+1)=l.filter (fun x=>!p4 (key x) d)
  | [],n,_,h=>by cases h
  | a::l,n,hs,h=>by
    obtain ⟨h1,h2⟩:=List.pairwise_cons.1 hs
    rw [List.findIdx?_cons] at h
    cases hc:p4 (key a) d
    · rw [hc] at h
      simp only [Bool.false_eq_true,if_false] at h
      cases hq:l.findIdx? (fun x=>p4 (key x) d) with
      | none=>rw [hq] at h; cases h
      | some m =>
        rw [hq] at h
        simp at h
        subst h
        rw [List.filter_cons_of_pos (by simp [hc])]
        have ih:=erase_filter h2 hq
        simp only [List.take_succ_cons,List.drop_succ_cons,List.cons_append]
        rw [ih]
    · rw [hc] at h
      simp at h
      subst h
      rw [List.filter_cons_of_neg (by simp [hc])]
      simp only [List.take_zero,List.nil_append,Nat.zero_add,List.drop_succ_cons,List.drop_zero]
      refine (List.filter_eq_self.2 (fun y hy=>?_)).symm
      have hlt:=h1 y hy
      rw [as4.1 hc] at hlt
      have:=bR8 hlt
      simp only [Bool.or_eq_false_iff] at this
      rw [this.2]
      rfl
theorem cr0 {c:Cache} (hl:c.U.length≤3000) (hs:c.U.Pairwise (fun a b=>x9 a.b7 b.b7=true)) {b:Blob} (hb:b∈c.U):aW9.f c b.b7=some ⟨c.Room,c.c4,c.U.filter (fun x=>!p4 x.b7 b.b7),c.Entries⟩:=by
  unfold aW9.f
  have hix:V8.f (⟨c.Room,c.c4,c.U,c.Entries⟩:Cache) b.b7=_:=cq8 (c:=c) (by omega) b.b7
  rw [hix]
  cases hq:c.U.findIdx? (fun x=>p4 x.b7 b.b7) with
  | none =>
    have:=List.findIdx?_eq_none_iff.1 hq b hb
    rw [aO8] at this
    cases this
  | some n =>
    obtain ⟨hn,_,_⟩:=List.findIdx?_eq_some_iff_getElem.1 hq
    simp only [Option.bind_some]
    have w1:c5 ((0:Int)+(n:Int)+1)=((n+1:Nat):Int):=by rw [B7 (by omega) (by omega)]; omega
    rw [w1,show ((0:Int)+(n:Int)).toNat=n by omega]
    rw [Y3 (by simp; omega),Y3 (ab6 (by omega)),Y3 (by simp; omega),Y3 (ab6 (by rw [Int.toNat_natCast]; simp; omega)),Int.toNat_natCast,List.nil_append,erase_filter (key:=fun x:Blob=>x.b7) hs hq]
theorem cW6 {l:List Blob} (hl:l.length≤3000) (hs:aK8 l):ag4.f l=some (D8 l):=by
  rw [bD1 (by omega),bh5 l 0 hs (by omega) (by omega),Int.zero_add]
theorem cr1 {c0 c1 most:Int} {bj2:List Entry} {ls:List Blob}:∀ (rest:List Blob) (k i:Nat) (bl:List Blob) (gone:List ByteArray) (o:Int),ls.drop i=rest→i≤ls.length→ls.length≤3000→bl.length≤3000→bl.Pairwise (fun a b=>x9 a.b7 b.b7=true)→aK8 bl→(∀ b∈rest,b∈bl)→rest.Nodup→D8 bl - most=o→gone.length≤i→rest.length<k →
    K7.l3 K7.e2 k most (ls.map (fun b=>b.b7)) c0 c1 bl bj2 gone (i:Int)=K7.e2 c0 c1 (bl.filter (fun b=>!Q2 ((goN o rest).map (fun b=>b.b7)) b.b7)) bj2 (gone++(goN o rest).map (fun b=>b.b7))
  | [],k,i,bl,gone,o,h1,h2,h3,h4,h5,h6,h7,h8,h9,h10,h11=>by
    obtain ⟨k,rfl⟩:∃ m,k=m+1:=⟨k - 1,by omega⟩
    have hv:ls.length≤i:=List.drop_eq_nil_iff.1 h1
    rw [K7.l3,decide_eq_false (by rw [List.length_map]; omega)]
    have ft:∀ l:List Blob,l.filter (fun _=>true)=l:=fun l=>by simp
    simp [goN,Q2,ft]
  | b::rest,k,i,bl,gone,o,h1,h2,h3,h4,h5,h6,h7,h8,h9,h10,h11=>by
    simp only [List.length_cons] at h11
    obtain ⟨k,rfl⟩:∃ m,k=m+1:=⟨k - 1,by omega⟩
    have hv:i<ls.length:=by
      rcases Nat.lt_or_ge i ls.length with h | h
      · exact h
      · rw [List.drop_eq_nil_of_le h] at h1; cases h1
    rw [List.drop_eq_getElem_cons hv] at h1
    injection h1 with g1 g2
    have hat:o7 (ls.map (fun b=>b.b7)) (i:Int)=some b.b7:=by rw [Z6 (by rw [List.length_map]; exact hv)]; simp [g1]
    rw [K7.l3,decide_eq_true (by rw [List.length_map]; omega),cW6 h4 h6,hat]
    simp only [cond_true,Option.bind_some,goN]
    by_cases ho:o≤0
    · rw [decide_eq_false (show ¬ most<D8 bl by omega),decide_eq_true ho]
      have ft:∀ l:List Blob,l.filter (fun _=>true)=l:=fun l=>by simp
      simp [Q2,ft]
    · rw [decide_eq_true (show most<D8 bl by omega),decide_eq_false ho]
      have hb:=h7 b (by simp)
      simp only [cond_true,cond_false]
      have hd:=cr0 (c:=(⟨c0,c1,bl,bj2⟩:Cache)) h4 h5 hb
      rw [hd]
      simp only [Option.bind_some]
      have hw:c5 ((i:Int)+1)=((i+1:Nat):Int):=by rw [B7 (by omega) (by omega)]; omega
      rw [Y3 (ab6 (by omega)),hw]
      have hsum:D8 (bl.filter (fun x=>!p4 x.b7 b.b7))=D8 bl - b.j4:=by
        have:=bG1 (fun x=>p4 x.b7 b.b7) bl
        rw [cq9 h5 hb] at this
        simp only [D8] at this
        omega
      obtain ⟨n1,n2⟩:=List.nodup_cons.1 h8
      have ih:=cr1 (c0:=c0) (c1:=c1) (most:=most) (bj2:=bj2) (ls:=ls) rest k (i+1) (bl.filter (fun x=>!p4 x.b7 b.b7)) (gone++[b.b7]) (o - b.j4) g2 (by omega) h3 (Nat.le_trans (List.length_filter_le _ _) h4) (h5.filter _) (fun x hx=>h6 x (List.mem_filter.1 hx).1) (fun y hy=>by
        have hyb:=h7 y (by simp [hy])
        refine List.mem_filter.2 ⟨hyb,?_⟩
        cases he:p4 y.b7 b.b7
        · rfl
        · have:=key_inj (key:=fun x:Blob=>x.b7) h5 y hyb b hb (as4.1 he)
          subst this
          exact absurd hy n1) n2 (by omega) (by simp; omega) (by omega)
      rw [ih,List.filter_filter]
      have e1:∀ x:Blob,((!Q2 ((goN (o - b.j4) rest).map (fun b=>b.b7)) x.b7)&&!p4 x.b7 b.b7)=!Q2 (((b::goN (o - b.j4) rest)).map (fun b=>b.b7)) x.b7:=by
        intro x
        rw [List.map_cons]
        unfold Q2
        rw [List.any_cons,Bool.not_or,Bool.and_comm]
        congr 2
        by_cases hx:b.b7=x.b7
        · rw [hx,aO8]; simp
        · rw [decide_eq_false hx]
          cases he:p4 x.b7 b.b7
          · rfl
          · exact absurd (as4.1 he).symm hx
      simp only [e1]
      simp
theorem cW7 {c:Cache} {most t:Int} (hs:aK8 c.U) (hlen:c.U.length≤3000):∀ (l:List Blob) (k v:Nat) (s:Int),c.U.drop v=l→v≤c.U.length→0≤s→s≤(v:Int)*100000000→l.length<k →
    K7.l4 K7.e1 k c most t s (v:Int)=K7.e1 c most t (s+D8 (l.filter (fun b=>ae0 b t))):=by
  intro l
  induction l with
  | nil =>
    intro k v s h1 h2 h3 h4 h5
    obtain ⟨k,rfl⟩:∃ m,k=m+1:=⟨k - 1,by omega⟩
    have hv:c.U.length≤v:=List.drop_eq_nil_iff.1 h1
    rw [K7.l4,decide_eq_false (by omega)]
    simp [D8]
  | cons b l ih =>
    intro k v s h1 h2 h3 h4 h5
    simp only [List.length_cons] at h5
    obtain ⟨k,rfl⟩:∃ m,k=m+1:=⟨k - 1,by omega⟩
    have hv:v<c.U.length:=by
      rcases Nat.lt_or_ge v c.U.length with h | h
      · exact h
      · rw [List.drop_eq_nil_of_le h] at h1; cases h1
    rw [List.drop_eq_getElem_cons hv] at h1
    injection h1 with g1 g2
    have hsz:=hs _ (List.getElem_mem hv)
    rw [g1] at hsz
    have hw:c5 ((v:Int)+1)=((v+1:Nat):Int):=by rw [B7 (by omega) (by omega)]; omega
    rw [K7.l4,decide_eq_true (by omega),Z6 hv,g1]
    simp only [cond_true,Option.bind_some,bT8,K7.j5,hw]
    cases hb:ae0 b t
    · simp only [cond_false]
      rw [ih k (v+1) s g2 (by omega) h3 (by omega) (by omega),List.filter_cons_of_neg (by simp [hb])]
    · simp only [cond_true]
      rw [B7 (by omega) (by omega),ih k (v+1) (s+b.j4) g2 (by omega) (by omega) (by omega) (by omega),List.filter_cons_of_pos (by simp [hb])]
      simp only [D8]
      congr 1
      omega
theorem cr3 (c:Cache) (t:Int):D8 (W7 c t)=D8 c.U - D8 (c.U.filter (fun b=>ae0 b t)):=by
  have h1:=bT2 (bG0 (bj0 c t))
  have h2:=bG1 (fun b=>ae0 b t) c.U
  unfold W7
  rw [h1]
  unfold bj0
  omega
theorem cW8 {c:Cache} (hl:c.U.length≤3000) (hs:aK8 c.U) (hp:c.U.Pairwise (fun a b=>x9 a.b7 b.b7=true)) (most t:Int):K7.f c most t=some (N3 c most t):=by
  unfold K7.f
  have h0:=cW7 (most:=most) (t:=t) hs hl c.U n8 0 0 rfl (by omega) (by omega) (by omega) (by unfold n8; omega)
  rw [show ((0:Nat):Int)=0 from rfl,Int.zero_add] at h0
  rw [h0]
  unfold K7.e1 N3
  have hd:decide (most<D8 (c.U.filter (fun b=>ae0 b t)))=decide (D8 (W7 c t)<D8 c.U - most):=by
    rw [cr3]
    congr 1
    apply propext
    omega
  rw [hd]
  cases decide (D8 (W7 c t)<D8 c.U - most)
  · have hr:E5.f (⟨c.Room,c.c4,c.U,c.Entries⟩:Cache) t=some ((W7 c t).map (fun b=>b.b7)):=cW3 (c:=c) hl t
    have hll:=bF7 c t
    simp only [cond_false,hr,Option.bind_some]
    have hnd:(W7 c t).Nodup:=(bG0 (bj0 c t)).nodup_iff.2 ((bT5 hp).filter _)
    have:=cr1 (c0:=c.Room) (c1:=c.c4) (most:=most) (bj2:=c.Entries) (ls:=W7 c t) (W7 c t) n8 0 c.U [] (D8 c.U - most) rfl (by omega) (by omega) hl hp hs (fun b hb=>(bT3.1 hb).1) hnd rfl (by simp) (by unfold n8; omega)
    rw [show ((0:Nat):Int)=0 from rfl] at this
    rw [this]
    rfl
  · rfl
theorem cU9 {c:Cache} (hf:Fit c):al6.f c=some c:=by
  unfold al6.f
  have hfe:=hf.fe
  rw [Y3 (ab6 (by have:=hf.fb; omega))]
  rw [as3 (xs:=c.Entries) (L:=fun k s v=>al6.l2 al6.e1 k c s v) (body:=fun _ x s f=>bif (fun _=>true) x then G5 (room s.length 1 48) (f (s++[id x])) else f s) (e:=fun s=>some (⟨c.Room,c.c4,c.U,s⟩:Cache)) (by omega) (fun k s v=>by
    simp only [al6.l2]
    congr 1
    refine bR4 (fun x hat hx=>?_)
    simp only [hat,Option.bind_some]
    rw [Y3 (ab6 (by have:=hf.fr x hx; omega))]
    simp only [List.nil_append]
    rfl) []]
  rw [aW5 c.Entries 0 [] (by simp; omega)]
  have:∀ l:List Entry,l.filter (fun _=>true)=l:=fun l=>by simp
  simp [this]
end Go.Proofs.YtiecpfnjmlidbaaGreatDoor
