/- Caches: what would go, in which order; what goes to make room. -/
import Derived.Test.YtiecpfnjmlidbaaGreatDoorPC7E
import Derived.Test.YtiecpfnjmlidbaaGreatDoorPStb3
set_option linter.unusedVariables false
set_option linter.unusedSimpArgs false
namespace Go.Proofs.YtiecpfnjmlidbaaGreatDoor
open Go Go.Proofs.YtiecpfnjmlidbaaGreatDoor.Kit
theorem cV7 (l:List Blob) (t:Int) (h:l.length≤4611686018427387904):al5.f l t=some (match l.findIdx? (fun b=>ae0 b t) with | some n=>(0:Int)+n | none => -1):=by
  unfold al5.f
  rw [as3 (xs:=l) (S:=Unit) (L:=fun k _ v=>al5.l2 al5.e1 k l t v) (body:=fun v x s f=>bif ae0 x t then some v else f s) (e:=fun _=>some (-1)) h (fun k s v=>by
    simp only [al5.l2,bi9.f,bS4,Option.bind_some]
    rfl) ()]
  exact bh8 l 0
theorem cV8 (l:List Blob) (t:Int) (h:l.length≤4611686018427387904):X3.f l t=some (l.filter (fun b=>!ae0 b t)):=by
  unfold X3.f
  rw [cV7 l t h]
  exact cm8 (c:=fun b=>ae0 b t) (L:=fun k s i j=>X3.l2 X3.e1 k t s i j) (E:=X3.e1) h (fun k s i j=>by
    simp only [X3.l2,X3.j3,bi9.f,bS4,Option.bind_some]) (fun s i h0 h1=>cm7 s i h0 h1)
def bj0 (c:Cache) (t:Int):List Blob:=c.U.filter (fun b=>!ae0 b t)
def W7 (c:Cache) (t:Int):List Blob:=ad5 C3 (bj0 c t)
theorem cV9 {c:Cache} (h:c.U.length*48≤140737490452480) (t:Int):bj1.f c t=some (W7 c t):=by
  unfold bj1.f
  rw [bS2 h]
  simp only [Option.bind_some]
  rw [cV8 _ _ (by omega)]
  simp only [Option.bind_some]
  rw [cW0 (Nat.le_trans (List.length_filter_le _ _) (by omega))]
  rfl
theorem bF7 (c:Cache) (t:Int):(W7 c t).length≤c.U.length:=by
  unfold W7
  rw [aH5 ac2]
  exact List.length_filter_le _ _
theorem bT3 {c:Cache} {t:Int} {b:Blob}:b∈W7 c t↔b∈c.U∧ae0 b t=false:=by
  unfold W7 bj0
  rw [cp4 ac2,List.mem_filter]
  simp
/-! permutations -/
theorem bT4:∀ (n:Nat) (xs ys:List Blob),xs.length+ys.length≤n→(K1 C3 xs ys).Perm (xs++ys)
  | _,[],ys,_=>by rw [ag8]; exact List.Perm.refl _
  | _,x::xs,[],_=>by rw [az3,List.append_nil]
  | 0,x::xs,y::ys,h=>by simp at h
  | n+1,x::xs,y::ys,h=>by
    simp only [List.length_cons] at h
    cases hc:C3 y x
    · rw [as6 C3 hc]
      exact List.Perm.cons x (bT4 n xs (y::ys) (by simp only [List.length_cons]; omega))
    · rw [as7 C3 hc]
      exact (List.Perm.cons y (bT4 n (x::xs) ys (by simp only [List.length_cons]; omega))).trans List.perm_middle.symm
theorem bG0:∀ (l:List Blob),(ad5 C3 l).Perm l
  | []=>List.Perm.refl _
  | x::l=>by
    have:=bq7 ac2 [x] l
    rw [List.singleton_append] at this
    rw [this]
    have e:ad5 C3 [x]=[x]:=by simp [ad5,ag8]
    rw [e]
    exact (bT4 _ _ _ (Nat.le_refl _)).trans (List.Perm.cons x (bG0 l))
theorem bT2 {a b:List Blob} (h:a.Perm b):D8 a=D8 b:=by
  induction h with
  | nil=>rfl
  | cons x _ ih=>simp only [D8,ih]
  | swap x y l=>simp only [D8]; omega
  | trans _ _ ih1 ih2=>exact ih1.trans ih2
theorem bG1 (p:Blob→Bool):∀ (l:List Blob),D8 (l.filter p)+D8 (l.filter (fun b=>!p b))=D8 l
  | []=>rfl
  | x::l=>by
    have:=bG1 p l
    rw [List.filter_cons,List.filter_cons]
    cases p x <;> simp [D8] <;> omega
def goN:Int→List Blob→List Blob
  | _,[]=>[]
  | o,b::l=>bif decide (o≤0) then [] else b::goN (o - b.j4) l
theorem bq6:∀ (l:List Blob) (o:Int),∃ r,l=goN o l++r
  | [],o=>⟨[],rfl⟩
  | b::l,o=>by
    unfold goN
    cases decide (o≤0)
    · obtain ⟨r,hr⟩:=bq6 l (o - b.j4)
      exact ⟨r,by simp only [cond_false,List.cons_append]; rw [← hr]⟩
    · exact ⟨b::l,rfl⟩
theorem cp2:∀ (l:List Blob) (o:Int),o≤D8 l→(∀ x∈l,0≤x.j4)→o≤D8 (goN o l)
  | [],o,h,_=>h
  | b::l,o,h,hz=>by
    unfold goN
    by_cases ho:o≤0
    · rw [decide_eq_true ho]
      exact ho
    · rw [decide_eq_false ho]
      simp only [cond_false,D8] at h ⊢
      have:=cp2 l (o - b.j4) (by omega) (fun x hx=>hz x (by simp [hx]))
      omega
def aK8 (l:List Blob):Prop:=∀ x∈l,0≤x.j4∧x.j4≤100000000
theorem cp5 {c:Cache}:∀ (l:List Blob) (k:Nat) (xs:List Blob) (o:Int) (gone:List ByteArray) (v:Nat),xs.drop v=l→v≤xs.length→xs.length≤1000000→gone.length+l.length≤1000000→l.length<k→aK8 l→o≤2305843009213693952 → -2305843009213693952≤o →
    af4.l2 af4.e1 k c xs o gone (v:Int)=af4.e1 c (gone++(goN o l).map (fun b=>b.b7))
  | [],k,xs,o,gone,v,h1,h2,h3,h4,h5,h6,h7,h8=>by
    obtain ⟨k,rfl⟩:∃ m,k=m+1:=⟨k - 1,by omega⟩
    have hv:xs.length≤v:=List.drop_eq_nil_iff.1 h1
    rw [af4.l2,decide_eq_false (by omega)]
    simp [goN]
  | b::l,k,xs,o,gone,v,h1,h2,h3,h4,h5,h6,h7,h8=>by
    simp only [List.length_cons] at h4 h5
    obtain ⟨k,rfl⟩:∃ m,k=m+1:=⟨k - 1,by omega⟩
    have hv:v<xs.length:=by
      rcases Nat.lt_or_ge v xs.length with h | h
      · exact h
      · rw [List.drop_eq_nil_of_le h] at h1; cases h1
    rw [List.drop_eq_getElem_cons hv] at h1
    injection h1 with g1 g2
    rw [af4.l2,decide_eq_true (by omega),Z6 hv,g1]
    simp only [cond_true,Option.bind_some,goN]
    by_cases ho:o≤0
    · rw [decide_eq_true ho]
      simp
    · rw [decide_eq_false ho]
      simp only [cond_false]
      obtain ⟨s1,s2⟩:=h6 b (by simp)
      rw [Y3 (ab6 (by omega)),B7 (by omega) (by omega),show c5 ((v:Int)+1)=((v+1:Nat):Int) by rw [B7 (by omega) (by omega)]; omega]
      rw [cp5 l k xs (o - b.j4) (gone++[b.b7]) (v+1) g2 (by omega) h3 (by simp; omega) (by omega) (fun x hx=>h6 x (by simp [hx])) (by omega) (by omega)]
      simp
def aS4 (c:Cache) (most t:Int):List Blob:=goN (D8 c.U - most) (W7 c t)
def af5 (c:Cache) (most t:Int):List ByteArray:=(aS4 c most t).map (fun b=>b.b7)
def aH4 (c:Cache) (gone:List ByteArray):Cache:=⟨c.Room,c.c4,c.U.filter (fun b=>!Q2 gone b.b7),c.Entries⟩
def N3 (c:Cache) (most t:Int):List ByteArray × Bool × Cache:=bif decide (D8 (W7 c t)<D8 c.U - most) then ([],false,c) else (af5 c most t,true,aH4 c (af5 c most t))
theorem N5.sz {c:Cache} (h:N5 c):aK8 c.U:=fun x hx=>⟨(h.be x hx).2.1,(h.be x hx).2.2.1⟩
theorem cp3 {c:Cache} (h:aK8 c.U) (t:Int):aK8 (W7 c t):=fun x hx=>h x (bT3.1 hx).1
theorem cp6:∀ (l:List Blob),aK8 l→D8 l≤(l.length:Int)*100000000
  | [],_=>by simp [D8]
  | x::l,h=>by
    have:=(h x (by simp)).2
    have:=cp6 l (fun y hy=>h y (by simp [hy]))
    simp only [D8,List.length_cons]
    push_cast
    omega
theorem bS9 {l:List Blob} {c:Cache} (hc:c.U=l) (hl:l.length≤3000) (hs:aK8 l):ac0.f c=some (D8 l):=by
  rw [cl6 (by rw [hc]; omega),hc,bh5 l 0 hs (by omega) (by omega),Int.zero_add]
theorem cR8 {c:Cache} (hl:c.U.length≤3000) (hs:aK8 c.U) {most t:Int} (h1 : -1000000000000≤most) (h2:most≤1000000000000):af4.f c most t=some (N3 c most t):=by
  unfold af4.f N3 bG2.f
  have hll:=bF7 c t
  have hls:=cp3 hs t
  have e1:bj1.f (⟨c.Room,c.c4,c.U,c.Entries⟩:Cache) t=some (W7 c t):=cV9 (c:=c) (by omega) t
  have e2:ac0.f (⟨c.Room,c.c4,c.U,c.Entries⟩:Cache)=some (D8 c.U):=bS9 rfl hl hs
  have S7:ac0.f (⟨0,0,W7 c t,([]:List Entry)⟩:Cache)=some (D8 (W7 c t)):=bS9 rfl (by omega) hls
  have b1:=cp6 c.U hs
  have b2:=bR9 c.U (fun x hx=>(hs x hx).1)
  rw [e1,e2]
  simp only [Option.bind_some,S7]
  rw [B7 (n:=D8 c.U - most) (by omega) (by omega)]
  cases hc:decide (D8 (W7 c t)<D8 c.U - most)
  · simp only [cond_false]
    have:=cp5 (c:=c) (W7 c t) n8 (W7 c t) (D8 c.U - most) [] 0 rfl (by omega) (by omega) (by simp; omega) (by unfold n8; omega) hls (by omega) (by omega)
    rw [show ((0:Nat):Int)=0 from rfl] at this
    rw [this,List.nil_append]
    unfold af4.e1
    have hg:(af5 c most t).length≤3000:=by
      unfold af5 aS4
      obtain ⟨r,hr⟩:=bq6 (W7 c t) (D8 c.U - most)
      have:=congrArg List.length hr
      rw [List.length_append] at this
      rw [List.length_map]
      omega
    have hd:=cn0 (c:=(⟨c.Room,c.c4,c.U,c.Entries⟩:Cache)) (l:=af5 c most t) (by omega) (show c.U.length≤4611686018427387904 by omega)
    show (af3.f (⟨c.Room,c.c4,c.U,c.Entries⟩:Cache) (af5 c most t)).bind _=_
    rw [hd]
    rfl
  · rfl
/-! what goes are blobs that were there -/
theorem bT5 {c:Cache} (hs:c.U.Pairwise (fun a b=>x9 a.b7 b.b7=true)):c.U.Nodup:=by
  refine List.Pairwise.imp (fun {a b} h he=>?_) hs
  subst he
  rw [bb5] at h
  cases h
theorem cW1 {c:Cache} (hs:c.U.Pairwise (fun a b=>x9 a.b7 b.b7=true)) (most t:Int):(aS4 c most t).Nodup:=by
  obtain ⟨r,hr⟩:=bq6 (W7 c t) (D8 c.U - most)
  have h1:(W7 c t).Nodup:=(bG0 (bj0 c t)).nodup_iff.2 ((bT5 hs).filter _)
  rw [hr] at h1
  exact (List.nodup_append.1 h1).1
theorem bT6 {c:Cache} {most t:Int} {b:Blob} (h:b∈aS4 c most t):b∈c.U∧ae0 b t=false:=by
  obtain ⟨r,hr⟩:=bq6 (W7 c t) (D8 c.U - most)
  refine bT3.1 ?_
  rw [hr]
  exact List.mem_append.2 (.inl h)
theorem cp7 {c:Cache} (hs:c.U.Pairwise (fun a b=>x9 a.b7 b.b7=true)) {most t:Int} {b:Blob} (hb:b∈c.U):Q2 (af5 c most t) b.b7=true↔b∈aS4 c most t:=by
  rw [cQ0]
  unfold af5
  constructor
  · intro h
    obtain ⟨b',h1,h2⟩:=List.mem_map.1 h
    have:=key_inj (key:=fun x:Blob=>x.b7) hs b' (bT6 h1).1 b hb h2
    subst this
    exact h1
  · intro h
    exact List.mem_map.2 ⟨b,h,rfl⟩
theorem cV5 {c:Cache} (hs:c.U.Pairwise (fun a b=>x9 a.b7 b.b7=true)) (most t:Int):D8 (aH4 c (af5 c most t)).U=D8 c.U - D8 (aS4 c most t):=by
  have h1:=bG1 (fun b=>Q2 (af5 c most t) b.b7) c.U
  have h2:(c.U.filter (fun b=>Q2 (af5 c most t) b.b7)).Perm (aS4 c most t):=by
    refine (List.perm_ext_iff_of_nodup ((bT5 hs).filter _) (cW1 hs most t)).2 (fun b=>?_)
    rw [List.mem_filter]
    constructor
    · rintro ⟨h1,h2⟩; exact (cp7 hs h1).1 h2
    · intro h; exact ⟨(bT6 h).1,(cp7 hs (bT6 h).1).2 h⟩
  have h3:=bT2 h2
  show D8 (c.U.filter (fun b=>!Q2 (af5 c most t) b.b7))=_
  omega
end Go.Proofs.YtiecpfnjmlidbaaGreatDoor
