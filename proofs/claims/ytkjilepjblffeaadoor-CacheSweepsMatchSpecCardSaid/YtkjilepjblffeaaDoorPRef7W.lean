/- Caches: the reference's way to what is swept. -/
import Derived.Test.YtkjilepjblffeaaDoorPRef7
set_option linter.unusedVariables false
set_option linter.unusedSimpArgs false
namespace Go.Proofs.YtkjilepjblffeaaDoor
open Go Go.Proofs.YtkjilepjblffeaaDoor.Kit
theorem has_ref {l:List ByteArray} (h:l.length≤4611686018427387904) (d:ByteArray):smithyardref7_has.f l d=some (memB l d):=by
  unfold smithyardref7_has.f
  rw [rangeS_all (xs:=l) (S:=Unit) (L:=fun k _ v=>smithyardref7_has.l2 smithyardref7_has.e1 k l d v) (body:=fun v x s f=>bif sEq x d then some true else f s) (e:=fun _=>some false) h (fun k s v=>rfl) ()]
  generalize (0:Int)=i
  induction l generalizing i with
  | nil=>rfl
  | cons x l ih =>
    show (bif sEq x d then some true else rangeS _ _ (i+1) l ())=_
    have ih':=ih (by simp at h; omega) (i+1)
    have e:memB (x::l) d=(sEq x d||memB l d):=by
      unfold memB
      rw [List.any_cons]
      congr 1
      by_cases hx:x=d
      · rw [hx,sEq_self]; simp
      · rw [decide_eq_false hx]
        cases he:sEq x d
        · rfl
        · exact absurd (sEq_iff.1 he) hx
    rw [e]
    cases sEq x d
    · exact ih'
    · rfl
def stayS (c:Cache) (roots:List ByteArray):List Entry→List ByteArray→List ByteArray
  | [],s=>s
  | x::l,s=>stayS c roots l (bif memB roots x.Key&&(missingS c x.Refs).isEmpty then s++x.Refs else s)
theorem stayS_mem (c:Cache) (roots:List ByteArray) (d:ByteArray):∀ (l:List Entry) (s:List ByteArray),memB (stayS c roots l s) d=(memB s d||l.any (fun x=>(memB roots x.Key&&(missingS c x.Refs).isEmpty)&&memB x.Refs d))
  | [],s=>by simp [stayS]
  | x::l,s=>by
    unfold stayS
    rw [stayS_mem c roots d l,List.any_cons]
    have happ:∀ a b:List ByteArray,memB (a++b) d=(memB a d||memB b d):=fun a b=>by unfold memB; exact List.any_append
    cases memB roots x.Key&&(missingS c x.Refs).isEmpty
    · simp
    · simp only [cond_true,happ,Bool.true_and]
      cases memB s d <;> cases memB x.Refs d <;> simp
theorem ents_ref {c:Cache} {roots:List ByteArray} {t:Int} (ok:OkCache c) (hf:Fit c) (hrl:roots.length≤3000):∀ (l:List Entry) (k v:Nat) (en:List Entry) (st:List ByteArray),c.Entries.drop v=l→v≤c.Entries.length→en.length≤v→st.length≤3000+v*200→l.length<k →
    smithyardref7_Swept.l5 smithyardref7_Swept.e1 k c roots t c en st (v:Int)=smithyardref7_Swept.e1 c t c (en++l.filter (fun x=>memB roots x.Key)) (stayS c roots l st):=by
  intro l
  induction l with
  | nil =>
    intro k v en st h1 h2 h3 h4 h5
    obtain ⟨k,rfl⟩:∃ m,k=m+1:=⟨k - 1,by omega⟩
    have hv:c.Entries.length≤v:=List.drop_eq_nil_iff.1 h1
    rw [smithyardref7_Swept.l5,decide_eq_false (by omega)]
    simp [stayS]
  | cons x l ih =>
    intro k v en st h1 h2 h3 h4 h5
    simp only [List.length_cons] at h5
    obtain ⟨k,rfl⟩:∃ m,k=m+1:=⟨k - 1,by omega⟩
    have hv:v<c.Entries.length:=by
      rcases Nat.lt_or_ge v c.Entries.length with h | h
      · exact h
      · rw [List.drop_eq_nil_of_le h] at h1; cases h1
    rw [List.drop_eq_getElem_cons hv] at h1
    injection h1 with g1 g2
    have hm:=List.getElem_mem hv
    rw [g1] at hm
    have hel:=ok.el
    have hw:w64 ((v:Int)+1)=((v+1:Nat):Int):=by rw [w64_id (by omega) (by omega)]; omega
    have hr:=(ok.ee x hm).2.1
    rw [smithyardref7_Swept.l5,decide_eq_true (by omega),at_nat hv,g1]
    simp only [cond_true,Option.bind_some,has_ref (show roots.length≤4611686018427387904 by omega),smithyardref7_Swept.j6,hw]
    cases hk:memB roots x.Key
    · simp only [Bool.not_false,cond_true]
      rw [ih k (v+1) en st g2 (by omega) (by omega) (by omega) (by omega),List.filter_cons_of_neg (p:=fun x:Entry=>memB roots x.Key) (by simp [hk])]
      simp [stayS,hk]
    · have hmr:smithyardref7_missing.f (⟨c.Room,c.Lease,c.Blobs,c.Entries⟩:Cache) x.Refs=some (missingS c x.Refs):=missing_ref (c:=c) hf.small (hf.fr x hm)
      simp only [Bool.not_true,cond_false]
      rw [guard?_true (room_of (by omega)),hmr,List.filter_cons_of_pos (p:=fun x:Entry=>memB roots x.Key) hk]
      simp only [Option.bind_some]
      cases hq:missingS c x.Refs with
      | nil =>
        rw [show ((([]:List ByteArray).length:Int) == 0)=true from rfl]
        simp only [cond_true]
        rw [guard?_true (room_of (by omega))]
        rw [ih k (v+1) (en++[x]) (st++x.Refs) g2 (by omega) (by simp; omega) (by rw [List.length_append]; omega) (by omega)]
        simp [stayS,hk,hq]
      | cons a b =>
        rw [show ((((a::b).length:Nat):Int) == 0)=false by simp; omega]
        simp only [cond_false]
        rw [ih k (v+1) (en++[x]) st g2 (by omega) (by simp; omega) (by omega) (by omega)]
        simp [stayS,hk,hq]
theorem blobs_ref {c:Cache} {en:List Entry} {st:List ByteArray} {t:Int} (hst:st.length≤4611686018427387904) (hbl:c.Blobs.length≤3000):∀ (l:List Blob) (k v:Nat) (out:List Blob) (gone:List ByteArray),c.Blobs.drop v=l→v≤c.Blobs.length→out.length≤v→gone.length≤v→l.length<k →
    smithyardref7_Swept.l3 smithyardref7_Swept.e2 k c t c en st out gone (v:Int)=smithyardref7_Swept.e2 c en (out++l.filter (fun b=>heldB b t||memB st b.Digest)) (gone++(l.filter (fun b=>!(heldB b t||memB st b.Digest))).map (fun b=>b.Digest)):=by
  intro l
  induction l with
  | nil =>
    intro k v out gone h1 h2 h3 h4 h5
    obtain ⟨k,rfl⟩:∃ m,k=m+1:=⟨k - 1,by omega⟩
    have hv:c.Blobs.length≤v:=List.drop_eq_nil_iff.1 h1
    rw [smithyardref7_Swept.l3,decide_eq_false (by omega)]
    simp
  | cons x l ih =>
    intro k v out gone h1 h2 h3 h4 h5
    simp only [List.length_cons] at h5
    obtain ⟨k,rfl⟩:∃ m,k=m+1:=⟨k - 1,by omega⟩
    have hv:v<c.Blobs.length:=by
      rcases Nat.lt_or_ge v c.Blobs.length with h | h
      · exact h
      · rw [List.drop_eq_nil_of_le h] at h1; cases h1
    rw [List.drop_eq_getElem_cons hv] at h1
    injection h1 with g1 g2
    have hw:w64 ((v:Int)+1)=((v+1:Nat):Int):=by rw [w64_id (by omega) (by omega)]; omega
    rw [smithyardref7_Swept.l3,decide_eq_true (by omega),at_nat hv,g1]
    simp only [cond_true,Option.bind_some,heldR,has_ref hst,smithyardref7_Swept.j4,hw]
    have hc:(bif heldB x t then some true else some (memB st x.Digest))=some (heldB x t||memB st x.Digest):=by cases heldB x t <;> rfl
    rw [hc]
    simp only [Option.bind_some]
    cases hb:heldB x t||memB st x.Digest
    · simp only [cond_false]
      rw [guard?_true (room_of (by omega)),ih k (v+1) out (gone++[x.Digest]) g2 (by omega) (by omega) (by simp; omega) (by omega)]
      rw [List.filter_cons_of_neg (p:=fun b:Blob=>heldB b t||memB st b.Digest) (by simp [hb]),List.filter_cons_of_pos (p:=fun b:Blob=>!(heldB b t||memB st b.Digest)) (by simp [hb])]
      simp
    · simp only [cond_true]
      rw [guard?_true (room_of (by omega)),ih k (v+1) (out++[x]) gone g2 (by omega) (by simp; omega) (by omega) (by omega)]
      rw [List.filter_cons_of_pos (p:=fun b:Blob=>heldB b t||memB st b.Digest) (by simp [hb]),List.filter_cons_of_neg (p:=fun b:Blob=>!(heldB b t||memB st b.Digest)) (by simp [hb])]
      simp
theorem sweptR {c:Cache} {roots:List ByteArray} {t:Int} (hf:Fit c) (hr:smallStrs roots):smithyardref7_Swept.f c roots t=sweptS c roots t:=by
  unfold smithyardref7_Swept.f sweptS checkAtS digestsS
  rw [check_ref hf.small,rising_ref hr]
  obtain ⟨f,e1⟩:=cacheS_some c
  rw [e1]
  simp only [Option.bind_some,within7R]
  cases h0:f != 0
  · have hz:f=0:=by simpa using h0
    subst hz
    have ok:=cacheS_ok e1
    simp only [cond_false]
    cases hi:inR 0 1000000000 t
    · rfl
    · simp only [Bool.not_true,cond_false,Option.bind_some,bne_self_eq_false]
      cases hd:decide ((3000:Int)<(roots.length:Int))
      · have hrl:roots.length≤3000:=by have:=of_decide_eq_false hd; omega
        obtain ⟨g,hg⟩:=refsS_some roots
        simp only [cond_false,hg,Option.bind_some]
        cases h1:g != 0
        · simp only [cond_false,copied_ref hf,Option.bind_some]
          rw [guard?_true (room_of (by omega)),List.nil_append]
          have hel:=ok.el
          have q1:=ents_ref (t:=t) ok hf hrl c.Entries big 0 [] roots rfl (by omega) (by simp) (by omega) (by unfold big; omega)
          rw [show ((0:Nat):Int)=0 from rfl] at q1
          rw [q1]
          unfold smithyardref7_Swept.e1
          have hsl:∀ (l:List Entry) (s:List ByteArray),(∀ x∈l,x.Refs.length≤200)→(stayS c roots l s).length≤s.length+l.length*200:=by
            intro l
            induction l with
            | nil=>intro s _; simp [stayS]
            | cons x l ih =>
              intro s h
              have:=h x (by simp)
              unfold stayS
              cases memB roots x.Key&&(missingS c x.Refs).isEmpty
              · have:=ih s (fun y hy=>h y (by simp [hy]))
                simp only [cond_false,List.length_cons]
                omega
              · have:=ih (s++x.Refs) (fun y hy=>h y (by simp [hy]))
                simp only [cond_true,List.length_cons]
                rw [List.length_append] at this
                omega
          have hs1:=hsl c.Entries roots (fun x hx=>(ok.ee x hx).2.1)
          have q2:=blobs_ref (en:=[]++c.Entries.filter (fun x=>memB roots x.Key)) (st:=stayS c roots c.Entries roots) (t:=t) (by omega) ok.bl c.Blobs big 0 [] [] rfl (by omega) (by simp) (by simp) (by unfold big; have:=ok.bl; omega)
          rw [show ((0:Nat):Int)=0 from rfl] at q2
          rw [q2]
          unfold smithyardref7_Swept.e2
          have hk:∀ b:Blob,(heldB b t||memB (stayS c roots c.Entries roots) b.Digest)=keepB c roots t b:=fun b=>by
            unfold keepB
            rw [stayS_mem,wantM_get]
          simp only [hk,List.nil_append]
          rfl
        · rfl
      · rfl
  · simp only [cond_true,Option.bind_some,h0]
    rfl
end Go.Proofs.YtkjilepjblffeaaDoor
