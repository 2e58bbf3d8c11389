/- Pieces of bytes: cut, cut into, fresh, shared, together. -/
import Derived.Test.YtgmfdaibmaakpaaDoorPO
import Derived.Test.YtgmfdaibmaakpaaDoorPMp
set_option linter.unusedVariables false
set_option linter.unusedSimpArgs false
namespace Go.Proofs.YtgmfdaibmaakpaaDoor
open Go Go.Proofs.YtgmfdaibmaakpaaDoor.Kit
def GoodP (l:List Int) (s:Int):Prop:=(∀ x∈l,1≤x)∧l.sum=s
theorem GoodP.push {l:List Int} {s x:Int} (h:GoodP l s) (hx:1≤x):GoodP (l++[x]) (s+x):=by
  refine ⟨fun y hy=>?_,by rw [List.sum_append,h.2]; simp⟩
  rcases List.mem_append.1 hy with hy | hy
  · exact h.1 y hy
  · have:y=x:=by simpa using hy
    omega
theorem cut_cond (c:Bool) (a2:Int) (h:0≤a2) (p q:Bool):∃ b,(bif c then (guard? (decide ((0:Int)≤a2)) (bif p then (some true) else (some q))) else (some q))=some b:=by
  rw [decide_eq_true h]
  cases c
  · exact ⟨_,rfl⟩
  · cases p <;> exact ⟨_,rfl⟩
theorem cut_loop (b:List Int) (hb:b.length≤2000000) (a1 a2 a3 p:Int) (h2:0≤a2):∀ (d k:Nat) (v h f:Int) (out:List Int),0≤v→v+d=b.length→d<k→GoodP out f→0≤f→f≤v→(out.length:Int)≤v →
    ∃ r,blob_cut.l4 blob_cut.e2 k b a1 a2 a3 p out h f v=some r∧GoodP r b.length:=by
  intro d
  induction d with
  | zero =>
    intro k v h f out h0 hv hk hg f0 f1 ho
    obtain ⟨k,rfl⟩:∃ m,k=m+1:=⟨k - 1,by omega⟩
    rw [blob_cut.l4,decide_eq_false (by omega)]
    simp only [cond_false]
    unfold blob_cut.e2 blob_cut.j3
    by_cases hf:f<(b.length:Int)
    · rw [decide_eq_true hf,w64_id (by omega) (by omega)]
      simp only [cond_true]
      rw [guard?_true (room_of (by omega))]
      refine ⟨_,rfl,?_⟩
      have:=hg.push (x:=(b.length:Int) - f) (by omega)
      rwa [show f+((b.length:Int) - f)=b.length by omega] at this
    · rw [decide_eq_false hf]
      refine ⟨_,rfl,?_⟩
      rwa [show (b.length:Int)=f by omega]
  | succ d ih =>
    intro k v h f out h0 hv hk hg f0 f1 ho
    obtain ⟨k,rfl⟩:∃ m,k=m+1:=⟨k - 1,by omega⟩
    rw [blob_cut.l4,decide_eq_true (by omega)]
    simp only [cond_true]
    obtain ⟨hn,hat⟩:=at?_get (xs:=b) h0 (by omega)
    rw [hat]
    simp only [Option.bind_some]
    have step:∀ g:Int,∃ r,blob_cut.j5 (blob_cut.l4 blob_cut.e2 k) b a1 a2 a3 p out f v b[v.toNat] g=some r∧GoodP r b.length:=fun g=>by
      unfold blob_cut.j5
      rw [w64_id (n:=v+1) (by omega) (by omega),w64_id (n:=v+1 - f) (by omega) (by omega)]
      obtain ⟨c,hc⟩:=cut_cond (decide (a1≤v+1 - f)) a2 h2 (iAnd .u32 (IntKind.wrap .u32 ((IntKind.wrap .u32 (31*g))+(IntKind.wrap .u32 b[v.toNat]))) (IntKind.wrap .u32 ((iShl .u32 1 a2) - 1)) == 0) (decide (a3≤v+1 - f))
      rw [hc]
      simp only [Option.bind_some]
      unfold blob_cut.j6
      rw [w64_id (n:=v+1) (by omega) (by omega)]
      cases c
      · simp only [cond_false]
        exact ih k (v+1) _ f out (by omega) (by omega) (by omega) hg f0 (by omega) (by omega)
      · simp only [cond_true]
        rw [guard?_true (room_of (by omega))]
        refine ih k (v+1) _ (v+1) (out++[v+1 - f]) (by omega) (by omega) (by omega) ?_ (by omega) (by omega) (by rw [List.length_append,List.length_singleton]; omega)
        have:=hg.push (x:=v+1 - f) (by omega)
        rwa [show f+(v+1 - f)=v+1 by omega] at this
    by_cases h16:16≤v
    · rw [decide_eq_true h16,w64_id (by omega) (by omega)]
      obtain ⟨hn2,hat2⟩:=at?_get (xs:=b) (v:=v - 16) (by omega) (by omega)
      rw [hat2]
      simp only [cond_true,Option.bind_some]
      exact step _
    · rw [decide_eq_false h16]
      exact step h
theorem power_loop (b:List Int) (a1 a2 a3:Int) (E:List Int→Int→Int→Int→Int→Option (List Int)):∀ (d k:Nat) (p v:Int),v+d=15→0≤v→d<k→∃ q,blob_cut.l7 E k b a1 a2 a3 p v=E b a1 a2 a3 q:=by
  intro d
  induction d with
  | zero =>
    intro k p v hv h0 hk
    obtain ⟨k,rfl⟩:∃ m,k=m+1:=⟨k - 1,by omega⟩
    rw [blob_cut.l7,decide_eq_false (by omega)]
    exact ⟨p,rfl⟩
  | succ d ih =>
    intro k p v hv h0 hk
    obtain ⟨k,rfl⟩:∃ m,k=m+1:=⟨k - 1,by omega⟩
    rw [blob_cut.l7,decide_eq_true (by omega),w64_id (by omega) (by omega)]
    exact ih k _ (v+1) (by omega) (by omega) (by omega)
theorem cut_good (b:List Int) (hb:b.length≤2000000) (a1 a2 a3:Int) (h2:0≤a2):∃ r,blob_cut.f b a1 a2 a3=some r∧GoodP r b.length:=by
  unfold blob_cut.f
  obtain ⟨q,hq⟩:=power_loop b a1 a2 a3 blob_cut.e1 15 big 1 0 (by omega) (by omega) (by unfold big; omega)
  rw [hq]
  unfold blob_cut.e1
  exact cut_loop b hb a1 a2 a3 q h2 b.length big 0 0 0 [] (by omega) (by omega) (by unfold big; omega) ⟨(fun x hx=>by cases hx),rfl⟩ (by omega) (by omega) (by simp)
theorem pieces_good (b:List Int) (a1 a2 a3:Int):∃ r f,blob_Pieces.f b a1 a2 a3=some (r,f)∧(f≠0→r=[])∧(f=0→GoodP r b.length∧r.length≤20000∧b.length≤2000000):=by
  unfold blob_Pieces.f
  by_cases h:2000000<(b.length:Int)
  · rw [decide_eq_true h]
    exact ⟨_,_,rfl,fun _=>rfl,fun h=>by cases h⟩
  rw [decide_eq_false h]
  obtain ⟨t,ht⟩:∃ t,(bif decide (a1<1) then (some true) else (bif decide (a3<a1) then (some true) else (bif decide (a2<0) then (some true) else (bif decide (20<a2) then (some true) else (some (decide (100000<a3)))))))=some t:=by
    cases decide (a1<1)
    · cases decide (a3<a1)
      · cases decide (a2<0)
        · cases decide (20<a2) <;> exact ⟨_,rfl⟩
        · exact ⟨_,rfl⟩
      · exact ⟨_,rfl⟩
    · exact ⟨_,rfl⟩
  have h0:t=false→0≤a2:=fun hf=>by
    subst hf
    by_cases h2:a2<0
    · rw [decide_eq_true h2] at ht
      revert ht
      cases decide (a1<1) <;> cases decide (a3<a1) <;> intro ht <;> cases ht
    · omega
  rw [ht]
  simp only [cond_false,Option.bind_some]
  cases t
  · obtain ⟨r,hr,hg⟩:=cut_good b (by omega) a1 a2 a3 (h0 rfl)
    rw [hr]
    simp only [cond_false,Option.bind_some]
    by_cases hl:20000<(r.length:Int)
    · rw [decide_eq_true hl]
      exact ⟨_,_,rfl,fun _=>rfl,fun h=>by cases h⟩
    · rw [decide_eq_false hl]
      exact ⟨_,_,rfl,fun h=>absurd rfl h,fun _=>⟨hg,by omega,by omega⟩⟩
  · exact ⟨_,_,rfl,fun _=>rfl,fun h=>by cases h⟩
/-! pieces -/
def cutL:List Int→List Int→List (List Int)
  | _,[]=>[]
  | b,x::a=>b.take x.toNat::cutL (b.drop x.toNat) a
theorem GoodP.head {x s:Int} {a:List Int} (h:GoodP (x::a) s):1≤x∧GoodP a (s - x):=by
  refine ⟨h.1 x (by simp),fun y hy=>h.1 y (by simp [hy]),?_⟩
  have:=h.2
  rw [List.sum_cons] at this
  omega
theorem GoodP.nonneg:∀ {a:List Int} {s:Int},GoodP a s→0≤s
  | [],s,h=>by have:=h.2; simp at this; omega
  | x::a,s,h=>by
    obtain ⟨h1,h2⟩:=h.head
    have:=h2.nonneg
    omega
theorem cutL_length:∀ (a b:List Int),(cutL b a).length=a.length
  | [],b=>rfl
  | x::a,b=>by simp [cutL,cutL_length a]
theorem cutL_flatten:∀ (a b:List Int),GoodP a b.length→(cutL b a).flatten=b
  | [],b,h=>by
    have:=h.2
    simp at this
    have:b=[]:=List.eq_nil_of_length_eq_zero (by omega)
    rw [this]
    rfl
  | x::a,b,h=>by
    obtain ⟨h1,h2⟩:=h.head
    have:=h2.nonneg
    have hl:GoodP a (b.drop x.toNat).length:=by
      rw [List.length_drop]
      rwa [show ((b.length - x.toNat:Nat):Int)=(b.length:Int) - x by omega]
    show b.take x.toNat++(cutL (b.drop x.toNat) a).flatten=b
    rw [cutL_flatten a _ hl,List.take_append_drop]
theorem cutL_sub:∀ (a b:List Int),∀ z∈cutL b a,∀ n∈z,n∈b
  | [],b,z,hz=>by cases hz
  | x::a,b,z,hz=>fun n hn=>by
    rcases List.mem_cons.1 hz with rfl | hz
    · exact List.mem_of_mem_take hn
    · exact List.mem_of_mem_drop (cutL_sub a _ z hz n hn)
theorem clamp {x:Int} {n:Nat} (h1:1≤x) (h2:x≤n):max2 0 (min2 x (n:Int))=x:=by
  unfold max2 min2
  repeat' split
  all_goals omega
theorem cutInto_range:∀ (a b:List Int) (i:Int) (out:List (List Int)),GoodP a b.length→b.length≤2000000→out.length+a.length≤1000000 →
    rangeS (fun _ x (s:List Int × List (List Int)) f=>guard? (decide ((0:Int)≤(max2 0 (min2 x (s.1.length:Int))))&&decide ((max2 0 (min2 x (s.1.length:Int)))≤((s.1.length:Nat):Int))) (guard? (room s.2.length 1 24) (guard? (decide ((0:Int)≤(max2 0 (min2 x (s.1.length:Int))))&&decide ((max2 0 (min2 x (s.1.length:Int)))≤((s.1.length:Nat):Int))) (f (s.1.drop (max2 0 (min2 x (s.1.length:Int))).toNat,s.2++[(s.1.take (max2 0 (min2 x (s.1.length:Int))).toNat)]))))) (fun s=>some s.2) i a (b,out)=some (out++cutL b a)
  | [],b,i,out,_,_,_=>by simp [rangeS,cutL]
  | x::a,b,i,out,h,hb,ho=>by
    obtain ⟨h1,h2⟩:=h.head
    have h3:=h2.nonneg
    have hx:x≤b.length:=by omega
    have hlen:(x::a).length=a.length+1:=rfl
    rw [hlen] at ho
    have hl:GoodP a (b.drop x.toNat).length:=by
      rw [List.length_drop]
      rwa [show ((b.length - x.toNat:Nat):Int)=(b.length:Int) - x by omega]
    rw [rangeS]
    simp only [clamp h1 hx]
    rw [decide_eq_true (by omega),decide_eq_true hx]
    simp only [Bool.and_self]
    rw [guard?_true rfl,guard?_true (room_of (by omega)),guard?_true rfl,cutInto_range a (b.drop x.toNat) (i+1) (out++[b.take x.toNat]) hl (by rw [List.length_drop]; omega) (by rw [List.length_append,List.length_singleton]; omega)]
    simp [cutL]
theorem cutInto_eq {a b:List Int} (h:GoodP a b.length) (hb:b.length≤2000000) (ha:a.length≤20000):smithyardtop_cutInto.f b a=some (cutL b a):=by
  unfold smithyardtop_cutInto.f
  have:=rangeS_all (xs:=a) (L:=fun k (s:List Int × List (List Int)) v=>smithyardtop_cutInto.l2 smithyardtop_cutInto.e1 k a s.1 s.2 v) (body:=fun _ x (s:List Int × List (List Int)) f=>guard? (decide ((0:Int)≤(max2 0 (min2 x (s.1.length:Int))))&&decide ((max2 0 (min2 x (s.1.length:Int)))≤((s.1.length:Nat):Int))) (guard? (room s.2.length 1 24) (guard? (decide ((0:Int)≤(max2 0 (min2 x (s.1.length:Int))))&&decide ((max2 0 (min2 x (s.1.length:Int)))≤((s.1.length:Nat):Int))) (f (s.1.drop (max2 0 (min2 x (s.1.length:Int))).toNat,s.2++[(s.1.take (max2 0 (min2 x (s.1.length:Int))).toNat)]))))) (e:=fun s=>some s.2) (by omega) (fun k s v=>by
    simp only [smithyardtop_cutInto.l2,smithyardtop_cutInto.e1]) (b,[])
  refine this.trans ?_
  rw [cutInto_range a b 0 [] h hb (by simp; omega)]
  simp
/-! sums of lengths -/
def tot (l:List (List Int)):Nat:=(l.map List.length).sum
theorem tot_cons (x:List Int) (l:List (List Int)):tot (x::l)=x.length+tot l:=by simp [tot]
theorem tot_flatten (l:List (List Int)):l.flatten.length=tot l:=by simp [tot,List.length_flatten]
theorem sum_range {β:Type} {e:Int→Option β}:∀ (l:List (List Int)) (i s:Int),0≤s→s+tot l≤1000000000→rangeS (fun _ x s f=>f (w64 (s+(x.length:Int)))) e i l s=e (s+tot l)
  | [],i,s,h0,h=>by simp [rangeS,tot]
  | x::l,i,s,h0,h=>by
    rw [tot_cons] at h ⊢
    simp only [rangeS]
    rw [w64_id (by omega) (by omega),sum_range l (i+1) (s+x.length) (by omega) (by omega)]
    congr 1
    omega
theorem checkPieces_ok {l:List (List Int)} (h1:l.length≤20000) (h2:tot l≤2000000):wire_checkPieces.f l=some 0:=by
  unfold wire_checkPieces.f
  have:=rangeS_all (xs:=l) (L:=fun k s v=>wire_checkPieces.l2 wire_checkPieces.e1 k l s v) (body:=fun _ x s f=>f (w64 (s+(x.length:Int)))) (e:=fun s=>wire_checkPieces.e1 l s) (by omega) (fun k s v=>rfl) 0
  rw [this,sum_range l 0 0 (by omega) (by omega)]
  unfold wire_checkPieces.e1
  rw [decide_eq_false (by omega),decide_eq_false (by omega)]
  rfl
/-! sets of texts -/
def putL (m:List (ByteArray × Bool)) (l:List (List Int)):List (ByteArray × Bool):=l.foldl (fun m x=>mput m (strN x) true) m
theorem putL_get:∀ (l:List (List Int)) (m:List (ByteArray × Bool)) (k:ByteArray),mgetD (putL m l) k false=(mgetD m k false||l.any (fun x=>decide (strN x=k)))
  | [],m,k=>by simp [putL]
  | x::l,m,k=>by
    have ih:=putL_get l (mput m (strN x) true) k
    unfold putL at ih ⊢
    rw [List.foldl_cons,ih,mgetD_put,List.any_cons]
    cases decide (strN x=k) <;> cases mgetD m k false <;> simp
def frs:List (ByteArray × Bool)→Int→List (List Int)→List Int
  | _,_,[]=>[]
  | m,i,z::y=>if mgetD m (strN z) false=true then frs m (i+1) y else i::frs (mput m (strN z) true) (i+1) y
def frsum:List (ByteArray × Bool)→List (List Int)→Nat
  | _,[]=>0
  | m,z::y=>if mgetD m (strN z) false=true then frsum m y else z.length+frsum (mput m (strN z) true) y
def sh (m:List (ByteArray × Bool)):List (List Int)→Nat
  | []=>0
  | z::y=>(if mgetD m (strN z) false=true then z.length else 0)+sh m y
theorem frs_le:∀ (y:List (List Int)) (m:List (ByteArray × Bool)) (i:Int),(frs m i y).length≤y.length∧∀ j∈frs m i y,i≤j∧j<i+y.length
  | [],m,i=>by simp [frs]
  | z::y,m,i=>by
    unfold frs
    split
    · obtain ⟨h1,h2⟩:=frs_le y m (i+1)
      refine ⟨by simp; omega,fun j hj=>?_⟩
      have:=h2 j hj
      simp
      omega
    · obtain ⟨h1,h2⟩:=frs_le y (mput m (strN z) true) (i+1)
      refine ⟨by simp; omega,fun j hj=>?_⟩
      rcases List.mem_cons.1 hj with rfl | hj
      · simp
        omega
      · have:=h2 j hj
        simp
        omega
theorem frs_cover:∀ (y:List (List Int)) (m:List (ByteArray × Bool)) (i:Int),∀ z∈y,mgetD m (strN z) false=true∨∃ j∈frs m i y,∃ w,y[(j - i).toNat]? = some w∧strN w=strN z
  | [],m,i,z,hz=>by cases hz
  | x::y,m,i,z,hz=>by
    unfold frs
    have back:∀ {j:Int} {w:List Int} {m':List (ByteArray × Bool)},j∈frs m' (i+1) y→y[(j - (i+1)).toNat]? = some w→(x::y)[(j - i).toNat]? = some w:=fun {j w m'} hj hw=>by
      have:=((frs_le y m' (i+1)).2 j hj).1
      rw [show (j - i).toNat=(j - (i+1)).toNat+1 by omega,List.getElem?_cons_succ]
      exact hw
    split
    · rename_i hx
      rcases List.mem_cons.1 hz with rfl | hz
      · exact Or.inl hx
      · rcases frs_cover y m (i+1) z hz with h | ⟨j,hj,w,hw,he⟩
        · exact Or.inl h
        · exact Or.inr ⟨j,hj,w,back hj hw,he⟩
    · rename_i hx
      rcases List.mem_cons.1 hz with rfl | hz
      · exact Or.inr ⟨i,by simp,z,by simp,rfl⟩
      · rcases frs_cover y (mput m (strN x) true) (i+1) z hz with h | ⟨j,hj,w,hw,he⟩
        · rw [mgetD_put] at h
          rcases (Bool.or_eq_true _ _).mp h with h | h
          · exact Or.inr ⟨i,by simp,x,by simp,by simpa using h⟩
          · exact Or.inl h
        · exact Or.inr ⟨j,by simp [hj],w,back hj hw,he⟩
theorem frsum_sh:∀ (y:List (List Int)) (m m0:List (ByteArray × Bool)),(∀ k,mgetD m0 k false=true→mgetD m k false=true)→frsum m y+sh m0 y≤tot y
  | [],m,m0,h=>by simp [frsum,sh]
  | z::y,m,m0,h=>by
    unfold frsum sh
    rw [tot_cons]
    split
    · have ih:=frsum_sh y m m0 h
      split <;> omega
    · rename_i hx
      have ih:=frsum_sh y (mput m (strN z) true) m0 (fun k hk=>by rw [mgetD_put,h k hk,Bool.or_true])
      rw [if_neg (fun hc=>hx (h _ hc))]
      omega
theorem put_range {S:Type} {e:List (ByteArray × Bool)→Option S}:∀ (ys:List (List Int)) (i:Int) (w:List (ByteArray × Bool)),rangeS (fun _ y w k=>k (mput w (strN y) true)) e i ys w=e (putL w ys)
  | [],i,w=>rfl
  | y::ys,i,w=>by
    rw [rangeS]
    show rangeS (fun _ y w k=>k (mput w (strN y) true)) e (i+1) ys (mput w (strN y) true)=_
    rw [put_range ys (i+1) (mput w (strN y) true)]
    rfl
theorem fresh_range:∀ (y:List (List Int)) (i:Int) (m:List (ByteArray × Bool)) (out:List Int) (s:Int),0≤i→i+y.length≤1000000→0≤s→s+tot y≤1000000000→out.length+y.length≤1000000 →
    rangeS (fun v x (t:List (ByteArray × Bool) × List Int × Int) f=>bif !(mgetD t.1 (strN x) false) then guard? (room t.2.1.length 1 8) (f (mput t.1 (strN x) true,t.2.1++[v],w64 (t.2.2+(x.length:Int)))) else f t) (fun t=>some (t.2.1,t.2.2,(0:Int))) i y (m,out,s)=some (out++frs m i y,s+frsum m y,0)
  | [],i,m,out,s,_,_,_,_,_=>by simp [rangeS,frs,frsum]
  | z::y,i,m,out,s,h1,h2,h3,h4,h5=>by
    have hlen:(z::y).length=y.length+1:=rfl
    rw [hlen] at h2 h5
    rw [tot_cons] at h4
    rw [rangeS,frs,frsum]
    cases hm:mgetD m (strN z) false
    · simp only [Bool.not_false,cond_true,Bool.false_eq_true,if_false]
      rw [guard?_true (room_of (by omega)),w64_id (by omega) (by omega),fresh_range y (i+1) _ _ _ (by omega) (by omega) (by omega) (by omega) (by rw [List.length_append,List.length_singleton]; omega)]
      congr 2
      · simp
      · congr 1
        omega
    · simp only [Bool.not_true,cond_false,if_true]
      exact fresh_range y (i+1) m out s (by omega) (by omega) h3 (by omega) (by omega)
theorem fresh_eq {x y:List (List Int)} (hx:x.length≤20000) (hy:y.length≤20000) (tx:tot x≤2000000) (ty:tot y≤2000000):wire_Fresh.f x y=some (frs (putL [] x) 0 y,(frsum (putL [] x) y:Int),0):=by
  unfold wire_Fresh.f
  rw [checkPieces_ok hx tx,checkPieces_ok hy ty]
  simp only [Option.bind_some,bne_self_eq_false,cond_false]
  have h1:=rangeS_all (xs:=x) (L:=fun k m v=>wire_Fresh.l5 wire_Fresh.e1 k x y m v) (body:=fun _ z m f=>f (mput m (strN z) true)) (e:=fun m=>wire_Fresh.e1 y m) (by omega) (fun k m v=>rfl) []
  rw [h1,put_range]
  unfold wire_Fresh.e1
  have h2:=rangeS_all (xs:=y) (L:=fun k (t:List (ByteArray × Bool) × List Int × Int) v=>wire_Fresh.l3 wire_Fresh.e2 k y t.1 t.2.1 t.2.2 v) (body:=fun v x (t:List (ByteArray × Bool) × List Int × Int) f=>bif !(mgetD t.1 (strN x) false) then guard? (room t.2.1.length 1 8) (f (mput t.1 (strN x) true,t.2.1++[v],w64 (t.2.2+(x.length:Int)))) else f t) (e:=fun t=>some (t.2.1,t.2.2,(0:Int))) (by omega) (fun k t v=>by
    simp only [wire_Fresh.l3,wire_Fresh.e2,wire_Fresh.j4]) (putL [] x,[],0)
  refine h2.trans ?_
  rw [fresh_range y 0 _ [] 0 (by omega) (by omega) (by omega) (by omega) (by simp; omega)]
  simp
/-! shared -/
theorem shared_put:∀ (a b:List Int) (i:Int) (m:List (ByteArray × Bool)) (E:List (ByteArray × Bool)→Option (Int × Int)),GoodP a b.length →
    rangeS (fun _ x (s:List Int × List (ByteArray × Bool)) f=>guard? (decide ((0:Int)≤x)&&decide (x≤((s.1.length:Nat):Int))) (guard? (decide ((0:Int)≤x)&&decide (x≤((s.1.length:Nat):Int))) (f (s.1.drop x.toNat,mput s.2 (strN (s.1.take x.toNat)) true)))) (fun s=>E s.2) i a (b,m)=E (putL m (cutL b a))
  | [],b,i,m,E,_=>by simp [rangeS,cutL,putL]
  | x::a,b,i,m,E,h=>by
    obtain ⟨h1,h2⟩:=h.head
    have h3:=h2.nonneg
    have hl:GoodP a (b.drop x.toNat).length:=by
      rw [List.length_drop]
      rwa [show ((b.length - x.toNat:Nat):Int)=(b.length:Int) - x by omega]
    rw [rangeS]
    simp only []
    rw [decide_eq_true (by omega),decide_eq_true (show x≤((b.length:Nat):Int) by omega)]
    simp only [Bool.and_self]
    rw [guard?_true rfl,guard?_true rfl,shared_put a _ (i+1) _ E hl]
    rfl
theorem shared_sum (m:List (ByteArray × Bool)):∀ (a b:List Int) (i s:Int),GoodP a b.length→0≤s→s+b.length≤1000000000 →
    rangeS (fun _ x (t:List Int × Int) f=>guard? (decide ((0:Int)≤x)&&decide (x≤((t.1.length:Nat):Int))) (bif mgetD m (strN (t.1.take x.toNat)) false then guard? (decide ((0:Int)≤x)&&decide (x≤((t.1.length:Nat):Int))) (f (t.1.drop x.toNat,w64 (t.2+x))) else guard? (decide ((0:Int)≤x)&&decide (x≤((t.1.length:Nat):Int))) (f (t.1.drop x.toNat,t.2)))) (fun t=>some (t.2,(0:Int))) i a (b,s)=some (s+sh m (cutL b a),0)
  | [],b,i,s,_,_,_=>by simp [rangeS,cutL,sh]
  | x::a,b,i,s,h,h0,hs=>by
    obtain ⟨h1,h2⟩:=h.head
    have h3:=h2.nonneg
    have hl:GoodP a (b.drop x.toNat).length:=by
      rw [List.length_drop]
      rwa [show ((b.length - x.toNat:Nat):Int)=(b.length:Int) - x by omega]
    rw [rangeS]
    simp only []
    rw [decide_eq_true (by omega),decide_eq_true (show x≤((b.length:Nat):Int) by omega)]
    simp only [Bool.and_self]
    rw [guard?_true rfl,cutL,sh]
    have ht:(b.take x.toNat).length=x.toNat:=by rw [List.length_take]; omega
    cases hm:mgetD m (strN (b.take x.toNat)) false
    · simp only [cond_false,Bool.false_eq_true,if_false]
      rw [guard?_true rfl,shared_sum m a _ (i+1) s hl h0 (by rw [List.length_drop]; omega)]
      simp
    · simp only [cond_true,if_true]
      rw [guard?_true rfl,w64_id (by omega) (by omega),shared_sum m a _ (i+1) (s+x) hl (by omega) (by rw [List.length_drop]; omega),ht]
      congr 2
      omega
theorem shared_eq {x y:List Int} {a1 a2 a3:Int} {p q:List Int} (hp:blob_Pieces.f x a1 a2 a3=some (p,0)) (hq:blob_Pieces.f y a1 a2 a3=some (q,0)) (gp:GoodP p x.length) (gq:GoodP q y.length) (lp:p.length≤20000) (lq:q.length≤20000) (ly:y.length≤2000000) :
    blob_Shared.f x y a1 a2 a3=some ((sh (putL [] (cutL x p)) (cutL y q):Int),0):=by
  unfold blob_Shared.f
  rw [hp,hq]
  simp only [Option.bind_some,bne_self_eq_false,cond_false]
  have h1:=rangeS_all (xs:=p) (L:=fun k (s:List Int × List (ByteArray × Bool)) v=>blob_Shared.l5 blob_Shared.e1 k y (p,0) (q,0) s.1 s.2 v) (body:=fun _ x (s:List Int × List (ByteArray × Bool)) f=>guard? (decide ((0:Int)≤x)&&decide (x≤((s.1.length:Nat):Int))) (guard? (decide ((0:Int)≤x)&&decide (x≤((s.1.length:Nat):Int))) (f (s.1.drop x.toNat,mput s.2 (strN (s.1.take x.toNat)) true)))) (e:=fun s=>blob_Shared.e1 y (q,0) s.2) (by omega) (fun k s v=>by
    simp only [blob_Shared.l5]) (x,[])
  refine h1.trans ?_
  rw [shared_put p x 0 [] (fun m=>blob_Shared.e1 y (q,0) m) gp]
  unfold blob_Shared.e1
  have h2:=rangeS_all (xs:=q) (L:=fun k (t:List Int × Int) v=>blob_Shared.l3 blob_Shared.e2 k (q,0) (putL [] (cutL x p)) t.1 t.2 v) (body:=fun _ z (t:List Int × Int) f=>guard? (decide ((0:Int)≤z)&&decide (z≤((t.1.length:Nat):Int))) (bif mgetD (putL [] (cutL x p)) (strN (t.1.take z.toNat)) false then guard? (decide ((0:Int)≤z)&&decide (z≤((t.1.length:Nat):Int))) (f (t.1.drop z.toNat,w64 (t.2+z))) else guard? (decide ((0:Int)≤z)&&decide (z≤((t.1.length:Nat):Int))) (f (t.1.drop z.toNat,t.2)))) (e:=fun t=>some (t.2,(0:Int))) (by omega) (fun k t v=>by
    simp only [blob_Shared.l3,blob_Shared.e2,blob_Shared.j4]) (y,0)
  refine h2.trans ?_
  rw [shared_sum _ q y 0 0 gq (by omega) (by omega)]
  simp
/-! together -/
theorem concat_first:∀ (l:List (List Int)) (i s:Int) (E:Int→Option (List Int)),0≤s→s+tot l≤1000000000→rangeS (fun _ x s f=>bif decide ((w64 (s+(x.length:Int)))<0) then none else f (w64 (s+(x.length:Int)))) E i l s=E (s+tot l)
  | [],i,s,E,h0,h=>by simp [rangeS,tot]
  | x::l,i,s,E,h0,h=>by
    rw [tot_cons] at h ⊢
    rw [rangeS,w64_id (by omega) (by omega),decide_eq_false (by omega)]
    simp only [cond_false]
    rw [concat_first l (i+1) (s+x.length) E (by omega) (by omega)]
    congr 1
    omega
theorem concat_second:∀ (l:List (List Int)) (i:Int) (out:List Int),out.length+tot l≤1000000000→rangeS (fun _ x s f=>guard? (room s.length x.length 1) (f (s++x))) (fun s=>some s) i l out=some (out++l.flatten)
  | [],i,out,h=>by simp [rangeS]
  | x::l,i,out,h=>by
    rw [tot_cons] at h
    simp only [rangeS]
    rw [guard?_true (room_of (by omega)),concat_second l (i+1) (out++x) (by rw [List.length_append]; omega)]
    simp
theorem concat_eq {l:List (List Int)} (h1:l.length≤20000) (h:tot l≤2000000):slices_Concat_byte.f l=some l.flatten:=by
  unfold slices_Concat_byte.f
  have a:=rangeS_all (xs:=l) (L:=fun k s v=>slices_Concat_byte.l4 slices_Concat_byte.e1 k l s v) (body:=fun _ x s f=>bif decide ((w64 (s+(x.length:Int)))<0) then none else f (w64 (s+(x.length:Int)))) (e:=fun s=>slices_Concat_byte.e1 l s) (by omega) (fun k s v=>rfl) 0
  rw [a,concat_first l 0 0 _ (by omega) (by omega)]
  unfold slices_Concat_byte.e1 slices_Grow_byte.f
  rw [guard?_true (by
    rw [decide_eq_true (by omega:(0:Int)≤0+(tot l:Int)),room_of (by omega)]
    rfl)]
  simp only [Option.bind_some]
  have b:=rangeS_all (xs:=l) (L:=fun k s v=>slices_Concat_byte.l3 slices_Concat_byte.e2 k l s v) (body:=fun _ x s f=>guard? (room s.length x.length 1) (f (s++x))) (e:=fun s=>some s) (by omega) (fun k s v=>by
    simp only [slices_Concat_byte.l3,slices_Concat_byte.e2]) []
  rw [b,concat_second l 0 [] (by simp; omega)]
  simp
theorem together_eq {l:List (List Int)} (h1:l.length≤20000) (h:tot l≤2000000):blob_Together.f l=some (l.flatten,0):=by
  unfold blob_Together.f
  rw [decide_eq_false (by omega)]
  have:=rangeS_all (xs:=l) (L:=fun k s v=>blob_Together.l2 blob_Together.e1 k l s v) (body:=fun _ x s f=>f (w64 (s+(x.length:Int)))) (e:=fun s=>blob_Together.e1 l s) (by omega) (fun k s v=>rfl) 0
  simp only [cond_false]
  rw [this,sum_range l 0 0 (by omega) (by omega)]
  unfold blob_Together.e1
  rw [decide_eq_false (by omega),concat_eq h1 h]
  rfl
/-! lists that are alike -/
theorem equal_bytes {a b:List Int} (ha:a.length≤4611686018427387904):slices_Equal_byte.f a b=some (decide (a=b)):=by
  unfold slices_Equal_byte.f
  by_cases hl:a.length=b.length
  · rw [show ((a.length:Int) != (b.length:Int))=false by rw [hl]; simp]
    have key:∀ (d k:Nat) (v:Int),0≤v→v+d=a.length→d<k→slices_Equal_byte.l2 slices_Equal_byte.e1 k a b v=some (decide (a.drop v.toNat=b.drop v.toNat)):=by
      intro d
      induction d with
      | zero =>
        intro k v h0 hv hk
        obtain ⟨k,rfl⟩:∃ m,k=m+1:=⟨k - 1,by omega⟩
        rw [slices_Equal_byte.l2,decide_eq_false (by omega),List.drop_eq_nil_of_le (show a.length≤v.toNat by omega),List.drop_eq_nil_of_le (show b.length≤v.toNat by omega)]
        rfl
      | succ d ih =>
        intro k v h0 hv hk
        obtain ⟨k,rfl⟩:∃ m,k=m+1:=⟨k - 1,by omega⟩
        obtain ⟨hn,hat⟩:=at?_get (xs:=a) h0 (by omega)
        obtain ⟨hn2,hat2⟩:=at?_get (xs:=b) h0 (by omega)
        rw [slices_Equal_byte.l2,decide_eq_true (by omega),hat,hat2,w64_id (by omega) (by omega),ih k (v+1) (by omega) (by omega) (by omega),List.drop_eq_getElem_cons hn,List.drop_eq_getElem_cons hn2,show (v+1).toNat=v.toNat+1 by omega]
        simp only [cond_true,Option.bind_some]
        by_cases he:a[v.toNat]=b[v.toNat]
        · rw [he,bne_self_eq_false]
          simp only [cond_false]
          congr 1
          exact decide_eq_decide.2 ⟨fun h=>by rw [h],fun h=>(List.cons.inj h).2⟩
        · have:(a[v.toNat] != b[v.toNat])=true:=by simpa using he
          rw [this,decide_eq_false (fun h=>he (List.cons.inj h).1)]
          rfl
    have:=key a.length big 0 (by omega) (by omega) (by unfold big; omega)
    simpa using this
  · rw [show ((a.length:Int) != (b.length:Int))=true by simp; omega,decide_eq_false (fun h=>hl (by rw [h]))]
    rfl
theorem strN_inj:∀ {a b:List Int},(∀ x∈a,0≤x∧x≤255)→(∀ x∈b,0≤x∧x≤255)→strN a=strN b→a=b:=by
  intro a b ha hb h
  have h2:a.map (fun n=>UInt8.ofNat n.toNat)=b.map (fun n=>UInt8.ofNat n.toNat):=by
    have:=congrArg (fun s:ByteArray=>s.data.toList) h
    simpa [strN] using this
  clear h
  induction a generalizing b with
  | nil=>cases b with
    | nil=>rfl
    | cons y b=>simp at h2
  | cons x a ih =>
    cases b with
    | nil=>simp at h2
    | cons y b =>
      simp only [List.map_cons,List.cons.injEq] at h2
      have h3:=congrArg UInt8.toNat h2.1
      have hx:=ha x (by simp)
      have hy:=hb y (by simp)
      simp only [UInt8.toNat_ofNat'] at h3
      have:x=y:=by omega
      rw [this,ih (fun z hz=>ha z (by simp [hz])) (fun z hz=>hb z (by simp [hz])) h2.2]
end Go.Proofs.YtgmfdaibmaakpaaDoor
