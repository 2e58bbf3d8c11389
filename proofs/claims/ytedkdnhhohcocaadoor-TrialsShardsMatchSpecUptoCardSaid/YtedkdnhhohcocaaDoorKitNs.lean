/- Words of our own: a slice of the call's own whose elements are slices of the call's own. Their blocks lie as a list J just ahead of F. -/
import Derived.Test.YtedkdnhhohcocaaDoorKitU
set_option linter.unusedSimpArgs false
set_option linter.unusedVariables false
set_option linter.unnecessarySimpa false
namespace Go.Proofs.YtedkdnhhohcocaaDoor.Kit
open Go Go.RowKit

/-! ### 70. Blocks in another order; one out of a list of many -/
def DifR (a b:Ch):Prop:=∀ q r,a=some q→b=some r→q.1≠r.1
theorem DifR.symm {a b:Ch} (h:DifR a b):DifR b a:=fun q r hq hr e=>h r q hr hq e.symm
section
variable {H H':Hp} {w0 w:World} {cs cs' Q J F':List Ch} {ch:Ch} {m n k:Nat}
theorem Heap.pw (h:Heap H w0 w cs):cs.Pairwise DifR :=
  List.pairwise_iff_getElem.2 (fun i j hi hj hij q r hq hr=>h.dif i j q r (by rw [List.getElem?_eq_getElem hi,hq]) (by rw [List.getElem?_eq_getElem hj,hr]) (by omega))
theorem Heap.perm (h:Heap H w0 w cs) (hp:cs.Perm cs'):Heap H w0 w cs':=by
  have hpw:cs'.Pairwise DifR:=h.pw.perm hp (fun h=>h.symm)
  refine ⟨h.ext,h.sub,fun i q hq=>?_,fun i j q r hq hr hne=>?_⟩
  · have hm:some q∈cs:=hp.mem_iff.2 (List.mem_of_getElem? hq)
    obtain ⟨k,hk,e⟩:=List.getElem_of_mem hm
    exact h.own k q (by rw [List.getElem?_eq_getElem hk,e])
  · obtain ⟨hi,ei⟩:=List.getElem?_eq_some_iff.1 hq
    obtain ⟨hj,ej⟩:=List.getElem?_eq_some_iff.1 hr
    rcases Nat.lt_or_gt_of_ne hne with hlt | hlt
    · exact (List.pairwise_iff_getElem.1 hpw i j hi hj hlt) q r ei ej
    · exact fun e=>(List.pairwise_iff_getElem.1 hpw j i hj hi hlt) r q ej ei e.symm
theorem set_parts {x:Ch} (hm:m<Q.length):Q.set m x=Q.take m++x::Q.drop (m+1):=by
  rw [List.set_eq_take_append_cons_drop,if_pos hm]
theorem swap_perm (A B:List Ch) (a b:Ch):(a::(A++b::B)).Perm (b::(A++a::B)) :=
  ((List.perm_middle (l₁:=A) (a:=b) (l₂:=B)).cons a).trans ((List.Perm.swap b a (A++B)).trans ((List.perm_middle (l₁:=A) (a:=a) (l₂:=B)).symm.cons b))
theorem Heap.pull (h:Heap H w0 w Q) (hm:Q[m]? = some ch):Heap H w0 w (ch::Q.set m none):=by
  obtain ⟨hlt,e⟩:=List.getElem?_eq_some_iff.1 hm
  have e1:Q.set m ch=Q:=by rw [← e]; exact List.set_getElem_self hlt
  rw [set_parts hlt]
  have h1:=h.noneCh
  rw [← e1,set_parts hlt] at h1
  exact h1.perm (swap_perm _ _ _ _)
theorem Heap.pushBack (h:Heap H w0 w (ch::Q.set m none)) (hlt:m<Q.length):Heap H w0 w (Q.set m ch):=by
  rw [set_parts hlt] at h ⊢
  exact (h.perm (swap_perm _ _ _ _)).tl
theorem seg_get (hd:cs.drop n=J++F') (hk:k<J.length):cs[n+k]? = J[k]? := by
  rw [← List.getElem?_drop,hd,List.getElem?_append_left hk]
theorem seg_set (hd:cs.drop n=J++F') (hk:k<J.length) (x:Ch):cs.set (n+k) x=cs.take n++(J.set k x++F'):=by
  have hlt:n<cs.length:=by
    rcases Nat.lt_or_ge n cs.length with h | h
    · exact h
    · rw [List.drop_eq_nil_of_le h] at hd
      have:=congrArg List.length hd
      simp at this
      omega
  have hl:(cs.take n).length=n:=by rw [List.length_take]; omega
  have e:cs=cs.take n++(J++F'):=by rw [← hd,List.take_append_drop]
  have e2:cs.set (n+k) x=(cs.take n++(J++F')).set (n+k) x:=congrArg (fun l=>List.set l (n+k) x) e
  rw [e2,List.set_append_right _ _ (by rw [hl]; omega),hl,show n+k - n=k by omega,List.set_append_left _ _ hk]
theorem Heap.pullJ (h:Heap H w0 w cs) (hd:cs.drop n=J++F') (hk:J[k]? = some ch):Heap H w0 w (ch::(cs.take n++(J.set k none++F'))):=by
  have hlt:=(List.getElem?_eq_some_iff.1 hk).1
  rw [← seg_set hd hlt]
  exact h.pull ((seg_get hd hlt).trans hk)
theorem Heap.backJ (h:Heap H w0 w (ch::cs)) (hd:cs.drop n=J.set k none++F') (hk:k<J.length):Heap H w0 w (cs.take n++(J.set k ch++F')):=by
  have hk':k<(J.set k none).length:=by simpa using hk
  have e:J.set k ch=(J.set k none).set k ch:=by rw [List.set_set]
  rw [e,← seg_set hd hk']
  refine Heap.pushBack (m:=n+k) ?_ ?_
  · have:cs.set (n+k) none=cs:=by
      rw [seg_set hd hk',List.set_set,← hd,List.take_append_drop]
    rw [this]
    exact h
  · have:=congrArg List.length hd
    simp at this
    omega
theorem Heap.nones:∀ {J:List Ch},(∀ c∈J,c=none)→Heap H w0 w cs→Heap H w0 w (J++cs)
  | [],_,h=>h
  | c::J,hJ,h=>by
    have:=Heap.nones (J:=J) (fun c hc=>hJ c (by simp [hc])) h
    rw [hJ c (by simp)]
    exact this.noneCh
theorem Heap.segs (hJ:∀ c∈J,c=none) (h:Heap H w0 w cs) (n:Nat):Heap H w0 w (cs.take n++(J++cs.drop n)):=by
  have h1:=h.nones hJ
  rw [← List.take_append_drop n cs] at h1
  refine h1.perm ?_
  rw [← List.append_assoc,← List.append_assoc]
  exact List.Perm.append_right _ List.perm_append_comm
end
section
variable {H H0:Hp} {w0:World} {B:World→Prop} {cs cs' J F':List Ch} {ch:Ch}
theorem Hs.pull (n:Nat) {k:Nat} (hd:cs.drop n=J++F') (hk:J[k]? = some ch) (he:ch::(cs.take n++(J.set k none++F'))=cs') (K:Hs H0 w0 B H cs'):Hs H0 w0 B H cs:=fun hl w h=>K hl w (he ▸ h.pullJ hd hk)
theorem Hs.back (n:Nat) {k:Nat} (hk:k<J.length) (hd:cs.drop n=J.set k none++F') (he:cs.take n++(J.set k ch++F')=cs') (K:Hs H0 w0 B H cs'):Hs H0 w0 B H (ch::cs):=fun hl w h=>K hl w (he ▸ h.backJ hd hk)
theorem Hs.seg (n:Nat) (hJ:∀ c∈J,c=none) (he:cs.take n++(J++cs.drop n)=cs') (K:Hs H0 w0 B H cs'):Hs H0 w0 B H cs:=fun hl w h=>K hl w (he ▸ h.segs hJ n)
theorem Rw.j {α:Type} {d:Kd α} {A:Option Addr} {xs:List α} (h:Rw d H F' A xs) (J:List Ch):Rw d H (J++F') A xs:=h.wk (fun _ h=>List.mem_append_right J h)
theorem Mw.j {κ ν:Type} {enc:κ→Value} {kd:Kd ν} {ag:Bool} {A:Option Nat} {m:List (κ × ν)} (h:Mw enc kd ag H F' A m) (J:List Ch):Mw enc kd ag H (J++F') A m:=h.wk (fun _ h=>List.mem_append_right J h)
theorem InG.j {g:Nat} {o:Obj} (h:InG H F' g o) (J:List Ch):InG H (J++F') g o:=h.wk (fun _ h=>List.mem_append_right J h)
end
/-! ### 71. Slices of slices -/
abbrev Hd:=Option Addr × Nat × Nat
def Kd.hd:Kd Hd:=Kd.scalar (fun x=>.slice x.1 x.2.1 x.2.2) (fun _=>rfl)
def Ns {α:Type} (d:Kd α) (e:TypeId) (H:Hp):List Hd→List (List α)→List Ch→Prop
  | [],[],[]=>True
  | h::hs,x::xs,c::J=>(SlOwn d e H h.1 h.2.2 x c∧h.2.1=x.length)∧Ns d e H hs xs J
  | _,_,_=>False
def Fz {α:Type} (d:Kd α) (H:Hp) (hs:List Hd) (xss:List (List α)):Prop :=
  hs.length=xss.length∧∀ (i:Nat) h x,hs[i]? = some h→xss[i]? = some x→Kd.Row d H h.1 x∧x.length≤h.2.2∧h.2.1=x.length
section
variable {α:Type} {d:Kd α} {e:TypeId} {H H':Hp}
theorem Ns.len:∀ {hs:List Hd} {xss:List (List α)} {J:List Ch},Ns d e H hs xss J→hs.length=xss.length∧J.length=xss.length
  | [],[],[],_=>⟨rfl,rfl⟩
  | h::hs,x::xs,c::J,hN=>by
    obtain ⟨a,b⟩:=Ns.len (hs:=hs) (xss:=xs) (J:=J) hN.2
    exact ⟨by simp [a],by simp [b]⟩
  | [],[],_::_,h=>h.elim
  | [],_::_,[],h=>h.elim
  | [],_::_,_::_,h=>h.elim
  | _::_,[],[],h=>h.elim
  | _::_,[],_::_,h=>h.elim
  | _::_,_::_,[],h=>h.elim
theorem Ns.mono' (hl:Le H H'):∀ {hs:List Hd} {xss:List (List α)} {J:List Ch},Ns d e H hs xss J→Ns d e H' hs xss J
  | [],[],[],_=>trivial
  | h::hs,x::xs,c::J,hN=>⟨⟨hN.1.1.mono hl,hN.1.2⟩,Ns.mono' hl hN.2⟩
  | [],[],_::_,h=>h.elim
  | [],_::_,[],h=>h.elim
  | [],_::_,_::_,h=>h.elim
  | _::_,[],[],h=>h.elim
  | _::_,[],_::_,h=>h.elim
  | _::_,_::_,[],h=>h.elim
theorem Ns.mono {hs:List Hd} {xss:List (List α)} {J:List Ch} (h:Ns d e H hs xss J) (hl:Le H H'):Ns d e H' hs xss J:=Ns.mono' hl h
theorem Ns.made:∀ (n:Nat),Ns d e H (List.replicate n (none,0,0)) (List.replicate n []) (List.replicate n none)
  | 0=>trivial
  | n+1=>⟨⟨SlOwn.nil,rfl⟩,Ns.made n⟩
theorem Ns.at_:∀ {hs:List Hd} {xss:List (List α)} {J:List Ch} (i:Nat) {x:List α},Ns d e H hs xss J→xss[i]? = some x→∃ A c ch,hs[i]? = some (A,x.length,c)∧J[i]? = some ch∧SlOwn d e H A c x ch
  | (A,n,c)::hs,y::xs,ch::J,0,x,hN,hx=>by
    simp only [List.getElem?_cons_zero,Option.some.injEq] at hx
    subst hx
    obtain ⟨⟨h1,h2⟩,_⟩:=hN
    simp only at h1 h2
    subst h2
    exact ⟨A,c,ch,rfl,rfl,h1⟩
  | _::hs,_::xs,_::J,i+1,x,hN,hx=>Ns.at_ (hs:=hs) (xss:=xs) (J:=J) i hN.2 (by simpa using hx)
  | [],[],_,_,_,_,hx=>by simp at hx
  | _::_,[],_,_,_,_,hx=>by simp at hx
  | [],_::_,[],_,_,h,_=>h.elim
  | [],_::_,_::_,_,_,h,_=>h.elim
  | _::_,_::_,[],_,_,h,_=>h.elim
theorem Ns.get {hs:List Hd} {xss:List (List α)} {J:List Ch} {i:Int} {x:List α} (h:Ns d e H hs xss J) (hx:at? xss i=some x):∃ A c ch,at? hs i=some (A,x.length,c)∧J[i.toNat]? = some ch∧SlOwn d e H A c x ch:=by
  obtain ⟨h0,h1,h2⟩:=at?_some hx
  obtain ⟨A,c,ch,k1,k2,k3⟩:=h.at_ i.toNat h2
  exact ⟨A,c,ch,by simp [at?,h0,k1],k2,k3⟩
theorem Ns.set:∀ {hs:List Hd} {xss:List (List α)} {J:List Ch} (i:Nat) {A:Option Addr} {n c:Nat} {x:List α} {ch:Ch},Ns d e H hs xss J→SlOwn d e H A c x ch→n=x.length→Ns d e H (hs.set i (A,n,c)) (xss.set i x) (J.set i ch)
  | _::hs,_::xs,_::J,0,A,n,c,x,ch,hN,hO,hn=>⟨⟨hO,hn⟩,hN.2⟩
  | _::hs,_::xs,_::J,i+1,A,n,c,x,ch,hN,hO,hn=>⟨hN.1,Ns.set (hs:=hs) (xss:=xs) (J:=J) i hN.2 hO hn⟩
  | [],[],[],_,_,_,_,_,_,_,_,_=>trivial
  | [],[],_::_,_,_,_,_,_,_,h,_,_=>h.elim
  | [],_::_,[],_,_,_,_,_,_,h,_,_=>h.elim
  | [],_::_,_::_,_,_,_,_,_,_,h,_,_=>h.elim
  | _::_,[],[],_,_,_,_,_,_,h,_,_=>h.elim
  | _::_,[],_::_,_,_,_,_,_,_,h,_,_=>h.elim
  | _::_,_::_,[],_,_,_,_,_,_,h,_,_=>h.elim
theorem Ns.lt {hs:List Hd} {xss:List (List α)} {J:List Ch} {i:Int} {x:List α} (h:Ns d e H hs xss J) (hx:at? xss i=some x):i.toNat<J.length:=by
  obtain ⟨h0,h1,h2⟩:=at?_some hx
  rw [h.len.2]
  omega
theorem set_same {β:Type} {l:List β} {i:Int} {x:β} (h:at? l i=some x):l.set i.toNat x=l:=by
  obtain ⟨h0,h1,h2⟩:=at?_some h
  obtain ⟨h3,h4⟩:=List.getElem?_eq_some_iff.1 h2
  rw [← h4]
  exact List.set_getElem_self h3
theorem Ns.put {hs:List Hd} {xss:List (List α)} {J:List Ch} {i:Int} {A:Option Addr} {n c:Nat} {x:List α} {ch:Ch} (h:Ns d e H hs xss J) (hh:at? hs i=some (A,n,c)) (hO:SlOwn d e H A c x ch) (hn:n=x.length):Ns d e H hs (xss.set i.toNat x) (J.set i.toNat ch):=by
  have:=h.set i.toNat hO hn
  rwa [set_same hh] at this
theorem SlOwn.fz {A:Option Addr} {c:Nat} {x:List α} {ch:Ch} {w0 w:World} {cs:List Ch} (h:SlOwn d e H A c x ch) (hh:Heap H w0 w (ch::cs)):∃ H1,Le H H1∧Kd.Row d H1 A x∧Heap H1 w0 w cs:=by
  rcases h with ⟨rfl,rfl,rfl⟩ | ⟨b,off,cells,h1,rfl,h3,h4,h5,h6⟩
  · exact ⟨H,Le.refl H,Kd.Row.none,hh.tl⟩
  · obtain ⟨H1,k1,k2,k3⟩:=freezeH hh
    exact ⟨H1,k1,fun _=>⟨b,off,cells,e,(0,0),h1,k2,h6.mono k1⟩,k3⟩
theorem Heap.freezeJ {w0 w:World} {P F':List Ch}:∀ {hs:List Hd} {xss:List (List α)} {J:List Ch} {H:Hp},Ns d e H hs xss J→Heap H w0 w (P++(J++F'))→∃ H1,Le H H1∧Fz d H1 hs xss∧Heap H1 w0 w (P++F')
  | [],[],[],H,_,hh=>⟨H,Le.refl H,⟨rfl,fun i h x hx=>by simp at hx⟩,hh⟩
  | h::hs,x::xs,c::J,H,hN,hh=>by
    have h1:Heap H w0 w (c::(P++(J++F'))):=hh.perm (by rw [List.cons_append]; exact List.perm_middle)
    obtain ⟨H1,k1,k2,k3⟩:=hN.1.1.fz h1
    obtain ⟨H2,j1,j2,j3⟩:=Heap.freezeJ (hs:=hs) (xss:=xs) (J:=J) (Ns.mono' k1 hN.2) k3
    refine ⟨H2,k1.then j1,⟨by simp [j2.1],fun i h' x' hi hx=>?_⟩,j3⟩
    cases i with
    | zero =>
      simp only [List.getElem?_cons_zero,Option.some.injEq] at hi hx
      subst hi hx
      exact ⟨k2.mono j1,hN.1.1.cap,hN.1.2⟩
    | succ i=>exact j2.2 i h' x' (by simpa using hi) (by simpa using hx)
  | [],[],_::_,_,h,_=>h.elim
  | [],_::_,[],_,h,_=>h.elim
  | [],_::_,_::_,_,h,_=>h.elim
  | _::_,[],[],_,h,_=>h.elim
  | _::_,[],_::_,_,h,_=>h.elim
  | _::_,_::_,[],_,h,_=>h.elim
theorem Hs.freezeJ {H0:Hp} {w0:World} {B:World→Prop} {cs cs' J F':List Ch} {hs:List Hd} {xss:List (List α)} (n:Nat) (hN:Ns d e H hs xss J) (hd:cs.drop n=J++F') (he:cs.take n++F'=cs') (K:∀ H1,Le H H1→Fz d H1 hs xss→Hs H0 w0 B H1 cs'):Hs H0 w0 B H cs:=by
  intro hl w hh
  rw [← List.take_append_drop n cs,hd] at hh
  obtain ⟨H1,k1,k2,k3⟩:=Heap.freezeJ hN hh
  exact K H1 k1 k2 (hl.then k1) w (he ▸ k3)
theorem SlOwn.settle {e2:TypeId} {A:Option Addr} {c:Nat} {hs:List Hd} {xss:List (List α)} {ch:Ch} (hO:SlOwn Kd.hd e2 H A c hs ch) (hz:Fz d H hs xss):SlOwn (Kd.slice d) e2 H A c xss ch:=by
  rcases hO with ⟨rfl,h2,h3⟩ | ⟨b,off,cells,h1,h2,h3,h4,h5,h6⟩
  · exact .inl ⟨List.length_eq_zero_iff.1 (by rw [← hz.1]; rfl),h2,h3⟩
  · refine .inr ⟨b,off,cells,h1,h2,by rw [← hz.1]; exact h3,h4,h5,fun i x hx=>?_⟩
    have hi:i<hs.length:=by rw [hz.1]; exact (List.getElem?_eq_some_iff.1 hx).1
    obtain ⟨k1,k2,k3⟩:=hz.2 i _ x (List.getElem?_eq_getElem hi) hx
    obtain ⟨cc,m1,m2⟩:=h6 i _ (List.getElem?_eq_getElem hi)
    refine ⟨cc,⟨_,_,?_,k2,k1⟩,m2⟩
    rw [← k3]
    exact m1
end
/-! ### 72. How many a map has -/
def lnAt (P:Program) (N:Nat) (ops:Array Oper) (i:Nat) (L:Slots):Option (Nat × Option Nat) :=
  match ops[i]? with
  | none=>none
  | some o =>
    match okOp N L o with
    | false=>none
    | true =>
      match wantL ops L o.guard with
      | some true =>
        match o.op,o.dst with
        | .call { callee:=.builtin .len,args:=⟨[x]⟩,argTypes:=⟨[t]⟩ },some d=>match P.underlying t,evL L x with
          | some (.map _ _),.map A=>some (d,A)
          | _,_=>none
        | _,_=>none
      | _=>none
theorem All2.len {α β:Type} {R:α→β→Prop}:∀ {l:List α} {m:List β},All2 R l m→l.length=m.length
  | _,_,.nil=>rfl
  | _,_,.cons _ h=>by simp [All2.len h]
theorem MOn.len {κ ν:Type} {enc:κ→Value} {kd:Kd ν} {ag:Bool} {H:Hp} {w:World} {A:Option Nat} {m:List (κ × ν)} {P:Program} {t k e ty:TypeId} (h:MOn enc kd ag H w A m) (ht:P.underlying t=some (.map k e)) :
    (Builtin.len_ #[t] ty #[.map A]).run P w=.ok (.int .i64 (m.length:Int)) w:=by
  rcases h with ⟨rfl,rfl⟩ | ⟨g,es,c,rfl,hb,_,hr⟩
  · simp [Builtin.len_,run_underlying ht,goInt,Result.andThen]
  · have hl:es.size=m.length:=by have:=All2.len hr; simpa using this
    simp [Builtin.len_,run_underlying ht,MapKept.run_getObj_map hb,goInt,Result.andThen,hl]
theorem DoesH.mapLen {κ ν:Type} {enc:κ→Value} {kd:Kd ν} {ag:Bool} {F:Ctx} {H:Hp} {w0:World} {L:Slots} {cs:List Ch} {p:List Nat} {i d:Nat} {A:Option Nat} {m:List (κ × ν)} (h:lnAt F.P F.N (opsAt F.c p) i L=some (d,A)) (hm:∀ w,Heap H w0 w cs→MOn enc kd ag H w A m) :
    DoesH F p i w0 L H cs (fun L' H' cs'=>L'=(d,.int .i64 (m.length:Int))::L∧H=H'∧cs=cs'):=by
  intro w hh
  unfold lnAt at h
  split at h
  · simp at h
  · rename_i o ho
    split at h
    · simp at h
    · rename_i hok
      split at h
      · rename_i hw
        split at h
        · rename_i x t d' hop hdx
          split at h
          · rename_i k e A' hu hA
            injection h with h
            injection h with h1 h2
            subst h1 h2
            have hrun:=(hm w hh).len (ty:=o.type) hu
            have hexec:(execOp (evL L) o).run F.P w=.ok (.value (.int .i64 (m.length:Int))) w:=by
              simp only [execOp,hop,resolve,invoke,builtin,Sem.run_bind,Sem.run_pure,Result.andThen_ok,List.map_toArray,List.map_cons,List.map_nil,hA,hrun]
            exact ⟨o,ho,hok,hw,.inl ⟨_,w,hexec,H,cs,Le.refl H,hh,by rw [hdx]; rfl,rfl,rfl⟩⟩
          · simp at h
        · simp at h
      · simp at h
/-! ### 73. Entries of a map's literal -/
def inAt (P:Program) (N:Nat) (ops:Array Oper) (i:Nat) (L:Slots):Option (TypeId × Nat × Value × Value) :=
  match ops[i]? with
  | none=>none
  | some o =>
    match okOp N L o with
    | false=>none
    | true =>
      match wantL ops L o.guard with
      | some true =>
        match o.op,o.dst with
        | .insert t x k v,none =>
          match P.underlying t,evL L x with
          | some (.map kt et),.map (some g)=>some (kt,g,evL L k,evL L v)
          | _,_=>none
        | _,_=>none
      | _=>none
theorem DoesH.insert {kt:TypeId} {κ ν:Type} [DecidableEq κ] {enc:κ→Value} {kd:Kd ν} {ag:Bool} {g kk:Nat} {m:List (κ × ν)} {k:κ} {v:ν} {cv:List Value} {vv:Value} {ch:Ch} {F:Ctx} {H:Hp} {w0:World} {L:Slots} {cs:List Ch} {p:List Nat} {i:Nat}
    (h:inAt F.P F.N (opsAt F.c p) i L=some (kt,g,enc k,vv)) (K:KyAt F.P kt enc) (hvv:vv=mkv ag cv) (hv:kd.K H v cv) (hk:cs[kk]? = some ch) (hm:MpOwn enc kd ag H g m ch) :
    DoesH F p i w0 L H cs (fun L' H' cs'=>∃ ch',L=L'∧H=H'∧cs'=cs.set kk ch'∧MpOwn enc kd ag H g (mput m k v) ch'):=by
  intro w hh
  obtain ⟨es0,c0,rfl,s1,s2⟩:=hm
  obtain ⟨a1,a2,a3⟩:=hh.own kk _ hk
  unfold inAt at h
  split at h
  · simp at h
  · rename_i o ho
    split at h
    · simp at h
    · rename_i hok
      split at h
      · rename_i hw
        split at h
        · rename_i t' x kx vx hop hdx
          split at h
          · rename_i kt' et g' hu hA
            injection h with h
            injection h with h1 h
            injection h with h2 h
            injection h with h3 h4
            subst h1 h2
            obtain ⟨w',ob,hrun,hU,hO⟩:=run_mapUpdate (n0:=w0.heap.size) (k:=k) hu K hv ⟨a1,a2,es0,c0,a3,s1,s2⟩
            have hexec:(execOp (evL L) o).run F.P w=.ok .skip w':=by
              simp only [execOp,hop,hA,h3,h4,hvv,Sem.run_bind,hrun,Result.andThen_ok,Sem.run_pure]
            obtain ⟨_,_,es1,c1,b1,b2,b3⟩:=hO
            have hob:ob=.map es1 c1:=by
              have:=hU.at_
              rw [b1] at this
              injection this with this
              exact this.symm
            subst hob
            exact ⟨o,ho,hok,hw,.inr (.inl ⟨w',hexec,hdx,H,_,Le.refl H,hh.upd hk hU,_,rfl,rfl,rfl,es1,c1,rfl,b2,b3⟩)⟩
          · simp at h
        · simp at h
      · simp at h
end Go.Proofs.YtedkdnhhohcocaaDoor.Kit
