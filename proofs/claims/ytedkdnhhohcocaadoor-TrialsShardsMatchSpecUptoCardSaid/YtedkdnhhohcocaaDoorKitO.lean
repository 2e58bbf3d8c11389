/- Words of our own: slices, read ones and the call's own ones. -/
import Derived.Test.YtedkdnhhohcocaaDoorKitN
set_option linter.unusedSimpArgs false
set_option linter.unusedVariables false
set_option linter.unnecessarySimpa false
namespace Go.Proofs.YtedkdnhhohcocaaDoor.Kit
open Go Go.RowKit

/-! ### 33. Slices -/
def Rw {α:Type} (d:Kd α) (H:Hp) (F:List Ch) (A:Option Addr) (xs:List α):Prop :=
  xs≠[]→∃ b off cells e fr,A=some ⟨b,off,none⟩∧(H b=some (.cells cells e fr)∨some (b,Obj.cells cells e fr)∈F)∧Kd.Rep d H cells off xs
def Rdb {α:Type} (d:Kd α) (H:Hp) (w:World) (A:Option Addr) (xs:List α):Prop :=
  xs≠[]→∃ b off cells e fr,A=some ⟨b,off,none⟩∧w.heap[b]? = some (.cells cells e fr)∧Kd.Rep d H cells off xs
def SlOwn {α:Type} (d:Kd α) (e:TypeId) (H:Hp) (A:Option Addr) (c:Nat) (xs:List α) (ch:Ch):Prop :=
  (xs=[]∧c=0∧ch=none) ∨
  ∃ b off cells,A=some ⟨b,off,none⟩∧ch=some (b,.cells cells e (0,0))∧xs.length≤c∧c≤maxLen∧off+c*d.sz≤cells.size∧Kd.Rep d H cells off xs
section
variable {α:Type} {d:Kd α} {e:TypeId} {H H':Hp} {w0 w w':World} {F F' cs:List Ch} {A:Option Addr} {c:Nat} {xs:List α} {ch:Ch} {i:Int} {x:α}
theorem Rw.of (h:Kd.Row d H A xs):Rw d H F A xs:=fun hx=>by
  obtain ⟨b,off,cs,e,fr,h1,h2,h3⟩:=h hx
  exact ⟨b,off,cs,e,fr,h1,.inl h2,h3⟩
theorem Rw.nil:Rw d H F A ([]:List α):=fun h=>absurd rfl h
theorem Rw.mono (h:Rw d H F A xs) (hl:Le H H'):Rw d H' F A xs:=fun hx=>by
  obtain ⟨b,off,cs,e,fr,h1,h2,h3⟩:=h hx
  exact ⟨b,off,cs,e,fr,h1,h2.imp (hl _ _) id,h3.mono hl⟩
theorem Rw.wk (h:Rw d H F A xs) (hs:∀ c,c∈F→c∈F'):Rw d H F' A xs:=fun hx=>by
  obtain ⟨b,off,cs,e,fr,h1,h2,h3⟩:=h hx
  exact ⟨b,off,cs,e,fr,h1,h2.imp id (hs _),h3⟩
theorem Rw.rdb (h:Rw d H F A xs) (hh:Heap H w0 w F):Rdb d H w A xs:=fun hx=>by
  obtain ⟨b,off,cs,e,fr,h1,h2,h3⟩:=h hx
  exact ⟨b,off,cs,e,fr,h1,h2.elim (hh.sub _ _) (fun hm=>hh.mem hm),h3⟩
theorem SlOwn.nil:SlOwn d e H A 0 ([]:List α) none:=.inl ⟨rfl,rfl,rfl⟩
theorem SlOwn.mono (h:SlOwn d e H A c xs ch) (hl:Le H H'):SlOwn d e H' A c xs ch:=by
  rcases h with h | ⟨b,off,cells,h1,h2,h3,h4,h5,h6⟩
  · exact .inl h
  · exact .inr ⟨b,off,cells,h1,h2,h3,h4,h5,h6.mono hl⟩
theorem SlOwn.cap (h:SlOwn d e H A c xs ch):xs.length≤c:=by
  rcases h with ⟨rfl,rfl,_⟩ | ⟨_,_,_,_,_,h,_⟩
  · simp
  · exact h
theorem SlOwn.rdb (h:SlOwn d e H A c xs ch) (hm:ChIn w ch):Rdb d H w A xs:=fun hx=>by
  rcases h with ⟨h,_⟩ | ⟨b,off,cells,h1,h2,h3,h4,h5,h6⟩
  · exact absurd h hx
  · subst h2
    exact ⟨b,off,cells,e,(0,0),h1,hm,h6⟩
theorem SlOwn.rw (h:SlOwn d e H A c xs ch) (hm:ch∈F):Rw d H F A xs:=fun hx=>by
  rcases h with ⟨h,_⟩ | ⟨b,off,cells,h1,h2,h3,h4,h5,h6⟩
  · exact absurd h hx
  · subst h2
    exact ⟨b,off,cells,e,(0,0),h1,.inr hm,h6⟩
theorem Rep.take {cells:Array Value} {off:Nat} (h:Kd.Rep d H cells off xs) (n:Nat):Kd.Rep d H cells off (xs.take n):=by
  intro i y hy
  rw [List.getElem?_take] at hy
  split at hy
  · exact h i y hy
  · cases hy
theorem Rep.drop {cells:Array Value} {off:Nat} (h:Kd.Rep d H cells off xs) (n:Nat):Kd.Rep d H cells (off+n*d.sz) (xs.drop n):=by
  intro i y hy
  rw [List.getElem?_drop] at hy
  obtain ⟨c,h1,h2⟩:=h (n+i) y hy
  refine ⟨c,h1,fun j v hv=>?_⟩
  have:=h2 j v hv
  rw [show off+n*d.sz+i*d.sz+j=off+(n+i)*d.sz+j by rw [Nat.add_mul]; omega]
  exact this
theorem SlOwn.take (h:SlOwn d e H A c xs ch) (n:Nat):SlOwn d e H A c (xs.take n) ch:=by
  rcases h with ⟨rfl,rfl,rfl⟩ | ⟨b,off,cells,h1,h2,h3,h4,h5,h6⟩
  · exact .inl ⟨by simp,rfl,rfl⟩
  · exact .inr ⟨b,off,cells,h1,h2,by simp; omega,h4,h5,Rep.take h6 n⟩
theorem SlOwn.drop (h:SlOwn d e H A c xs ch) (n:Nat) (hn:n≤c):SlOwn d e H (shiftA c n d.sz A) (c - n) (xs.drop n) ch:=by
  rcases h with ⟨rfl,rfl,rfl⟩ | ⟨b,off,cells,h1,h2,h3,h4,h5,h6⟩
  · exact .inl ⟨by simp,by omega,rfl⟩
  · have hmul:n*d.sz+(c - n)*d.sz=c*d.sz:=by rw [← Nat.add_mul]; congr 1; omega
    by_cases hc:c=n
    · subst hc
      have hx:xs.drop c=[]:=List.drop_eq_nil_of_le h3
      refine .inr ⟨b,off,cells,by rw [h1]; simp [shiftA],h2,by rw [hx]; simp,by omega,by simp; omega,by rw [hx]; exact Kd.Rep.nil⟩
    · refine .inr ⟨b,off+n*d.sz,cells,by rw [h1,shiftA,if_neg hc,Option.map_some,add_plain],h2,by rw [List.length_drop]; omega,by omega,by omega,Rep.drop h6 n⟩
theorem SlOwn.get (h:SlOwn d e H A c xs ch) (hx:at? xs i=some x) :
    A=some (adr A)∧∃ cc,d.K H x cc∧∀ w,ChIn w ch→∀ j v,cc[j]? = some v→w.cell? (((adr A).add (i.toNat*d.sz)).add j)=some v:=by
  obtain ⟨h0,h1,h2⟩:=at?_some hx
  rcases h with ⟨rfl,_⟩ | ⟨b,off,cells,rfl,rfl,h3,h4,h5,h6⟩
  · simp at h1; omega
  · refine ⟨rfl,?_⟩
    obtain ⟨cc,k1,k2⟩:=h6 _ _ h2
    refine ⟨cc,k1,fun w hw j v hv=>?_⟩
    simp only [adr]
    rw [add_plain,add_plain]
    exact blk_cell hw (k2 j v hv)
theorem Rw.get (h:Rw d H F A xs) (hx:at? xs i=some x) :
    A=some (adr A)∧∃ cc,d.K H x cc∧∀ w0 w,Heap H w0 w F→∀ j v,cc[j]? = some v→w.cell? (((adr A).add (i.toNat*d.sz)).add j)=some v:=by
  obtain ⟨h0,h1,h2⟩:=at?_some hx
  obtain ⟨b,off,cells,e,fr,rfl,k1,k2⟩:=h (by intro hn; subst hn; simp at h1; omega)
  refine ⟨rfl,?_⟩
  obtain ⟨cc,k3,k4⟩:=k2 _ _ h2
  refine ⟨cc,k3,fun w0 w hw j v hv=>?_⟩
  simp only [adr]
  rw [add_plain,add_plain]
  exact blk_cell (k1.elim (hw.sub _ _) (fun hm=>hw.mem hm)) (k4 j v hv)
theorem Rw.take (h:Rw d H F A xs) (n:Nat):Rw d H F A (xs.take n):=fun hx=>by
  obtain ⟨b,off,cells,e,fr,k0,k1,k2⟩:=h (by intro hn; subst hn; simp at hx)
  exact ⟨b,off,cells,e,fr,k0,k1,Rep.take k2 n⟩
theorem Rw.drop (h:Rw d H F A xs) (n c:Nat) (hc:xs.length≤c):Rw d H F (shiftA c n d.sz A) (xs.drop n):=fun hx=>by
  have hlt:n<xs.length:=by
    rcases Nat.lt_or_ge n xs.length with h1 | h1
    · exact h1
    · exact absurd (List.drop_eq_nil_of_le h1) hx
  obtain ⟨b,off,cells,e,fr,k0,k1,k2⟩:=h (by intro hn; subst hn; simp at hx)
  exact ⟨b,off+n*d.sz,cells,e,fr,by rw [k0,shiftA,if_neg (by omega),Option.map_some,add_plain],k1,Rep.drop k2 n⟩
theorem Hs.freezeS {H0:Hp} {B:World→Prop} (h:SlOwn d e H A c xs ch) (k:∀ H1,Le H H1→Kd.Row d H1 A xs→Hs H0 w0 B H1 cs):Hs H0 w0 B H (ch::cs):=by
  rcases h with ⟨rfl,rfl,rfl⟩ | ⟨b,off,cells,h1,rfl,h3,h4,h5,h6⟩
  · intro hl w hh
    exact k H (Le.refl H) Kd.Row.none hl w hh.tl
  · refine Hs.freeze (fun H1 hl hb=>k H1 hl (fun _=>⟨b,off,cells,e,(0,0),h1,hb,h6.mono hl⟩))
theorem SlOwn.lit {g:Nat} {cells:Array Value} (hs:xs.length*d.sz=cells.size) (hm:xs.length≤maxLen) (hr:Kd.Rep d H cells 0 xs):SlOwn d e H (some ⟨g,0,none⟩) xs.length xs (some (g,.cells cells e (0,0))) :=
  .inr ⟨g,0,cells,rfl,rfl,Nat.le_refl _,hm,by omega,hr⟩
end
/-! ### 34. append -/
theorem Rep.owr {α:Type} {d:Kd α} {H:Hp} {cells:Array Value} {off:Nat} {xs ys:List α} {news:List Value} (h:Kd.Rep d H cells off xs) (k:Kd.Rep d H news.toArray 0 ys) (hle:off+xs.length*d.sz+news.length≤cells.size) :
    Kd.Rep d H (owr cells (off+xs.length*d.sz) news) off (xs++ys):=by
  intro i x hx
  rcases Nat.lt_or_ge i xs.length with hi | hi
  · rw [List.getElem?_append_left hi] at hx
    obtain ⟨c,h1,h2⟩:=h i x hx
    refine ⟨c,h1,fun j v hv=>?_⟩
    have hj:=(List.getElem?_eq_some_iff.1 hv).1
    rw [d.len h1] at hj
    have hmul:(i+1)*d.sz≤xs.length*d.sz:=Nat.mul_le_mul_right _ hi
    rw [Nat.add_mul] at hmul
    rw [owr_get _ _ _ _ (by omega),if_neg (by omega)]
    exact h2 j v hv
  · rw [List.getElem?_append_right hi] at hx
    obtain ⟨c,h1,h2⟩:=k _ x hx
    refine ⟨c,h1,fun j v hv=>?_⟩
    have:=h2 j v hv
    simp only [List.getElem?_toArray,Nat.zero_add] at this
    have hlt:=(List.getElem?_eq_some_iff.1 this).1
    have hmul:(i - xs.length)*d.sz+xs.length*d.sz=i*d.sz:=by rw [← Nat.add_mul]; congr 1; omega
    rw [owr_get _ _ _ _ (by omega),if_pos (by omega),show off+i*d.sz+j - (off+xs.length*d.sz)=(i - xs.length)*d.sz+j by omega]
    exact this
theorem Ext.drewAlloc (w:World) (o:Obj):Ext w (w.drew.alloc o):=⟨rfl,rfl,rfl,by simp,fun k hk=>heap_alloc_old w.drew o hk⟩
theorem Rdb.list {α:Type} {d:Kd α} {H:Hp} {w:World} {B:Option Addr} {ys:List α} (h:Rdb d H w B ys) (hB:B≠none) :
    ∃ (ad:Addr) (news:List Value),B=some ad∧news.length=ys.length*d.sz∧(∀ j u,news[j]? = some u→w.cell? (ad.add j)=some u)∧(∀ u∈news,one1 u=true)∧Kd.Rep d H news.toArray 0 ys:=by
  by_cases hys:ys=[]
  · subst hys
    cases B with
    | none=>exact absurd rfl hB
    | some ad=>exact ⟨ad,[],rfl,by simp,fun j u hu=>by simp at hu,fun u hu=>by simp at hu,Kd.Rep.nil⟩
  · obtain ⟨b,off,cs,e2,fr,hA,hb,hr⟩:=h hys
    obtain ⟨l,h1,h2,h3,h4⟩:=Rep.toList hr
    refine ⟨_,l,hA,h1,fun j u hu=>?_,h3,h4⟩
    rw [add_plain]
    exact blk_cell hb (h2 j u hu)
theorem Heap.swap {H:Hp} {w0 w w':World} {cs:List Ch} {k g:Nat} {o:Obj} {c0:Ch} (h:Heap H w0 w cs) (hk:cs[k]? = some c0) (hx:Ext w w') (hg:w.heap.size=g) (hb:w'.heap[g]? = some o):Heap H w0 w' (cs.set k (some (g,o))):=by
  have hlt:=(List.getElem?_eq_some_iff.1 hk).1
  refine (h.push hx hg hb).re (fun i=>if i=k then 0 else i+1) (fun i j _ _ e=>?_) (fun i q hq=>?_)
  · split at e <;> split at e <;> omega
  · rw [List.getElem?_set] at hq
    by_cases he:k=i
    · subst he
      rw [if_pos rfl,if_pos hlt] at hq
      simpa using hq
    · rw [if_neg he] at hq
      simp [Ne.symm he,hq]
theorem Heap.setSame {H:Hp} {w0 w:World} {cs:List Ch} {k:Nat} {c0:Ch} (h:Heap H w0 w cs) (hk:cs[k]? = some c0):Heap H w0 w (cs.set k c0):=by
  have:cs.set k c0=cs:=by
    apply List.ext_getElem?
    intro i
    rw [List.getElem?_set]
    split
    · rename_i he
      subst he
      have hlt:=(List.getElem?_eq_some_iff.1 hk).1
      rw [if_pos hlt,hk]
    · rfl
  rw [this]
  exact h
theorem run_appendH {P:Program} {α:Type} {d:Kd α} {t ty e bytes k:Nat} {H:Hp} {w0 w:World} {cs:List Ch} {A B:Option Addr} {c cB:Nat} {xs ys:List α} {ch:Ch} (he:elemOk P t e d.sz bytes=true)
    (hh:Heap H w0 w cs) (hk:cs[k]? = some ch) (hO:SlOwn d e H A c xs ch) (hB:Rdb d H w B ys) (hle:(xs.length+ys.length)*bytes≤140737490452480) (hle2:xs.length+ys.length≤9223372036854775807) :
    ∃ A' c' ch' w',(Builtin.append_ #[t,t] ty #[.slice A xs.length c,.slice B ys.length cB]).run P w=.ok (.slice A' (xs++ys).length c') w'∧Heap H w0 w' (cs.set k ch')∧SlOwn d e H A' c' (xs++ys) ch':=by
  unfold elemOk at he
  split at he
  · rename_i e' hu
    split at he
    · rename_i inf hinf
      split at he
      · rename_i z hz
        simp only [Bool.and_eq_true] at he
        obtain ⟨⟨⟨⟨g1,g2⟩,g3⟩,g4⟩,g5⟩:=he
        obtain ⟨g5,g6⟩:=g5
        have g1:=Nat.eq_of_beq_eq_true g1
        have g2:=Nat.eq_of_beq_eq_true g2
        have g3:=Nat.eq_of_beq_eq_true g3
        have g4:=Nat.eq_of_beq_eq_true g4
        simp only [Nat.blt_eq] at g5
        subst g1
        by_cases hy:B=none
        · -- nothing is appended
          subst hy
          have hy0:ys=[]:=by
            by_cases h:ys=[]
            · exact h
            · obtain ⟨b,off,cells,e2,fr,h1,_⟩:=hB h
              cases h1
          subst hy0
          have hcap:=hO.cap
          refine ⟨A,c,ch,w,?_,hh.setSame hk,by simpa using hO⟩
          cases A <;> simp [Builtin.append_,go_sem,run_underlying hu,run_sizeOf hinf,Builtin.lenOf,Builtin.firstCells,hcap,storeCells,hu]
        · obtain ⟨ad,news,rfl,hl,hnews,hone,hrep⟩:=hB.list hy
          have hf:=run_firstCells_some (P:=P) w inf.size ys.length ad ys.length cB news (by rw [hl,g2]) hnews
          by_cases hroom:xs.length+ys.length≤c
          · -- there is room
            rcases hO with ⟨rfl,rfl,rfl⟩ | ⟨b,off,cells,rfl,rfl,h3,h4,h5,h6⟩
            · have hy0:ys=[]:=List.eq_nil_of_length_eq_zero (by simp only [List.length_nil] at hroom; omega)
              subst hy0
              have hn0:news=[]:=List.eq_nil_of_length_eq_zero (by simpa using hl)
              subst hn0
              refine ⟨A,0,none,w,?_,hh.setSame hk,SlOwn.nil⟩
              simp at hf
              cases A <;> simp [Builtin.append_,run_underlying hu,sizeOf,typeInfo,hinf,Builtin.lenOf,hf,storeCells]
            · have hb:=hh.chin k hk
              have hfit:off+xs.length*d.sz+news.length≤cells.size:=by
                have:(xs.length+ys.length)*d.sz≤c*d.sz:=Nat.mul_le_mul_right _ hroom
                rw [Nat.add_mul] at this
                omega
              obtain ⟨w',hst,hz0,hU⟩:=run_storeCells (P:=P) (g:=b) (off:=off+xs.length*d.sz) news 0 hone hb (by omega)
              have hU':Upd w w' b (.cells (owr cells (off+xs.length*d.sz) news) e' (0,0)):=by
                by_cases hnil:news=[]
                · subst hnil
                  rw [hz0 rfl]
                  exact ⟨rfl,rfl,rfl,rfl,hb,fun _ _=>rfl⟩
                · simpa using hU hnil
              refine ⟨some ⟨b,off,none⟩,c,some (b,.cells (owr cells (off+xs.length*d.sz) news) e' (0,0)),w',?_,hh.upd hk hU',.inr ⟨b,off,_,rfl,rfl,by simpa using hroom,h4,by rw [owr_size]; exact h5,Rep.owr h6 hrep hfit⟩⟩
              simp only [g2,List.length_append]
              rw [g2] at hf
              simp [Builtin.append_,run_underlying hu,sizeOf,typeInfo,hinf,Builtin.lenOf,hroom,g2,hf,add_plain,hst]
          · -- a new block
            have hneed:xs.length+ys.length≤maxLen:=by unfold maxLen; exact hle2
            have hge:=grownCap_ge w (xs.length+ys.length) c e'
            have hcm:=grownCap_le_maxLen w (xs.length+ys.length) c e' hneed
            have holds:∃ olds:List Value,olds.length=xs.length*inf.size∧Kd.Rep d H olds.toArray 0 xs∧((A=none∧xs=[]∧c=0)∨∃ a,A=some a∧∀ j u,olds[j]? = some u→w.cell? (a.add j)=some u):=by
              rcases hO with ⟨rfl,rfl,rfl⟩ | ⟨b,off,cells,rfl,rfl,h3,h4,h5,h6⟩
              · refine ⟨[],by simp,Kd.Rep.nil,?_⟩
                cases A with
                | none=>exact .inl ⟨rfl,rfl,rfl⟩
                | some a=>exact .inr ⟨a,rfl,fun j u hu=>by simp at hu⟩
              · obtain ⟨l,k1,k2,k3,k4⟩:=Rep.toList h6
                refine ⟨l,by rw [k1,g2],k4,.inr ⟨_,rfl,fun j u hu=>?_⟩⟩
                rw [add_plain]
                exact blk_cell (hh.chin k hk) (k2 j u hu)
            obtain ⟨olds,o1,o2,o3⟩:=holds
            have hrun:(Builtin.append_ #[t,t] ty #[.slice A xs.length c,.slice (some ad) ys.length cB]).run P w =
                .ok (.slice (some ⟨w.heap.size,0,none⟩) (xs.length+ys.length) (grownCap w (xs.length+ys.length) c e'))
                  (w.drew.alloc (.cells (olds.toArray++news.toArray++Builtin.zeroCells z.cells (grownCap w (xs.length+ys.length) c e' - (xs.length+ys.length))) e')):=by
              rcases o3 with ⟨rfl,rfl,rfl⟩ | ⟨a,rfl,o3⟩
              · have hn0:olds=[]:=List.eq_nil_of_length_eq_zero (by simpa using o1)
                subst hn0
                have:=run_append_nil (P:=P) w t ty e' inf z hu hinf hz ad ys.length cB news (by rw [hl,g2]) hnews (by simp only [List.length_nil] at hroom; omega) (by simp only [List.length_nil] at hle2; omega) (by simp only [List.length_nil,Nat.zero_add] at hle; rw [g3]; omega)
                simpa using this
              · exact run_append_grow (P:=P) w t ty e' inf z hu hinf hz a xs.length c olds o1 o3 ad ys.length cB news (by rw [hl,g2]) hnews (by omega) (by omega) (fits_lim (by omega) (by rw [g3]; exact hle) (by rw [g3]; exact Nat.le_of_ble_eq_true g6))
            have happ:=Rep.append (by rw [o1,g2]) o2 hrep
            have hlen:(olds++news).length=(xs++ys).length*d.sz:=by rw [List.length_append,o1,hl,g2,List.length_append,Nat.add_mul]
            refine ⟨_,_,some (w.heap.size,_),_,by rw [hrun,List.length_append],hh.swap hk (Ext.drewAlloc w _) rfl (heap_alloc_new w.drew _),.inr ⟨w.heap.size,0,_,rfl,rfl,by rw [List.length_append]; exact hge,hcm,?_,?_⟩⟩
            · simp only [Array.size_append,List.size_toArray,size_zeroCells,g4,o1,hl,g2,← Nat.add_mul]
              rw [show xs.length+ys.length+(grownCap w (xs.length+ys.length) c e' - (xs.length+ys.length))=grownCap w (xs.length+ys.length) c e' by omega]
              omega
            · refine Rep.of_take (l:=olds++news) ?_ happ
              rw [← hlen]
              simp only [Array.toList_append,List.append_assoc]
              rw [← List.append_assoc]
              exact List.take_left.symm
      · simp at he
    · simp at he
  · simp at he
theorem apAt_spec {P:Program} {N:Nat} {ops:Array Oper} {i:Nat} {L:Slots} {d:Option Tmp} {t:TypeId} {a b:Value} (h:apAt P N ops i L=some (d,t,a,b)) :
    ∃ o,ops[i]? = some o∧o.dst=d∧okOp N L o=true∧wantL ops L o.guard=some true∧∀ (w w':World) (v:Value),(Builtin.append_ #[t,t] o.type #[a,b]).run P w=.ok v w'→(execOp (evL L) o).run P w=.ok (.value v) w':=by
  unfold apAt at h
  split at h
  · simp at h
  · rename_i o ho
    split at h
    · simp at h
    · rename_i hok
      split at h
      · rename_i hw
        split at h
        · rename_i s x t' u hop
          split at h
          · rename_i htu
            have htu:=Nat.eq_of_beq_eq_true htu
            subst htu
            injection h with h
            injection h with h1 h
            injection h with h2 h
            injection h with h4 h5
            subst h2
            refine ⟨o,ho,h1,hok,hw,fun w w' v hrun=>?_⟩
            simp only [execOp,hop,resolve,invoke,builtin,Sem.run_bind,Sem.run_pure,Result.andThen_ok,List.map_toArray,List.map_cons,List.map_nil,h4,h5,hrun]
          · simp at h
        · simp at h
      · simp at h
section
variable {F:Ctx} {H:Hp} {w0:World} {L:Slots} {cs:List Ch} {p:List Nat} {i:Nat}
theorem DoesH.append {d k:Nat} {t e bytes:Nat} {α:Type} {kd:Kd α} {A B:Option Addr} {c cB n m:Nat} {xs ys:List α} {ch:Ch}
    (h:apAt F.P F.N (opsAt F.c p) i L=some (some d,t,.slice A n c,.slice B m cB)) (hn:n=xs.length) (hm:m=ys.length) (he:elemOk F.P t e kd.sz bytes=true) (hk:cs[k]? = some ch)
    (hO:SlOwn kd e H A c xs ch) (hB:∀ w,Heap H w0 w cs→Rdb kd H w B ys) (hle:(n+m)*bytes≤140737490452480) (hle2:n+m≤9223372036854775807) :
    DoesH F p i w0 L H cs (fun L' H' cs'=>∃ A' c' ch',L'=(d,.slice A' (xs++ys).length c')::L∧H=H'∧cs'=cs.set k ch'∧SlOwn kd e H A' c' (xs++ys) ch'):=by
  intro w hh
  subst hn hm
  obtain ⟨o,ho,hd,hok,hw,hrun⟩:=apAt_spec h
  obtain ⟨A',c',ch',w',hr,hh',hO'⟩:=run_appendH (ty:=o.type) (cB:=cB) he hh hk hO (hB w hh) hle hle2
  exact ⟨o,ho,hok,hw,.inl ⟨_,w',hrun w w' _ hr,H,_,Le.refl H,hh',A',c',ch',by rw [hd]; rfl,rfl,rfl,hO'⟩⟩
theorem DoesH.storeEl {α:Type} {kd:Kd α} {c o k:Nat} {e:TypeId} {ix:Int} {A:Option Addr} {xs:List α} {x x':α} {v:Value} {c0:List Value} {a:Addr} {ch:Ch}
    (h:stAt F.P F.N (opsAt F.c p) i L=some (a,v)) (hk:cs[k]? = some ch) (hO:SlOwn kd e H A c xs ch) (hx:at? xs ix=some x) (ha:a=((adr A).add (ix.toNat*kd.sz)).add o)
    (hc:∀ w,ChIn w ch→∀ j v,c0[j]? = some v→w.cell? (((adr A).add (ix.toNat*kd.sz)).add j)=some v) (hl:c0.length=kd.sz) (hle:o+v.cells.toList.length≤c0.length)
    (hK:kd.K H x' (owl c0 o v.cells.toList)) :
    DoesH F p i w0 L H cs (fun L' H' cs'=>∃ ch',L=L'∧H=H'∧cs'=cs.set k ch'∧SlOwn kd e H A c (xs.set ix.toNat x') ch'):=by
  intro w hh
  have hci:=hh.chin k hk
  obtain ⟨hx0,hx1,hx2⟩:=at?_some hx
  have hlt:ix.toNat<xs.length:=by omega
  rcases hO with ⟨rfl,_⟩ | ⟨b,off,cells,rfl,rfl,h3,h4,h5,h6⟩
  · simp at hlt
  · simp only [adr,add_plain] at ha hc
    subst ha
    obtain ⟨op,ho,hd,hok,hw,hrun⟩:=stAt_spec h
    have hmul:off+ix.toNat*kd.sz+kd.sz≤cells.size:=by
      have:(ix.toNat+1)*kd.sz≤c*kd.sz:=Nat.mul_le_mul_right _ (by omega)
      rw [Nat.add_mul] at this
      omega
    have hcs:∀ j v,c0[j]? = some v→cells[off+ix.toNat*kd.sz+j]? = some v:=by
      intro j v hv
      have:=hc w hci j v hv
      have hb:w.heap[b]? = some (.cells cells e (0,0)):=hci
      simpa [World.cell?,hb] using this
    obtain ⟨w',hr,hU⟩:=hrun w cells e hci (by omega)
    refine ⟨op,ho,hok,hw,.inr (.inl ⟨w',hr,hd,H,_,Le.refl H,hh.upd hk hU,_,rfl,rfl,rfl,.inr ⟨b,off,_,rfl,rfl,by simpa using h3,h4,by rw [owr_size]; exact h5,?_⟩⟩)⟩
    intro m y hy
    rw [List.getElem?_set] at hy
    by_cases hm:ix.toNat=m
    · subst hm
      rw [if_pos rfl,if_pos hlt] at hy
      injection hy with hy
      subst hy
      refine ⟨_,hK,fun j u hj=>?_⟩
      rw [owr_get _ _ _ _ (by omega)]
      rw [owl_get hle] at hj
      by_cases hr:o≤j∧j<o+v.cells.toList.length
      · rw [if_pos hr] at hj
        rw [if_pos (by omega),show off+ix.toNat*kd.sz+j - (off+ix.toNat*kd.sz+o)=j - o by omega]
        exact hj
      · rw [if_neg hr] at hj
        rw [if_neg (by omega)]
        exact hcs j u hj
    · rw [if_neg hm] at hy
      obtain ⟨cc,hcK,hcc⟩:=h6 m y hy
      refine ⟨cc,hcK,fun j u hj=>?_⟩
      have hjl:=(List.getElem?_eq_some_iff.1 hj).1
      rw [kd.len hcK] at hjl
      have hout:¬ (off+ix.toNat*kd.sz+o≤off+m*kd.sz+j∧off+m*kd.sz+j<off+ix.toNat*kd.sz+o+v.cells.toList.length):=by
        rcases Nat.lt_or_ge m ix.toNat with hlt' | hlt'
        · have:(m+1)*kd.sz≤ix.toNat*kd.sz:=Nat.mul_le_mul_right _ hlt'
          rw [Nat.add_mul] at this
          omega
        · have:(ix.toNat+1)*kd.sz≤m*kd.sz:=Nat.mul_le_mul_right _ (by omega)
          rw [Nat.add_mul] at this
          omega
      rw [owr_get _ _ _ _ (by omega),if_neg hout]
      exact hcc j u hj
end
end Go.Proofs.YtedkdnhhohcocaaDoor.Kit
