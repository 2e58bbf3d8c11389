/- TopWantedIsMissing over plain data: what Wanted picks is what the cache says is missing. -/
import Derived.Test.YtadkanllaocdeaaDoorPDoS
import Derived.Test.YtadkanllaocdeaaDoorPureSTopWantedIsMissing
import Derived.KernelRfl
set_option linter.unusedVariables false
set_option linter.unusedSimpArgs false
namespace Go.Proofs.YtadkanllaocdeaaDoor
open Go Go.Proofs.YtadkanllaocdeaaDoor.Kit
theorem withinW (x lo hi:Int):wire_within.f x lo hi=some (inR lo hi x):=by
  unfold wire_within.f inR
  cases decide (lo≤x) <;> rfl
theorem lives_eq:smithyardtop_lives.f=some true:=by kernel_rfl
def sizB (p:Option Sized) (x:Sized) (k:Option Int):Option Int :=
  bif !isDigB x.Digest then some 3 else bif !inR 0 2000000 x.Size then some 1 else bif prevB (fun y=>sLt x.Digest y.Digest||sEq x.Digest y.Digest) p then some 8 else k
theorem sizes_some {l:List Sized} (hl:l.length≤4611686018427387904):∃ r,wire_CheckSizes.f l=some r∧(r=0→l.length≤4000):=by
  unfold wire_CheckSizes.f
  rw [rangeP_all (L:=fun k v=>wire_CheckSizes.l2 wire_CheckSizes.e1 k l v) (B:=sizB) (e:=some 0) hl (fun k v h0 h1=>by
    simp only [wire_CheckSizes.l2,wire_CheckSizes.e1]
    congr 1
    refine bind_at (fun x hx=>?_)
    rw [isDig_prog,withinW,prev_eq (P:=fun y=>sLt x.Digest y.Digest||sEq x.Digest y.Digest) h0 h1 hl]
    simp only [Option.bind_some]
    rfl)]
  cases h:decide ((4000:Int)<(l.length:Int))
  · obtain ⟨r,hr⟩:∃ r,rangeP sizB (some 0) none l=some r:=by
      refine rangeP_some (fun p x k hk=>?_) ⟨_,rfl⟩ l none
      unfold sizB
      cases isDigB x.Digest <;> cases inR 0 2000000 x.Size <;> cases prevB (fun y=>sLt x.Digest y.Digest||sEq x.Digest y.Digest) p <;> first | exact hk | exact ⟨_,rfl⟩
    exact ⟨r,hr,fun _=>by have:=of_decide_eq_false h; omega⟩
  · exact ⟨2,rfl,fun h=>absurd h (by decide)⟩
def hasStep (p:Option ByteArray) (x:ByteArray) (m:List (ByteArray × Bool)) (k:List (ByteArray × Bool)→Option (List Sized × Int × Int)):Option (List Sized × Int × Int) :=
  bif !isDigB x then some ([],0,3) else bif prevB (fun y=>sLt x y||sEq x y) p then some ([],0,8) else k (mput m x true)
theorem have_cases (E:List (ByteArray × Bool)→Option (List Sized × Int × Int)):∀ (l:List ByteArray) (p:Option ByteArray) (m:List (ByteArray × Bool)),
    (∃ f,f≠0∧rangeQ hasStep E p l m=some ([],0,f))∨rangeQ hasStep E p l m=E (putAll m l)
  | [],p,m=>.inr rfl
  | x::l,p,m=>by
    rw [rangeQ,hasStep]
    cases isDigB x
    · exact .inl ⟨3,by decide,rfl⟩
    · cases prevB (fun y=>sLt x y||sEq x y) p
      · exact have_cases E l (some x) (mput m x true)
      · exact .inl ⟨8,by decide,rfl⟩
def sumF (s:Int) (l:List Sized):Int:=l.foldl (fun s x=>w64 (s+x.Size)) s
def takes (m:List (ByteArray × Bool)) (x:Sized):Bool:=!mgetD m x.Digest false
theorem want_loop {m:List (ByteArray × Bool)} {E:List Sized × Int→Option (List Sized × Int × Int)}:∀ (l:List Sized) (i:Int) (s:List Sized × Int),(s.1.length+l.length)*24≤140737490452480 →
    rangeS (fun _ x (s:List Sized × Int) f=>bif takes m x then guard? (room s.1.length 1 24) (f (s.1++[x],w64 (s.2+x.Size))) else f s) E i l s=E (s.1++l.filter (takes m),sumF s.2 (l.filter (takes m)))
  | [],i,s,_=>by simp [rangeS,sumF]
  | x::l,i,s,h=>by
    have hl:(x::l).length=l.length+1:=rfl
    rw [hl] at h
    rw [rangeS]
    cases hc:takes m x
    · simp only [cond_false]
      rw [want_loop l (i+1) s (by omega),List.filter_cons_of_neg (by simp [hc])]
    · simp only [cond_true]
      rw [guard?_true (room_of (by omega)),want_loop l (i+1) _ (by simp only [List.length_append,List.length_singleton]; omega),List.filter_cons_of_pos hc]
      simp [sumF]
theorem wanted_cases {l:List Sized} {hv:List ByteArray} (hl:l.length≤4611686018427387904) (hh:hv.length≤4611686018427387904) :
    (∃ f,f≠0∧wire_Wanted.f l hv=some ([],0,f)) ∨
    wire_Wanted.f l hv=some (l.filter (takes (putAll [] hv)),sumF 0 (l.filter (takes (putAll [] hv))),0):=by
  obtain ⟨r,h1,h2⟩:=sizes_some hl
  unfold wire_Wanted.f
  rw [h1]
  simp only [Option.bind_some]
  cases hr:r != 0
  · have h3:=h2 (by simpa using hr)
    simp only [cond_false]
    cases decide ((4000:Int)<(hv.length:Int))
    · simp only [cond_false]
      rw [rangeQ_all (L:=fun k m v=>wire_Wanted.l5 wire_Wanted.e1 k l hv m v) (B:=hasStep) (e:=wire_Wanted.e1 l) hh (fun k m v h0 h1=>by
        simp only [wire_Wanted.l5]
        congr 1
        refine bind_at (fun x hx=>?_)
        rw [isDig_prog,prev_eq (P:=fun y=>sLt x y||sEq x y) h0 h1 hh]
        simp only [Option.bind_some]
        rfl) []]
      rcases have_cases (wire_Wanted.e1 l) hv none [] with ⟨f,h4,h5⟩ | h4
      · exact .inl ⟨f,h4,h5⟩
      · right
        rw [h4]
        unfold wire_Wanted.e1
        have:=rangeS_all (xs:=l) (S:=List Sized × Int) (L:=fun k s v=>wire_Wanted.l3 wire_Wanted.e2 k l (putAll [] hv) s.1 s.2 v)
          (body:=fun _ x (s:List Sized × Int) f=>bif takes (putAll [] hv) x then guard? (room s.1.length 1 24) (f (s.1++[x],w64 (s.2+x.Size))) else f s) (e:=fun s=>wire_Wanted.e2 s.1 s.2) hl
          (fun k s v=>by simp only [wire_Wanted.l3,wire_Wanted.j4,takes]) ([],0)
        rw [show wire_Wanted.l3 wire_Wanted.e2 big l (putAll [] hv) [] 0 0=_ from this,want_loop l 0 _ (by simp only [List.length_nil]; omega)]
        simp [wire_Wanted.e2]
    · exact .inl ⟨2,by decide,rfl⟩
  · exact .inl ⟨r,by simpa using hr,rfl⟩
theorem many_loop {S:Type} {o:List Sized} {M:List ByteArray} (hM:M=o.map (fun x=>x.Digest)) {E:Int→Option Bool}:∀ (l pre:List Sized) (s:Int),o=pre++l →
    rangeS (fun v x (s:Int) f=>(at? M v).bind fun x2=>bif !sEq x.Digest x2 then some false else (at? o v).bind fun x3=>f (w64 (s+x3.Size))) E (pre.length:Int) l s=E (sumF s l)
  | [],pre,s,_=>rfl
  | x::l,pre,s,h=>by
    have hlt:pre.length<o.length:=by rw [h]; simp
    have hlm:pre.length<M.length:=by rw [hM,List.length_map]; exact hlt
    have h1:o[pre.length]=x:=by simp [h]
    have h2:M[pre.length]=x.Digest:=by simp [hM,h1]
    have ih:=many_loop (S:=S) hM (E:=E) l (pre++[x]) (w64 (s+x.Size)) (by rw [h]; simp)
    rw [rangeS,at_nat hlm,at_nat hlt,h1,h2]
    simp only [Option.bind_some,sEq_self,Bool.not_true,cond_false]
    rw [show ((pre.length:Int)+1)=(((pre++[x]).length:Nat):Int) by simp,ih]
    rfl
theorem fit_of {c:Cache} (h:fitCache c):Fit c:=by
  obtain ⟨-,-,⟨h3,h3'⟩,⟨h4,h4'⟩⟩:=h
  exact fit_raw h3 (fun x hx=>(h3' x hx).1) h4 (fun x hx=>⟨(h4' x hx).1,(h4' x hx).2.1.1,(h4' x hx).2.1.2⟩)
theorem TopWantedIsMissing_pure:TopWantedIsMissing_Pure:=by
  intro c l t hc hl ht
  have hf:=fit_of hc
  have hfb:=hf.fb
  obtain ⟨hl1,hl2⟩:=hl
  simp only [reachBytes] at hl1 hl2
  unfold smithyardtop_TopWantedIsMissing.f
  have a1:=rangeS_all (xs:=c.Blobs) (S:=List ByteArray) (L:=fun k s v=>smithyardtop_TopWantedIsMissing.l6 smithyardtop_TopWantedIsMissing.e1 k c l t s v)
    (body:=fun _ x s f=>guard? (room s.length 1 16) (f (s++[x.Digest]))) (e:=smithyardtop_TopWantedIsMissing.e1 c l t) (by omega) (fun k s v=>by simp only [smithyardtop_TopWantedIsMissing.l6]) []
  rw [show smithyardtop_TopWantedIsMissing.l6 smithyardtop_TopWantedIsMissing.e1 big c l t [] 0=_ from a1,mapLoop (g:=fun b:Blob=>b.Digest) (b:=16) c.Blobs 0 [] (by simp only [List.length_nil]; omega)]
  unfold smithyardtop_TopWantedIsMissing.e1
  generalize hH:[]++c.Blobs.map (fun b=>b.Digest)=H
  have hH2:H=c.Blobs.map (fun b=>b.Digest):=by rw [← hH]; rfl
  have a2:=rangeS_all (xs:=l) (S:=List ByteArray) (L:=fun k s v=>smithyardtop_TopWantedIsMissing.l5 smithyardtop_TopWantedIsMissing.e2 k c l t H s v)
    (body:=fun _ x s f=>guard? (room s.length 1 16) (f (s++[x.Digest]))) (e:=smithyardtop_TopWantedIsMissing.e2 c l t H) (by omega) (fun k s v=>by simp only [smithyardtop_TopWantedIsMissing.l5]) []
  rw [show smithyardtop_TopWantedIsMissing.l5 smithyardtop_TopWantedIsMissing.e2 big c l t H [] 0=_ from a2,mapLoop (g:=fun x:Sized=>x.Digest) (b:=16) l 0 [] (by simp only [List.length_nil]; omega)]
  unfold smithyardtop_TopWantedIsMissing.e2
  generalize hA:[]++l.map (fun x=>x.Digest)=A
  have hA2:A=l.map (fun x=>x.Digest):=by rw [← hA]; rfl
  have hAs:smallStrs A:=by
    rw [hA2]
    refine ⟨by rw [List.length_map]; omega,fun d hd=>?_⟩
    obtain ⟨x,hx,rfl⟩:=List.mem_map.1 hd
    have hh:x.Digest.size≤reachBytes:=(hl2 x hx).1
    simp only [reachBytes] at hh
    omega
  have hHl:H.length≤4611686018427387904:=by rw [hH2,List.length_map]; omega
  rw [doS_prog hf hAs]
  rcases wanted_cases (l:=l) (hv:=H) (by omega) hHl with ⟨f,hn,e1⟩ | e1
  · rw [e1]
    have hb:(f != 0)=true:=by simpa using hn
    have hb2:(f == 0)=false:=by simpa using hn
    rcases doS_cases c (⟨3,t,ByteArray.empty,A,ByteArray.empty,0⟩:CacheEvent) with ⟨g,_,e2⟩ | ⟨_,_,_,_,e2⟩
    · rw [e2]
      simp only [Option.bind_some,hb,hb2,cond_true,cond_false,lives_eq]
      rfl
    · rw [e2]
      simp only [Option.bind_some,hb,hb2,cond_true,cond_false,lives_eq]
      rfl
  · rw [e1]
    rcases doS_cases c (⟨3,t,ByteArray.empty,A,ByteArray.empty,0⟩:CacheEvent) with ⟨g,hg,e2⟩ | ⟨ok,_,_,_,e2⟩
    · rw [e2]
      have hb:(g != 0)=true:=by simpa using hg
      simp only [Option.bind_some,bne_self_eq_false,cond_false,hb,cond_true,lives_eq]
      rfl
    · rw [e2]
      have hk:(doK c (⟨3,t,ByteArray.empty,A,ByteArray.empty,0⟩:CacheEvent)).1=⟨((missingS c A).length:Int) == 0,missingS c A,[]⟩:=rfl
      rw [hk]
      have hm:missingS c A=(l.filter (takes (putAll [] H))).map (fun x=>x.Digest):=by
        unfold missingS
        rw [hA2,List.filter_map]
        congr 2
        funext x
        simp only [Function.comp,takes,putAll_mem,hH2]
        congr 1
        rw [show (memB (c.Blobs.map (fun b=>b.Digest)) x.Digest||mgetD ([]:List (ByteArray × Bool)) x.Digest false)=memB (c.Blobs.map (fun b=>b.Digest)) x.Digest from Bool.or_false _]
        unfold hasB memB
        rw [List.any_map]
        congr 1
        funext y
        simp only [Function.comp]
        rw [Bool.eq_iff_iff,sEq_iff]
        simp
      generalize l.filter (takes (putAll [] H))=o at *
      have hlen:(missingS c A).length=o.length:=by rw [hm,List.length_map]
      simp only [Option.bind_some,bne_self_eq_false,cond_false,hlen,beq_self_eq_true,Bool.not_true]
      have hol:o.length≤4611686018427387904:=by
        have:(missingS c A).length≤A.length:=List.length_filter_le _ _
        have:=hAs.1
        omega
      have a3:=rangeS_all (xs:=o) (S:=Int) (L:=fun k s v=>smithyardtop_TopWantedIsMissing.l4 smithyardtop_TopWantedIsMissing.e3 k (o,sumF 0 o,0) ((doK c (⟨3,t,ByteArray.empty,A,ByteArray.empty,0⟩:CacheEvent)).2.2,(⟨(o.length:Int) == 0,missingS c A,[]⟩:CacheAnswer),0) s v)
        (body:=fun v x (s:Int) f=>(at? (missingS c A) v).bind fun x2=>bif !sEq x.Digest x2 then some false else (at? o v).bind fun x3=>f (w64 (s+x3.Size))) (e:=smithyardtop_TopWantedIsMissing.e3 (o,sumF 0 o,0)) hol (fun k s v=>by simp only [smithyardtop_TopWantedIsMissing.l4]) 0
      refine Eq.trans a3 ?_
      refine (many_loop (S:=Unit) (E:=smithyardtop_TopWantedIsMissing.e3 (o,sumF 0 o,0)) hm o [] 0 rfl).trans ?_
      simp only [smithyardtop_TopWantedIsMissing.e3,beq_self_eq_true,cond_true,lives_eq,Option.bind_some]
end Go.Proofs.YtadkanllaocdeaaDoor
