/- TopPiecesTravel over plain data: with old pieces and fresh ones a new version is put together; no more is sent than what is not shared. -/
import Derived.Test.YtgmfdaibmaakpaaDoorPTp
import Derived.Test.YtgmfdaibmaakpaaDoorPSame
import Derived.Test.YtgmfdaibmaakpaaDoorPureSTopPiecesTravel
import Derived.KernelRfl
set_option linter.unusedVariables false
set_option linter.unusedSimpArgs false
namespace Go.Proofs.YtgmfdaibmaakpaaDoor
open Go Go.Proofs.YtgmfdaibmaakpaaDoor.Kit
theorem alive_eq:smithyardtop_alive.f=some true:=by kernel_rfl
theorem gather {E:List (List Int)→Option Bool} (y:List (List Int)) (hy:y.length≤20000):∀ (fr:List Int) (i:Int) (hv:List (List Int)),(∀ j∈fr,0≤j∧j<y.length)→hv.length+fr.length≤1000000 →
    ∃ g:List (List Int),(∀ j∈fr,∃ w,y[j.toNat]? = some w∧w∈g)∧(∀ w∈g,w∈y)∧g.length=fr.length ∧
    rangeS (fun _ x3 (s:List (List Int)) f=>(bif decide (x3<0) then (some true) else (some (decide ((y.length:Int)≤x3)))).bind fun t6=>bif t6 then (some false) else ((at? y x3).bind fun x4=>guard? (room s.length 1 24) (f (s++[x4])))) E i fr hv=E (hv++g)
  | [],i,hv,_,_=>⟨[],fun j hj=>(by cases hj),fun w hw=>(by cases hw),rfl,by simp [rangeS]⟩
  | j::fr,i,hv,h,hl=>by
    obtain ⟨h0,h1⟩:=h j (by simp)
    have hlen:(j::fr).length=fr.length+1:=rfl
    rw [hlen] at hl
    obtain ⟨hn,hat⟩:=at?_get (xs:=y) h0 h1
    obtain ⟨g,g1,g2,g3,g4⟩:=gather (E:=E) y hy fr (i+1) (hv++[y[j.toNat]]) (fun k hk=>h k (by simp [hk])) (by rw [List.length_append,List.length_singleton]; omega)
    refine ⟨y[j.toNat]::g,fun k hk=>?_,fun w hw=>?_,by simp [g3],?_⟩
    · rcases List.mem_cons.1 hk with rfl | hk
      · exact ⟨_,List.getElem?_eq_getElem hn,by simp⟩
      · obtain ⟨w,a,b⟩:=g1 k hk
        exact ⟨w,a,by simp [b]⟩
    · rcases List.mem_cons.1 hw with rfl | hw
      · exact List.getElem_mem hn
      · exact g2 w hw
    · rw [rangeS,decide_eq_false (by omega),decide_eq_false (show ¬ (y.length:Int)≤j by omega),hat]
      simp only [cond_false,Option.bind_some]
      rw [guard?_true (room_of (by omega)),g4]
      simp
theorem found_range {z:List Int} {E:Bool→Option Bool}:∀ (l:List (List Int)) (i:Int) (b:Bool),(∀ h∈l,h.length≤4611686018427387904) →
    rangeS (fun _ x2 (s:Bool) f=>(bif s then (some true) else ((slices_Equal_byte.f x2 z).bind fun y13=>some y13)).bind fun t5=>f t5) E i l b=E (b||l.any (fun h=>decide (h=z)))
  | [],i,b,_=>by simp [rangeS]
  | x::l,i,b,hl=>by
    rw [rangeS,equal_bytes (hl x (by simp))]
    simp only [Option.bind_some]
    cases b
    · simp only [cond_false,Option.bind_some,Bool.false_or,List.any_cons]
      exact found_range l (i+1) _ (fun h hh=>hl h (by simp [hh]))
    · simp only [cond_true,Option.bind_some,Bool.true_or]
      rw [found_range l (i+1) true (fun h hh=>hl h (by simp [hh]))]
      simp
theorem all_found {H:List (List Int)} {E:Option Bool}:∀ (y:List (List Int)) (i:Int),(∀ z∈y,z∈H) →
    rangeS (fun _ z (s:Unit) f=>bif !(H.any (fun h=>decide (h=z))) then some false else f s) (fun _=>E) i y ()=E
  | [],i,_=>rfl
  | z::y,i,h=>by
    have:H.any (fun h=>decide (h=z))=true:=by
      rw [List.any_eq_true]
      exact ⟨z,h z (by simp),by simp⟩
    rw [rangeS,this]
    simp only [Bool.not_true,cond_false]
    exact all_found y (i+1) (fun w hw=>h w (by simp [hw]))
theorem byte_of {n:Int} (h:(Lit.int .u8 n).wf=true):0≤n∧n≤255:=by
  simp [Lit.wf,IntKind.min,IntKind.max,IntKind.signed,IntKind.bits] at h
  omega
theorem mem_tot {w:List Int}:∀ {l:List (List Int)},w∈l→w.length≤tot l
  | x::l,h=>by
    rw [tot_cons]
    rcases List.mem_cons.1 h with rfl | h
    · omega
    · have:=mem_tot h
      omega
theorem TopPiecesTravel_pure:TopPiecesTravel_Pure:=by
  intro x y a1 a2 a3 ⟨hx,hxx⟩ ⟨hy,hyy⟩ _ _ _
  unfold smithyardtop_TopPiecesTravel.f
  rw [alive_eq]
  obtain ⟨p,f,hp,p1,p2⟩:=pieces_good x a1 a2 a3
  obtain ⟨q,g,hq,q1,q2⟩:=pieces_good y a1 a2 a3
  rw [hp,hq]
  simp only [Option.bind_some]
  by_cases hf:f=0
  · by_cases hg:g=0
    · subst hf hg
      obtain ⟨gp,lp,bx⟩:=p2 rfl
      obtain ⟨gq,lq,by_⟩:=q2 rfl
      simp only [bne_self_eq_false,cond_false,Option.bind_some]
      rw [cutInto_eq gp bx lp,cutInto_eq gq by_ lq]
      simp only [Option.bind_some]
      have fx:=cutL_flatten p x gp
      have fy:=cutL_flatten q y gq
      have tx:tot (cutL x p)=x.length:=by rw [← tot_flatten,fx]
      have ty:tot (cutL y q)=y.length:=by rw [← tot_flatten,fy]
      have cx:=cutL_length p x
      have cy:=cutL_length q y
      rw [fresh_eq (by omega) (by omega) (by omega) (by omega),shared_eq hp hq gp gq lp lq by_]
      simp only [Option.bind_some,bne_self_eq_false,cond_false]
      have hs:=frsum_sh (cutL y q) (putL [] (cutL x p)) (putL [] (cutL x p)) (fun _ h=>h)
      rw [ty] at hs
      rw [w64_id (by omega) (by omega),decide_eq_false (by omega)]
      simp only [cond_false]
      rw [slices_Clone_byte_id (by omega)]
      simp only [Option.bind_some]
      obtain ⟨fl,fb⟩:=frs_le (cutL y q) (putL [] (cutL x p)) 0
      have h1:=rangeS_all (xs:=frs (putL [] (cutL x p)) 0 (cutL y q)) (L:=fun k s v=>smithyardtop_TopPiecesTravel.l6 smithyardtop_TopPiecesTravel.e1 k y (cutL y q) (frs (putL [] (cutL x p)) 0 (cutL y q),(frsum (putL [] (cutL x p)) (cutL y q):Int),0) s v) (body:=fun _ x3 (s:List (List Int)) f=>(bif decide (x3<0) then (some true) else (some (decide (((cutL y q).length:Int)≤x3)))).bind fun t6=>bif t6 then (some false) else ((at? (cutL y q) x3).bind fun x4=>guard? (room s.length 1 24) (f (s++[x4])))) (e:=fun s=>smithyardtop_TopPiecesTravel.e1 y (cutL y q) s) (by omega) (fun k s v=>by
        simp only [smithyardtop_TopPiecesTravel.l6]) (cutL x p)
      rw [h1]
      obtain ⟨G,G1,G2,G3,G4⟩:=gather (E:=fun s=>smithyardtop_TopPiecesTravel.e1 y (cutL y q) s) (cutL y q) (by omega) (frs (putL [] (cutL x p)) 0 (cutL y q)) 0 (cutL x p) (fun j hj=>by have:=fb j hj; omega) (by omega)
      rw [G4]
      unfold smithyardtop_TopPiecesTravel.e1
      have bytes:∀ w,w∈cutL x p∨w∈cutL y q→∀ n∈w,0≤n∧n≤255:=fun w hw n hn=>by
        rcases hw with hw | hw
        · exact byte_of (hxx n (cutL_sub p x w hw n hn))
        · exact byte_of (hyy n (cutL_sub q y w hw n hn))
      have lens:∀ w∈cutL x p++G,w.length≤4611686018427387904:=fun w hw=>by
        rcases List.mem_append.1 hw with hw | hw
        · have:=mem_tot hw; omega
        · have:=mem_tot (G2 w hw); omega
      have found:∀ z∈cutL y q,z∈cutL x p++G:=fun z hz=>by
        rcases frs_cover (cutL y q) (putL [] (cutL x p)) 0 z hz with h | ⟨j,hj,w,hw,he⟩
        · rw [putL_get] at h
          simp only [mgetD,mget,Option.getD_none,Bool.false_or,List.any_eq_true,decide_eq_true_eq] at h
          obtain ⟨w,hw,he⟩:=h
          have:=strN_inj (bytes w (Or.inl hw)) (bytes z (Or.inr hz)) he
          rw [← this]
          exact List.mem_append_left _ hw
        · obtain ⟨w2,hw2,hg⟩:=G1 j hj
          rw [Int.sub_zero] at hw
          have e:w2=w:=Option.some.inj (hw2.symm.trans hw)
          subst e
          have:=strN_inj (bytes w2 (Or.inr (G2 w2 hg))) (bytes z (Or.inr hz)) he
          rw [← this]
          exact List.mem_append_right _ hg
      have h2:=rangeS_all (S:=Unit) (xs:=cutL y q) (L:=fun k _ v=>smithyardtop_TopPiecesTravel.l3 smithyardtop_TopPiecesTravel.e2 k y (cutL y q) (cutL x p++G) v) (body:=fun _ z (s:Unit) f=>bif !((cutL x p++G).any (fun h=>decide (h=z))) then some false else f s) (e:=fun _=>smithyardtop_TopPiecesTravel.e2 y (cutL y q)) (by omega) (fun k s v=>by
        simp only [smithyardtop_TopPiecesTravel.l3]
        congr 1
        refine bind_at (fun z hz=>?_)
        have h3:=rangeS_all (xs:=cutL x p++G) (L:=fun k2 (b:Bool) w=>smithyardtop_TopPiecesTravel.l5 (smithyardtop_TopPiecesTravel.e4 (smithyardtop_TopPiecesTravel.l3 smithyardtop_TopPiecesTravel.e2 k)) k2 y (cutL y q) (cutL x p++G) v z b w) (body:=fun _ x2 (s:Bool) f=>(bif s then (some true) else ((slices_Equal_byte.f x2 z).bind fun y13=>some y13)).bind fun t5=>f t5) (e:=fun b=>smithyardtop_TopPiecesTravel.e4 (smithyardtop_TopPiecesTravel.l3 smithyardtop_TopPiecesTravel.e2 k) y (cutL y q) (cutL x p++G) v b) (by rw [List.length_append]; omega) (fun k2 b w=>by
          simp only [smithyardtop_TopPiecesTravel.l5]) false
        rw [h3,found_range _ 0 false lens]
        rfl) ()
      refine h2.trans ?_
      rw [all_found (cutL y q) 0 found]
      unfold smithyardtop_TopPiecesTravel.e2
      rw [together_eq (by omega) (by omega),fy,alive_eq]
      simp only [Option.bind_some,BEq.rfl,cond_true]
      rw [slices_Equal_byte_self (by omega)]
      rfl
    · have h1:(g != 0)=true:=by simpa using hg
      subst hf
      rw [h1]
      rfl
  · have h1:(f != 0)=true:=by simpa using hf
    have h2:(f == 0)=false:=by simpa using hf
    rw [h1,h2,p1 hf]
    rfl
end Go.Proofs.YtgmfdaibmaakpaaDoor
