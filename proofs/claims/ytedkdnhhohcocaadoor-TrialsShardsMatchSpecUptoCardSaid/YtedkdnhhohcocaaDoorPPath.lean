/- Paths: both sides' tests of a path are one. -/
import Derived.Test.YtedkdnhhohcocaaDoorZD
import Derived.Test.YtedkdnhhohcocaaDoorPW
import Derived.KernelRfl
set_option linter.unusedVariables false
namespace Go.Proofs.YtedkdnhhohcocaaDoor
open Go Go.Proofs.YtedkdnhhohcocaaDoor.Kit
def okP (c:UInt8):Bool:=(blob_inPart.f (c.toNat:Int)).getD false
theorem inPart_eq (c:UInt8):blob_inPart.f (c.toNat:Int)=some (okP c) :=
  of_decide_eq_true (u8_all (p:=fun c=>decide (blob_inPart.f (c.toNat:Int)=some (okP c))) (by kernel_rfl) c)
def badR (v:Int):Option Bool:=(bif decide (v<97) then (bif decide (v<65) then (bif decide (v<48) then ((strings_IndexByte.f ({ data:=#[46,95,45,43] }:ByteArray) v).bind fun y1=>some (decide (y1<0))) else (bif decide (57<v) then ((strings_IndexByte.f ({ data:=#[46,95,45,43] }:ByteArray) v).bind fun y2=>some (decide (y2<0))) else (some false))) else (bif decide (90<v) then (bif decide (v<48) then ((strings_IndexByte.f ({ data:=#[46,95,45,43] }:ByteArray) v).bind fun y3=>some (decide (y3<0))) else (bif decide (57<v) then ((strings_IndexByte.f ({ data:=#[46,95,45,43] }:ByteArray) v).bind fun y4=>some (decide (y4<0))) else (some false))) else (some false))) else (bif decide (122<v) then (bif decide (v<65) then (bif decide (v<48) then ((strings_IndexByte.f ({ data:=#[46,95,45,43] }:ByteArray) v).bind fun y5=>some (decide (y5<0))) else (bif decide (57<v) then ((strings_IndexByte.f ({ data:=#[46,95,45,43] }:ByteArray) v).bind fun y6=>some (decide (y6<0))) else (some false))) else (bif decide (90<v) then (bif decide (v<48) then ((strings_IndexByte.f ({ data:=#[46,95,45,43] }:ByteArray) v).bind fun y7=>some (decide (y7<0))) else (bif decide (57<v) then ((strings_IndexByte.f ({ data:=#[46,95,45,43] }:ByteArray) v).bind fun y8=>some (decide (y8<0))) else (some false))) else (some false))) else (some false)))
theorem badR_eq (c:UInt8):badR (c.toNat:Int)=some (!okP c) :=
  of_decide_eq_true (u8_all (p:=fun c=>decide (badR (c.toNat:Int)=some (!okP c))) (by kernel_rfl) c)
def dots (s:ByteArray):Bool:=!sEq s ({ data:=#[] }:ByteArray)&&(!sEq s ({ data:=#[46] }:ByteArray)&&!sEq s ({ data:=#[46,46] }:ByteArray))
def isPartB (s:ByteArray):Bool:=s.data.toList.all okP&&dots s
theorem isPart_e_prog (s:ByteArray):blob_isPart.e1 s=some (dots s):=by
  unfold blob_isPart.e1 dots
  cases sEq s ({ data:=#[] }:ByteArray) <;> cases sEq s ({ data:=#[46] }:ByteArray) <;> rfl
theorem isPart_e_ref (s:ByteArray):smithyardref10_isPart.e1 s=some (dots s):=by
  unfold smithyardref10_isPart.e1 dots
  cases sEq s ({ data:=#[] }:ByteArray) <;> cases sEq s ({ data:=#[46] }:ByteArray) <;> rfl
theorem isPart_prog_loop (s:ByteArray) (h:s.size≤4611686018427387904):∀ (d k:Nat) (v:Int),0≤v→v≤s.size→(s.size:Int) - v=d→d<k→blob_isPart.l2 blob_isPart.e1 k s v=some ((s.data.toList.drop v.toNat).all okP&&dots s):=by
  intro d
  induction d with
  | zero =>
    intro k v h0 h1 hd hk
    obtain ⟨k,rfl⟩:∃ m,k=m+1:=⟨k - 1,by omega⟩
    have e:decide (v<(s.size:Int))=false:=decide_eq_false (by omega)
    have hn:s.data.toList.drop v.toNat=[]:=List.drop_eq_nil_of_le (by simp; show s.size≤_; omega)
    rw [blob_isPart.l2,e,hn]
    exact isPart_e_prog s
  | succ d ih =>
    intro k v h0 h1 hd hk
    obtain ⟨k,rfl⟩:∃ m,k=m+1:=⟨k - 1,by omega⟩
    have e:decide (v<(s.size:Int))=true:=decide_eq_true (by omega)
    have e0:decide ((0:Int)≤v)=true:=decide_eq_true (by omega)
    have hn:v.toNat<s.data.toList.length:=by simp; show _<s.size; omega
    have hb:bt s v=((s.data.toList[v.toNat]).toNat:Int):=by
      have:=bt_of (s:=s) (i:=v.toNat) (List.getElem?_eq_getElem hn)
      rwa [Int.toNat_of_nonneg h0] at this
    have hw:w64 (v+1)=v+1:=w64_id (by omega) (by omega)
    rw [blob_isPart.l2,e,e0,hb,hw,ih k (v+1) (by omega) (by omega) (by omega) (by omega),List.drop_eq_getElem_cons hn,show (v+1).toNat=v.toNat+1 by omega]
    simp only [Bool.and_self,guard?,cond_true,List.all_cons]
    generalize s.data.toList[v.toNat]=c
    generalize List.all _ _=r
    rw [inPart_eq]
    cases okP c <;> simp
theorem isPart_ref_loop (s:ByteArray) (h:s.size≤4611686018427387904):∀ (d k:Nat) (v:Int),0≤v→v≤s.size→(s.size:Int) - v=d→d<k→smithyardref10_isPart.l2 smithyardref10_isPart.e1 k s v=some ((s.data.toList.drop v.toNat).all okP&&dots s):=by
  intro d
  induction d with
  | zero =>
    intro k v h0 h1 hd hk
    obtain ⟨k,rfl⟩:∃ m,k=m+1:=⟨k - 1,by omega⟩
    have e:decide (v<(s.size:Int))=false:=decide_eq_false (by omega)
    have hn:s.data.toList.drop v.toNat=[]:=List.drop_eq_nil_of_le (by simp; show s.size≤_; omega)
    rw [smithyardref10_isPart.l2,e,hn]
    exact isPart_e_ref s
  | succ d ih =>
    intro k v h0 h1 hd hk
    obtain ⟨k,rfl⟩:∃ m,k=m+1:=⟨k - 1,by omega⟩
    have e:decide (v<(s.size:Int))=true:=decide_eq_true (by omega)
    have e0:decide ((0:Int)≤v)=true:=decide_eq_true (by omega)
    have hn:v.toNat<s.data.toList.length:=by simp; show _<s.size; omega
    have hb:bt s v=((s.data.toList[v.toNat]).toNat:Int):=by
      have:=bt_of (s:=s) (i:=v.toNat) (List.getElem?_eq_getElem hn)
      rwa [Int.toNat_of_nonneg h0] at this
    have hw:w64 (v+1)=v+1:=w64_id (by omega) (by omega)
    rw [smithyardref10_isPart.l2,e,e0,hb,hw,ih k (v+1) (by omega) (by omega) (by omega) (by omega),List.drop_eq_getElem_cons hn,show (v+1).toNat=v.toNat+1 by omega]
    simp only [Bool.and_self,guard?,cond_true,List.all_cons]
    generalize s.data.toList[v.toNat]=c
    generalize List.all _ _=r
    have key:=badR_eq c
    unfold badR at key
    rw [key]
    cases okP c <;> simp
theorem isPart_prog (s:ByteArray) (h:s.size≤4611686018427387904):blob_isPart.f s=some (isPartB s):=by
  have:=isPart_prog_loop s h s.size big 0 (by omega) (by omega) (by omega) (by unfold big; omega)
  simpa [blob_isPart.f,isPartB] using this
theorem isPart_ref (s:ByteArray) (h:s.size≤4611686018427387904):smithyardref10_isPart.f s=some (isPartB s):=by
  have:=isPart_ref_loop s h s.size big 0 (by omega) (by omega) (by omega) (by unfold big; omega)
  simpa [smithyardref10_isPart.f,isPartB] using this
theorem splitB_size (sep:ByteArray):∀ (k:Nat) (s:ByteArray),∀ x∈Lib.splitB sep 0 k s,x.size≤s.size
  | 0,s,x,hx=>by rw [Lib.splitB,List.mem_singleton] at hx; subst hx; exact Nat.le_refl _
  | k+1,s,x,hx=>by
    unfold Lib.splitB at hx
    split at hx
    · rw [List.mem_singleton] at hx; subst hx; exact Nat.le_refl _
    · rcases List.mem_cons.1 hx with rfl | hx
      · rw [ByteArray.size_extract]; omega
      · have:=splitB_size sep k _ x hx
        rw [ByteArray.size_extract] at this
        omega
def slash:ByteArray:={ data:=#[47] }
def partsOf (s:ByteArray):List ByteArray:=Lib.splitB slash 0 (Lib.countB s slash) s
theorem partsOf_length (s:ByteArray):(partsOf s).length≤s.size+1:=by
  have h1:1≤slash.size:=by decide
  have:=Lib.splitB_all slash h1 0 _ s rfl
  have h2:=Lib.countB_le slash h1 s.size s (Nat.le_refl _)
  unfold partsOf
  omega
theorem split_eq {s:ByteArray} (h:s.size<4294967281):strings_Split.f s ({ data:=#[47] }:ByteArray)=some (partsOf s):=by
  unfold strings_Split.f guard?
  rw [decide_eq_true h]
  rfl
def isPathB (s:ByteArray):Bool:=decide (1≤s.size)&&decide (s.size≤200)&&(partsOf s).all isPartB
theorem all_range {α S:Type} {q:α→Bool} {e:S→Option Bool} {s:S}:∀ (xs:List α) (i:Int),rangeS (fun _ x s k=>bif !q x then some false else k s) e i xs s=bif xs.all q then e s else some false
  | [],i=>rfl
  | x::xs,i=>by
    rw [rangeS]
    show (bif !q x then some false else rangeS (fun _ x s k=>bif !q x then some false else k s) e (i+1) xs s)=_
    rw [all_range xs (i+1)]
    simp only [List.all_cons]
    cases q x <;> rfl
theorem isPath_prog (s:ByteArray):blob_IsPath.f s=some (isPathB s):=by
  unfold blob_IsPath.f isPathB
  by_cases h1:s.size<1
  · have e1:decide ((s.size:Int)<1)=true:=decide_eq_true (by omega)
    have e2:decide (1≤s.size)=false:=decide_eq_false (by omega)
    simp [e1,e2]
  have e1:decide ((s.size:Int)<1)=false:=decide_eq_false (by omega)
  have e1':decide (1≤s.size)=true:=decide_eq_true (by omega)
  by_cases h2:200<s.size
  · have e2:decide (200<(s.size:Int))=true:=decide_eq_true (by omega)
    have e3:decide (s.size≤200)=false:=decide_eq_false (by omega)
    simp [e1,e1',e2,e3]
  have e2:decide (200<(s.size:Int))=false:=decide_eq_false (by omega)
  have e2':decide (s.size≤200)=true:=decide_eq_true (by omega)
  have hl:=partsOf_length s
  rw [e1,e1',e2,e2',split_eq (by omega)]
  have:=rangeS_all (xs:=partsOf s) (body:=fun _ x (_:Unit) k=>bif !isPartB x then some false else k ()) (e:=fun _=>blob_IsPath.e1) (L:=fun k _ v=>blob_IsPath.l2 blob_IsPath.e1 k (partsOf s) v) (by omega) (fun k _ v=>by
    rw [blob_IsPath.l2]
    congr 1
    refine bind_at fun x hx=>?_
    rw [isPart_prog x (by have:=splitB_size _ _ _ x hx; omega)]
    rfl) ()
  refine this.trans ?_
  rw [all_range (q:=isPartB) (e:=fun _=>blob_IsPath.e1) (s:=())]
  cases (partsOf s).all isPartB <;> rfl
theorem isPath_ref {s:ByteArray} (h:s.size<4294967281):smithyardref10_isPath.f s=some (isPathB s):=by
  unfold smithyardref10_isPath.f isPathB
  have hl:=partsOf_length s
  rw [split_eq h]
  have:=rangeS_all (xs:=partsOf s) (body:=fun _ x (_:Unit) k=>bif !isPartB x then some false else k ()) (e:=fun _=>smithyardref10_isPath.e1 s) (L:=fun k _ v=>smithyardref10_isPath.l2 smithyardref10_isPath.e1 k s (partsOf s) v) (by omega) (fun k _ v=>by
    rw [smithyardref10_isPath.l2]
    congr 1
    refine bind_at fun x hx=>?_
    rw [isPart_ref x (by have:=splitB_size _ _ _ x hx; omega)]
    rfl) ()
  refine this.trans ?_
  rw [all_range (q:=isPartB) (e:=fun _=>smithyardref10_isPath.e1 s) (s:=())]
  have he:smithyardref10_isPath.e1 s=some (decide (1≤s.size)&&decide (s.size≤200)):=by
    have a:decide ((1:Int)≤(s.size:Int))=decide (1≤s.size):=decide_eq_decide.2 (by omega)
    have b:decide ((s.size:Int)≤200)=decide (s.size≤200):=decide_eq_decide.2 (by omega)
    unfold smithyardref10_isPath.e1 smithyardref10_within.f
    rw [a,b]
    cases decide (1≤s.size) <;> rfl
  rw [he]
  cases (partsOf s).all isPartB <;> simp
end Go.Proofs.YtedkdnhhohcocaaDoor
