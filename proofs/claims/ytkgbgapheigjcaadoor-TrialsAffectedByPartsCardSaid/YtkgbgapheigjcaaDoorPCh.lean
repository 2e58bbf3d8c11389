/- What lies above a path; the three maps of changes. -/
import Derived.Test.YtkgbgapheigjcaaDoorPRd
import Derived.Test.YtkgbgapheigjcaaDoorPMp
set_option linter.unusedVariables false
namespace Go.Proofs.YtkgbgapheigjcaaDoor
open Go Go.Proofs.YtkgbgapheigjcaaDoor.Kit
def cutAt (p:ByteArray) (i:Nat):Option ByteArray:=if p.data.toList[i]? = some 47 then some (p.extract 0 i) else none
def aboveFrom (p:ByteArray) (v n:Nat):List ByteArray:=(List.range' v n).filterMap (cutAt p)
def aboveL (p:ByteArray):List ByteArray:=aboveFrom p 0 p.size
theorem above_loop (p:ByteArray) (h:p.size≤4294967296):∀ (d k v:Nat) (out:List ByteArray),v+d=p.size→d<k→out.length≤v→trials_above.l2 trials_above.e1 k p out v=some (out++aboveFrom p v d):=by
  intro d
  induction d with
  | zero =>
    intro k v out hv hk ho
    obtain ⟨k,rfl⟩:∃ m,k=m+1:=⟨k - 1,by omega⟩
    rw [trials_above.l2,decide_eq_false (by omega)]
    simp [aboveFrom,trials_above.e1]
  | succ d ih =>
    intro k v out hv hk ho
    obtain ⟨k,rfl⟩:∃ m,k=m+1:=⟨k - 1,by omega⟩
    have hn:v<p.data.toList.length:=by simp; show _<p.size; omega
    have hb:bt p (v:Int)=((p.data.toList[v]).toNat:Int):=bt_of (List.getElem?_eq_getElem hn)
    have hw:w64 ((v:Int)+1)=((v+1:Nat):Int):=by rw [w64_id (by omega) (by omega)]; omega
    rw [trials_above.l2,decide_eq_true (by omega:(v:Int)<(p.size:Int)),decide_eq_true (by omega:(0:Int)≤(v:Int)),hb]
    unfold aboveFrom
    rw [List.range'_succ,List.filterMap_cons]
    have hc:cutAt p v=if p.data.toList[v]=47 then some (p.extract 0 v) else none:=by
      unfold cutAt
      rw [List.getElem?_eq_getElem hn]
      simp
    rw [hc]
    by_cases h47:p.data.toList[v]=47
    · have e:(((p.data.toList[v]).toNat:Int) == 47)=true:=by rw [h47]; rfl
      rw [e,if_pos h47]
      have hr:room out.length 1 16=true:=by unfold room; exact decide_eq_true (by omega)
      rw [decide_eq_true (by omega:(v:Int)≤(p.size:Int)),hr]
      simp only [Bool.and_self,guard?,cond_true,trials_above.j3,hw,Int.toNat_natCast]
      have:=ih k (v+1) (out++[p.extract 0 v]) (by omega) (by omega) (by simp; omega)
      rw [this]
      simp [aboveFrom]
    · have e:(((p.data.toList[v]).toNat:Int) == 47)=false:=by
        rw [beq_eq_false_iff_ne]
        intro hh
        apply h47
        apply UInt8.toNat_inj.1
        show _=47
        omega
      rw [e,if_neg h47]
      simp only [Bool.and_self,guard?,cond_true,cond_false,trials_above.j3,hw]
      have:=ih k (v+1) out (by omega) (by omega) (by omega)
      rw [this]
      rfl
theorem above_eq (p:ByteArray) (h:p.size≤4294967296):trials_above.f p=some (aboveL p):=by
  have:=above_loop p h p.size big 0 [] (by omega) (by unfold big; omega) (by simp)
  simpa [trials_above.f,aboveL] using this
def putAll {κ:Type} [DecidableEq κ] (m:List (κ × Bool)) (l:List κ):List (κ × Bool):=l.foldl (fun m k=>mput m k true) m
theorem put_range {S:Type} {e:List (ByteArray × Bool)→Option S}:∀ (ys:List ByteArray) (i:Int) (w:List (ByteArray × Bool)),rangeS (fun _ y w k=>k (mput w y true)) e i ys w=e (putAll w ys)
  | [],i,w=>rfl
  | y::ys,i,w=>by
    rw [rangeS]
    show rangeS (fun _ y w k=>k (mput w y true)) e (i+1) ys (mput w y true)=_
    rw [put_range ys (i+1) (mput w y true)]
    rfl
theorem over_loop (j3:(List TreeChange)→Int→(List (ByteArray × Bool))→(List (ByteArray × Bool))→(List (ByteArray × Bool))→Option (trials_changes × Int)) (l:List TreeChange) (o f:List (ByteArray × Bool)) (v:Int) (x:TreeChange) {ys:List ByteArray} (h:ys.length≤4611686018427387904) (w:List (ByteArray × Bool)) :
    trials_changesOf.l4 j3 big l o f v x ys w 0=j3 l v o (mput f x.Path true) (putAll w ys):=by
  have:=rangeS_all (xs:=ys) (body:=fun _ y (w:List (ByteArray × Bool)) k=>k (mput w y true)) (e:=fun w=>j3 l v o (mput f x.Path true) w) (L:=fun k w i=>trials_changesOf.l4 j3 k l o f v x ys w i) h (fun k w i=>by rw [trials_changesOf.l4]) w
  rw [this,put_range]
def stepC (m:trials_changes) (x:TreeChange):trials_changes :=
  bif x.Kind != 1 then ⟨mput m.other x.Path true,m.fresh,m.over⟩ else ⟨m.other,mput m.fresh x.Path true,putAll m.over (aboveL x.Path)⟩
def chB (p:Option TreeChange) (x:TreeChange) (m:trials_changes) (f:trials_changes→Option (trials_changes × Int)):Option (trials_changes × Int) :=
  bif !isPathB x.Path then some (m,3) else bif !(decide (1≤x.Kind)&&decide (x.Kind≤4)) then some (m,4) else bif prevB (fun y=>sLt x.Path y.Path||sEq x.Path y.Path) p then some (m,8) else f (stepC m x)
theorem aboveL_length (p:ByteArray):(aboveL p).length≤p.size:=by
  unfold aboveL aboveFrom
  exact Nat.le_trans (List.length_filterMap_le _ _) (by simp)
theorem ch_cc:∀ (l:List TreeChange) (p:Option TreeChange) (m:trials_changes),∃ c e,rangeQ chB (fun m=>some (m,0)) p l m=some (c,e)∧rangeP ccB (some 0) p l=some e∧(e=0→c=l.foldl stepC m)
  | [],p,m=>⟨m,0,rfl,rfl,fun _=>rfl⟩
  | x::l,p,m=>by
    obtain ⟨c,e,h1,h2,h3⟩:=ch_cc l (some x) (stepC m x)
    rw [show rangeQ chB (fun m=>some (m,0)) p (x::l) m=(bif !isPathB x.Path then some (m,3) else bif !(decide (1≤x.Kind)&&decide (x.Kind≤4)) then some (m,4) else bif prevB (fun y=>sLt x.Path y.Path||sEq x.Path y.Path) p then some (m,8) else rangeQ chB (fun m=>some (m,0)) (some x) l (stepC m x)) from rfl,show rangeP ccB (some 0) p (x::l)=ccB p x (rangeP ccB (some 0) (some x) l) from rfl,h2,h1]
    unfold ccB
    cases isPathB x.Path
    · exact ⟨m,3,rfl,rfl,fun h=>by cases h⟩
    cases (decide (1≤x.Kind)&&decide (x.Kind≤4))
    · exact ⟨m,4,rfl,rfl,fun h=>by cases h⟩
    cases prevB (fun y=>sLt x.Path y.Path||sEq x.Path y.Path) p
    · exact ⟨c,e,rfl,rfl,h3⟩
    · exact ⟨m,8,rfl,rfl,fun h=>by cases h⟩
end Go.Proofs.YtkgbgapheigjcaaDoor
