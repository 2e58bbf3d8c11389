/- What the machine's calls of these functions come to: just what the plain functions say. Written by program. -/
import Derived.Test.YtkjilepjblffeaaDoorProg
import Derived.Test.YtkjilepjblffeaaDoorKitX
import Derived.Test.YtkjilepjblffeaaDoorUD
import Derived.Test.YtkjilepjblffeaaDoorShelf
import Derived.Test.YtkjilepjblffeaaDoorU8M2
set_option linter.unusedVariables false
set_option linter.unusedSimpArgs false
set_option maxRecDepth 100000
set_option maxHeartbeats 1000000
namespace Go.Proofs.YtkjilepjblffeaaDoor
open Go Go.RowKit Go.Proofs.YtkjilepjblffeaaDoor.Kit
noncomputable def C149 : Ctx := { P := Tryd.prog,f := 149,N := 63,c := bodyOf Tryd.f149 }
def S149 (F : List Ch) (H0 : Hp) (Aa0 : Option Addr) (ca0 : Nat) (la0 : Nat) (r : (List Blob)) (v : Value) (H : Hp) (cs : List Ch) : Prop := ∃ (ch0 : Ch),H0 = H ∧ v = .tuple #[] ∧ ch0 :: F = cs ∧ SlOwn kBlob 47 H Aa0 ca0 r ch0 ∧ la0 = r.length
theorem slices_stableCmpFunc_Blob.j4_c {w0 : World} {H : Hp} {F : List Ch} {r : (List Blob)} (backl2 : Int → (List Blob) → Int → Option (List Blob))
  (hbackl2 : ∀ (Aa0 : Option Addr) (ca0 : Nat) (la0 : Nat) (a1 : Int) (v_data0 : List Blob) (chv_data0 : Ch) (nv_data0 : Nat) (v_blockSize6 : Int) ,nv_data0 = v_data0.length → la0 = nv_data0 → SlOwn kBlob 47 H Aa0 ca0 v_data0 chv_data0 → backl2 a1 v_data0 v_blockSize6 = some r → RunH C149 (S149 F H Aa0 ca0 la0 r) H w0 [.c [1,1,1,1,0,0],.l [1,1,1,1,0,0],.b 2] [(0,.slice Aa0 nv_data0 ca0),(1,iv a1),(2,.func (.func 123) #[] #[]),(6,iv v_blockSize6)] H (chv_data0 :: F)) : ∀ (Aa0 : Option Addr) (ca0 : Nat) (la0 : Nat) (a1 : Int) (v_blockSize6 : Int) (v_data0 : List Blob) (chv_data0 : Ch) (nv_data0 : Nat) ,nv_data0 = v_data0.length → la0 = nv_data0 → SlOwn kBlob 47 H Aa0 ca0 v_data0 chv_data0 → slices_stableCmpFunc_Blob.j4 backl2 a1 v_blockSize6 v_data0 = some r → RunH C149 (S149 F H Aa0 ca0 la0 r) H w0 [.c [1,1,1,1,0,0,1,0,1,1,1],.b 3,.l [1,1,1,1,0,0],.b 2] [(0,.slice Aa0 nv_data0 ca0),(1,iv a1),(2,.func (.func 123) #[] #[]),(6,iv v_blockSize6)] H (chv_data0 :: F) := by
 intro Aa0 ca0 la0 a1 v_blockSize6 v_data0 chv_data0 nv_data0 hnv_data0 hlv_data0 hov_data0 heq
 subst hnv_data0
 unfold slices_stableCmpFunc_Blob.j4 at heq
 refine Rr <| Rd 3 [0,1,2,6] [(0,.slice Aa0 v_data0.length ca0),(1,iv a1),(2,.func (.func 123) #[] #[]),(6,iv (w64 (v_blockSize6 * 2)))] <| Ad 2 [.c [1,1,1,1,0,0],.l [1,1,1,1,0,0],.b 2] <| Kp [0,1,2,6] [(0,.slice Aa0 v_data0.length ca0),(1,iv a1),(2,.func (.func 123) #[] #[]),(6,iv (w64 (v_blockSize6 * 2)))] ?_
 exact hbackl2 _ _ _ a1 v_data0 _ _ (w64 (v_blockSize6 * 2)) rfl hlv_data0 hov_data0 heq
theorem slices_stableCmpFunc_Blob.e3_c {w0 : World} {H : Hp} {F : List Ch} {r : (List Blob)} (backl2 : Int → (List Blob) → Int → Option (List Blob))
  (hbackl2 : ∀ (Aa0 : Option Addr) (ca0 : Nat) (la0 : Nat) (a1 : Int) (v_data0 : List Blob) (chv_data0 : Ch) (nv_data0 : Nat) (v_blockSize6 : Int) ,nv_data0 = v_data0.length → la0 = nv_data0 → SlOwn kBlob 47 H Aa0 ca0 v_data0 chv_data0 → backl2 a1 v_data0 v_blockSize6 = some r → RunH C149 (S149 F H Aa0 ca0 la0 r) H w0 [.c [1,1,1,1,0,0],.l [1,1,1,1,0,0],.b 2] [(0,.slice Aa0 nv_data0 ca0),(1,iv a1),(2,.func (.func 123) #[] #[]),(6,iv v_blockSize6)] H (chv_data0 :: F)) : ∀ (Aa0 : Option Addr) (ca0 : Nat) (la0 : Nat) (a1 : Int) (v_data0 : List Blob) (chv_data0 : Ch) (v_blockSize6 : Int) (v_a7 : Int) ,la0 = v_data0.length → SlOwn kBlob 47 H Aa0 ca0 v_data0 chv_data0 → slices_stableCmpFunc_Blob.e3 backl2 a1 v_data0 v_blockSize6 v_a7 = some r → RunH C149 (S149 F H Aa0 ca0 la0 r) H w0 [.c [1,1,1,1,0,0,1,0,1,1,0,0],.c [1,1,1,1,0,0,1,0,1,1,0,1],.c [1,1,1,1,0,0,1,0,1,1,1],.b 3,.l [1,1,1,1,0,0],.b 2] [(0,.slice Aa0 v_data0.length ca0),(1,iv a1),(2,.func (.func 123) #[] #[]),(6,iv v_blockSize6),(7,iv v_a7)] H (chv_data0 :: F) := by
 intro Aa0 ca0 la0 a1 v_data0 chv_data0 v_blockSize6 v_a7 hlv_data0 hov_data0 heq
 unfold slices_stableCmpFunc_Blob.e3 at heq
 refine Rr <| Rd 4 [0,1,2,6,7,9] [(0,.slice Aa0 v_data0.length ca0),(1,iv a1),(2,.func (.func 123) #[] #[]),(6,iv v_blockSize6),(7,iv v_a7),(9,iv (w64 (v_a7 + v_blockSize6)))] <| Ra 1 [1,1,1,1,0,0,1,0,1,1,0,1,0] [.c [1,1,1,1,0,0,1,0,1,1,0,1,1],.c [1,1,1,1,0,0,1,0,1,1,1],.b 3,.l [1,1,1,1,0,0],.b 2] <| Rd 3 [0,1,2,6,7,9,54] [(0,.slice Aa0 v_data0.length ca0),(1,iv a1),(2,.func (.func 123) #[] #[]),(6,iv v_blockSize6),(7,iv v_a7),(9,iv (w64 (v_a7 + v_blockSize6))),(54,.bool (decide ((w64 (v_a7 + v_blockSize6)) < a1)))] ?_
 rcases bool_cases (decide ((w64 (v_a7 + v_blockSize6)) < a1)) with hb2 | hb2
 ·replace heq := bif_true hb2 heq
  refine Ct (decide ((w64 (v_a7 + v_blockSize6)) < a1)) hb2 <| Rr <| Rk 5 [0,1,2,6,55,56,57,58,59] [(0,.slice Aa0 v_data0.length ca0),(1,iv a1),(2,.func (.func 123) #[] #[]),(6,iv v_blockSize6),(55,.slice Aa0 v_data0.length ca0),(56,iv v_a7),(57,iv (w64 (v_a7 + v_blockSize6))),(58,iv a1),(59,.func (.func 123) #[] #[])] ?_
  obtain ⟨y2,hy2,heq⟩ := bind_some heq
  refine RgH.does (DoesH.call (d := 60) (g := 167) (args := #[.slice Aa0 v_data0.length ca0,.int .i64 v_a7,.int .i64 (w64 (v_a7 + v_blockSize6)),.int .i64 a1,.func (.func 123) #[] #[]]) (by kernel_rfl) (slices_symMergeCmpFunc_Blob_c (a0 := v_data0) (a1 := v_a7) (a2 := w64 (v_a7 + v_blockSize6)) (a3 := a1) hov_data0 rfl hy2)) ?_
  rintro _ _ _ _ ⟨_,rfl,ch2,rfl,rfl,rfl,ho2,hn2⟩
  refine Dn <| Kp [0,1,2,6] [(0,.slice Aa0 v_data0.length ca0),(1,iv a1),(2,.func (.func 123) #[] #[]),(6,iv v_blockSize6)] ?_
  exact (slices_stableCmpFunc_Blob.j4_c (backl2 := backl2) hbackl2) _ _ _ a1 v_blockSize6 y2 _ _ hn2 hlv_data0 ho2 heq
 ·replace heq := bif_false hb2 heq
  refine Cf (decide ((w64 (v_a7 + v_blockSize6)) < a1)) hb2 <| Ad 1 [.c [1,1,1,1,0,0,1,0,1,1,1],.b 3,.l [1,1,1,1,0,0],.b 2] <| Kp [0,1,2,6] [(0,.slice Aa0 v_data0.length ca0),(1,iv a1),(2,.func (.func 123) #[] #[]),(6,iv v_blockSize6)] ?_
  exact (slices_stableCmpFunc_Blob.j4_c (backl2 := backl2) hbackl2) _ _ _ a1 v_blockSize6 v_data0 _ _ rfl hlv_data0 hov_data0 heq
theorem slices_stableCmpFunc_Blob.l5_c {w0 : World} {H : Hp} {F : List Ch} {r : (List Blob)} (e3 : Int → (List Blob) → Int → Int → Option (List Blob))
  (he3 : ∀ (Aa0 : Option Addr) (ca0 : Nat) (la0 : Nat) (a1 : Int) (v_data0 : List Blob) (chv_data0 : Ch) (v_blockSize6 : Int) (v_a7 : Int) ,la0 = v_data0.length → SlOwn kBlob 47 H Aa0 ca0 v_data0 chv_data0 → e3 a1 v_data0 v_blockSize6 v_a7 = some r → RunH C149 (S149 F H Aa0 ca0 la0 r) H w0 [.c [1,1,1,1,0,0,1,0,1,1,0,0],.c [1,1,1,1,0,0,1,0,1,1,0,1],.c [1,1,1,1,0,0,1,0,1,1,1],.b 3,.l [1,1,1,1,0,0],.b 2] [(0,.slice Aa0 v_data0.length ca0),(1,iv a1),(2,.func (.func 123) #[] #[]),(6,iv v_blockSize6),(7,iv v_a7)] H (chv_data0 :: F)) : ∀ (k : Nat),∀ (Aa0 : Option Addr) (ca0 : Nat) (la0 : Nat) (a1 : Int) (v_blockSize6 : Int) (v_data0 : List Blob) (chv_data0 : Ch) (nv_data0 : Nat) (v_a7 : Int) (v_b8 : Int) ,nv_data0 = v_data0.length → la0 = nv_data0 → SlOwn kBlob 47 H Aa0 ca0 v_data0 chv_data0 → slices_stableCmpFunc_Blob.l5 e3 k a1 v_blockSize6 v_data0 v_a7 v_b8 = some r → RunH C149 (S149 F H Aa0 ca0 la0 r) H w0 [.c [1,1,1,1,0,0,1,0,1,0,0,0],.l [1,1,1,1,0,0,1,0,1,0,0,0],.b 4,.c [1,1,1,1,0,0,1,0,1,1],.b 3,.l [1,1,1,1,0,0],.b 2] [(0,.slice Aa0 nv_data0 ca0),(1,iv a1),(2,.func (.func 123) #[] #[]),(6,iv v_blockSize6),(7,iv v_a7),(8,iv v_b8)] H (chv_data0 :: F) := by
 intro k
 induction k with
 | zero => intro Aa0 ca0 la0 a1 v_blockSize6 v_data0 chv_data0 nv_data0 v_a7 v_b8 hnv_data0 hlv_data0 hov_data0 heq; exact nomatch (show (none : Option (List Blob)) = some r from heq)
 | succ k ihk =>
  intro Aa0 ca0 la0 a1 v_blockSize6 v_data0 chv_data0 nv_data0 v_a7 v_b8 hnv_data0 hlv_data0 hov_data0 heq
  subst hnv_data0
  rw [slices_stableCmpFunc_Blob.l5] at heq
  refine Ra 2 [1,1,1,1,0,0,1,0,1,0,0,0,0,0] [.c [1,1,1,1,0,0,1,0,1,0,0,0,0,1],.c [1,1,1,1,0,0,1,0,1,0,0,0,1],.l [1,1,1,1,0,0,1,0,1,0,0,0],.b 4,.c [1,1,1,1,0,0,1,0,1,1],.b 3,.l [1,1,1,1,0,0],.b 2] <| Rd 3 [0,1,2,6,7,8,35] [(0,.slice Aa0 v_data0.length ca0),(1,iv a1),(2,.func (.func 123) #[] #[]),(6,iv v_blockSize6),(7,iv v_a7),(8,iv v_b8),(35,.bool (decide (v_b8 ≤ a1)))] ?_
  rcases bool_cases (decide (v_b8 ≤ a1)) with hb3 | hb3
  ·replace heq := bif_true hb3 heq
   refine Ct (decide (v_b8 ≤ a1)) hb3 <| Ra 3 [1,1,1,1,0,0,1,0,1,0,0,0,1,0,0] [.c [1,1,1,1,0,0,1,0,1,0,0,0,1,0,1],.b 5,.l [1,1,1,1,0,0,1,0,1,0,0,0],.b 4,.c [1,1,1,1,0,0,1,0,1,1],.b 3,.l [1,1,1,1,0,0],.b 2] <| Rk 7 [0,1,2,6,8,36,37,40,41,42] [(0,.slice Aa0 v_data0.length ca0),(1,iv a1),(2,.func (.func 123) #[] #[]),(6,iv v_blockSize6),(8,iv v_b8),(36,.slice Aa0 v_data0.length ca0),(37,iv v_a7),(40,iv (w64 (v_a7 + v_blockSize6))),(41,iv v_b8),(42,.func (.func 123) #[] #[])] ?_
   obtain ⟨y3,hy3,heq⟩ := bind_some heq
   refine RgH.does (DoesH.call (d := 43) (g := 167) (args := #[.slice Aa0 v_data0.length ca0,.int .i64 v_a7,.int .i64 (w64 (v_a7 + v_blockSize6)),.int .i64 v_b8,.func (.func 123) #[] #[]]) (by kernel_rfl) (slices_symMergeCmpFunc_Blob_c (a0 := v_data0) (a1 := v_a7) (a2 := w64 (v_a7 + v_blockSize6)) (a3 := v_b8) hov_data0 rfl hy3)) ?_
   rintro _ _ _ _ ⟨_,rfl,ch3,rfl,rfl,rfl,ho3,hn3⟩
   refine Dn <| Ra 1 [1,1,1,1,0,0,1,0,1,0,0,0,1,0,1,0] [.c [1,1,1,1,0,0,1,0,1,0,0,0,1,0,1,1],.b 5,.l [1,1,1,1,0,0,1,0,1,0,0,0],.b 4,.c [1,1,1,1,0,0,1,0,1,1],.b 3,.l [1,1,1,1,0,0],.b 2] <| Rd 2 [0,1,2,6,7,8] [(0,.slice Aa0 v_data0.length ca0),(1,iv a1),(2,.func (.func 123) #[] #[]),(6,iv v_blockSize6),(7,iv v_b8),(8,iv v_b8)] <| Rr <| Rd 5 [0,1,2,6,7,8] [(0,.slice Aa0 v_data0.length ca0),(1,iv a1),(2,.func (.func 123) #[] #[]),(6,iv v_blockSize6),(7,iv v_b8),(8,iv (w64 (v_b8 + (w64 (2 * v_blockSize6)))))] <| Ad 2 [.c [1,1,1,1,0,0,1,0,1,0,0,0],.l [1,1,1,1,0,0,1,0,1,0,0,0],.b 4,.c [1,1,1,1,0,0,1,0,1,1],.b 3,.l [1,1,1,1,0,0],.b 2] <| Kp [0,1,2,6,7,8] [(0,.slice Aa0 v_data0.length ca0),(1,iv a1),(2,.func (.func 123) #[] #[]),(6,iv v_blockSize6),(7,iv v_b8),(8,iv (w64 (v_b8 + (w64 (2 * v_blockSize6)))))] ?_
   exact ihk _ _ _ a1 v_blockSize6 y3 _ _ v_b8 (w64 (v_b8 + (w64 (2 * v_blockSize6)))) hn3 hlv_data0 ho3 heq
  ·replace heq := bif_false hb3 heq
   refine Cf (decide (v_b8 ≤ a1)) hb3 <| Ad 3 [.c [1,1,1,1,0,0,1,0,1,1,0,0],.c [1,1,1,1,0,0,1,0,1,1,0,1],.c [1,1,1,1,0,0,1,0,1,1,1],.b 3,.l [1,1,1,1,0,0],.b 2] <| Kp [0,1,2,6,7] [(0,.slice Aa0 v_data0.length ca0),(1,iv a1),(2,.func (.func 123) #[] #[]),(6,iv v_blockSize6),(7,iv v_a7)] ?_
   exact he3 _ _ _ a1 v_data0 _ v_blockSize6 v_a7 hlv_data0 hov_data0 heq
theorem slices_stableCmpFunc_Blob.l2_c {w0 : World} {H : Hp} {F : List Ch} {r : (List Blob)} : ∀ (k : Nat),∀ (Aa0 : Option Addr) (ca0 : Nat) (la0 : Nat) (a1 : Int) (v_data0 : List Blob) (chv_data0 : Ch) (nv_data0 : Nat) (v_blockSize6 : Int) ,nv_data0 = v_data0.length → la0 = nv_data0 → SlOwn kBlob 47 H Aa0 ca0 v_data0 chv_data0 → slices_stableCmpFunc_Blob.l2 k a1 v_data0 v_blockSize6 = some r → RunH C149 (S149 F H Aa0 ca0 la0 r) H w0 [.c [1,1,1,1,0,0],.l [1,1,1,1,0,0],.b 2] [(0,.slice Aa0 nv_data0 ca0),(1,iv a1),(2,.func (.func 123) #[] #[]),(6,iv v_blockSize6)] H (chv_data0 :: F) := by
 intro k
 induction k with
 | zero => intro Aa0 ca0 la0 a1 v_data0 chv_data0 nv_data0 v_blockSize6 hnv_data0 hlv_data0 hov_data0 heq; exact nomatch (show (none : Option (List Blob)) = some r from heq)
 | succ k ihk =>
  intro Aa0 ca0 la0 a1 v_data0 chv_data0 nv_data0 v_blockSize6 hnv_data0 hlv_data0 hov_data0 heq
  subst hnv_data0
  rw [slices_stableCmpFunc_Blob.l2] at heq
  refine Ra 2 [1,1,1,1,0,0,0,0] [.c [1,1,1,1,0,0,0,1],.c [1,1,1,1,0,0,1],.l [1,1,1,1,0,0],.b 2] <| Rd 3 [0,1,2,6,30] [(0,.slice Aa0 v_data0.length ca0),(1,iv a1),(2,.func (.func 123) #[] #[]),(6,iv v_blockSize6),(30,.bool (decide (v_blockSize6 < a1)))] ?_
  rcases bool_cases (decide (v_blockSize6 < a1)) with hb1 | hb1
  ·replace heq := bif_true hb1 heq
   refine Ct (decide (v_blockSize6 < a1)) hb1 <| Ra 3 [1,1,1,1,0,0,1,0,0] [.c [1,1,1,1,0,0,1,0,1],.b 3,.l [1,1,1,1,0,0],.b 2] <| Rd 4 [0,1,2,6,7,8] [(0,.slice Aa0 v_data0.length ca0),(1,iv a1),(2,.func (.func 123) #[] #[]),(6,iv v_blockSize6),(7,iv 0),(8,iv (w64 (2 * v_blockSize6)))] <| Ad 3 [.c [1,1,1,1,0,0,1,0,1,0,0,0],.l [1,1,1,1,0,0,1,0,1,0,0,0],.b 4,.c [1,1,1,1,0,0,1,0,1,1],.b 3,.l [1,1,1,1,0,0],.b 2] <| Kp [0,1,2,6,7,8] [(0,.slice Aa0 v_data0.length ca0),(1,iv a1),(2,.func (.func 123) #[] #[]),(6,iv v_blockSize6),(7,iv 0),(8,iv (w64 (2 * v_blockSize6)))] ?_
   exact ((slices_stableCmpFunc_Blob.l5_c (e3 := slices_stableCmpFunc_Blob.e3 ((slices_stableCmpFunc_Blob.l2 k))) (slices_stableCmpFunc_Blob.e3_c (backl2 := (slices_stableCmpFunc_Blob.l2 k)) ihk)) big) _ _ _ a1 v_blockSize6 v_data0 _ _ 0 (w64 (2 * v_blockSize6)) rfl hlv_data0 hov_data0 heq
  ·replace heq := bif_false hb1 heq
   refine Cf (decide (v_blockSize6 < a1)) hb1 <| Ad 1 [] ?_
   obtain rfl := Option.some.inj heq
   exact RunH.done (by kernel_rfl) Tryd.func149 (v := .tuple #[]) (by kernel_rfl) ⟨chv_data0,rfl,rfl,rfl,hov_data0,(hlv_data0.trans rfl)⟩
theorem slices_stableCmpFunc_Blob.e1_c {w0 : World} {H : Hp} {F : List Ch} {r : (List Blob)} : ∀ (Aa0 : Option Addr) (ca0 : Nat) (la0 : Nat) (a1 : Int) (v_data0 : List Blob) (chv_data0 : Ch) (nv_data0 : Nat) (v_a7 : Int) ,nv_data0 = v_data0.length → la0 = nv_data0 → SlOwn kBlob 47 H Aa0 ca0 v_data0 chv_data0 → slices_stableCmpFunc_Blob.e1 a1 v_data0 v_a7 = some r → RunH C149 (S149 F H Aa0 ca0 la0 r) H w0 [.c [1,1,1,0],.c [1,1,1,1]] [(0,.slice Aa0 nv_data0 ca0),(1,iv a1),(2,.func (.func 123) #[] #[]),(6,iv 20),(7,iv v_a7)] H (chv_data0 :: F) := by
 intro Aa0 ca0 la0 a1 v_data0 chv_data0 nv_data0 v_a7 hnv_data0 hlv_data0 hov_data0 heq
 subst hnv_data0
 unfold slices_stableCmpFunc_Blob.e1 at heq
 refine Rr <| Rk 4 [0,1,2,6,23,24,25,26] [(0,.slice Aa0 v_data0.length ca0),(1,iv a1),(2,.func (.func 123) #[] #[]),(6,iv 20),(23,.slice Aa0 v_data0.length ca0),(24,iv v_a7),(25,iv a1),(26,.func (.func 123) #[] #[])] ?_
 obtain ⟨y1,hy1,heq⟩ := bind_some heq
 refine RgH.does (DoesH.call (d := 27) (g := 166) (args := #[.slice Aa0 v_data0.length ca0,.int .i64 v_a7,.int .i64 a1,.func (.func 123) #[] #[]]) (by kernel_rfl) (slices_insertionSortCmpFunc_Blob_c (a0 := v_data0) (a1 := v_a7) (a2 := a1) hov_data0 rfl hy1)) ?_
 rintro _ _ _ _ ⟨_,rfl,ch1,rfl,rfl,rfl,ho1,hn1⟩
 refine Dn <| Ad 2 [.c [1,1,1,1,0,0],.l [1,1,1,1,0,0],.b 2] <| Kp [0,1,2,6] [(0,.slice Aa0 v_data0.length ca0),(1,iv a1),(2,.func (.func 123) #[] #[]),(6,iv 20)] ?_
 exact ((slices_stableCmpFunc_Blob.l2_c) big) _ _ _ a1 y1 _ _ 20 hn1 hlv_data0 ho1 heq
theorem slices_stableCmpFunc_Blob.l6_c {w0 : World} {H : Hp} {F : List Ch} {r : (List Blob)} (e1 : Int → (List Blob) → Int → Option (List Blob))
  (he1 : ∀ (Aa0 : Option Addr) (ca0 : Nat) (la0 : Nat) (a1 : Int) (v_data0 : List Blob) (chv_data0 : Ch) (nv_data0 : Nat) (v_a7 : Int) ,nv_data0 = v_data0.length → la0 = nv_data0 → SlOwn kBlob 47 H Aa0 ca0 v_data0 chv_data0 → e1 a1 v_data0 v_a7 = some r → RunH C149 (S149 F H Aa0 ca0 la0 r) H w0 [.c [1,1,1,0],.c [1,1,1,1]] [(0,.slice Aa0 nv_data0 ca0),(1,iv a1),(2,.func (.func 123) #[] #[]),(6,iv 20),(7,iv v_a7)] H (chv_data0 :: F)) : ∀ (k : Nat),∀ (Aa0 : Option Addr) (ca0 : Nat) (la0 : Nat) (a1 : Int) (v_data0 : List Blob) (chv_data0 : Ch) (nv_data0 : Nat) (v_a7 : Int) (v_b8 : Int) ,nv_data0 = v_data0.length → la0 = nv_data0 → SlOwn kBlob 47 H Aa0 ca0 v_data0 chv_data0 → slices_stableCmpFunc_Blob.l6 e1 k a1 v_data0 v_a7 v_b8 = some r → RunH C149 (S149 F H Aa0 ca0 la0 r) H w0 [.c [1,1,0,0,0],.l [1,1,0,0,0],.b 0,.c [1,1,1]] [(0,.slice Aa0 nv_data0 ca0),(1,iv a1),(2,.func (.func 123) #[] #[]),(6,iv 20),(7,iv v_a7),(8,iv v_b8)] H (chv_data0 :: F) := by
 intro k
 induction k with
 | zero => intro Aa0 ca0 la0 a1 v_data0 chv_data0 nv_data0 v_a7 v_b8 hnv_data0 hlv_data0 hov_data0 heq; exact nomatch (show (none : Option (List Blob)) = some r from heq)
 | succ k ihk =>
  intro Aa0 ca0 la0 a1 v_data0 chv_data0 nv_data0 v_a7 v_b8 hnv_data0 hlv_data0 hov_data0 heq
  subst hnv_data0
  rw [slices_stableCmpFunc_Blob.l6] at heq
  refine Ra 2 [1,1,0,0,0,0,0] [.c [1,1,0,0,0,0,1],.c [1,1,0,0,0,1],.l [1,1,0,0,0],.b 0,.c [1,1,1]] <| Rd 3 [0,1,2,6,7,8,13] [(0,.slice Aa0 v_data0.length ca0),(1,iv a1),(2,.func (.func 123) #[] #[]),(6,iv 20),(7,iv v_a7),(8,iv v_b8),(13,.bool (decide (v_b8 ≤ a1)))] ?_
  rcases bool_cases (decide (v_b8 ≤ a1)) with hb4 | hb4
  ·replace heq := bif_true hb4 heq
   refine Ct (decide (v_b8 ≤ a1)) hb4 <| Ra 3 [1,1,0,0,0,1,0,0] [.c [1,1,0,0,0,1,0,1],.b 1,.l [1,1,0,0,0],.b 0,.c [1,1,1]] <| Rk 4 [0,1,2,6,8,14,15,16,17] [(0,.slice Aa0 v_data0.length ca0),(1,iv a1),(2,.func (.func 123) #[] #[]),(6,iv 20),(8,iv v_b8),(14,.slice Aa0 v_data0.length ca0),(15,iv v_a7),(16,iv v_b8),(17,.func (.func 123) #[] #[])] ?_
   obtain ⟨y4,hy4,heq⟩ := bind_some heq
   refine RgH.does (DoesH.call (d := 18) (g := 166) (args := #[.slice Aa0 v_data0.length ca0,.int .i64 v_a7,.int .i64 v_b8,.func (.func 123) #[] #[]]) (by kernel_rfl) (slices_insertionSortCmpFunc_Blob_c (a0 := v_data0) (a1 := v_a7) (a2 := v_b8) hov_data0 rfl hy4)) ?_
   rintro _ _ _ _ ⟨_,rfl,ch4,rfl,rfl,rfl,ho4,hn4⟩
   refine Dn <| Ra 1 [1,1,0,0,0,1,0,1,0] [.c [1,1,0,0,0,1,0,1,1],.b 1,.l [1,1,0,0,0],.b 0,.c [1,1,1]] <| Rd 2 [0,1,2,6,7,8] [(0,.slice Aa0 v_data0.length ca0),(1,iv a1),(2,.func (.func 123) #[] #[]),(6,iv 20),(7,iv v_b8),(8,iv v_b8)] <| Rr <| Rd 4 [0,1,2,6,7,8] [(0,.slice Aa0 v_data0.length ca0),(1,iv a1),(2,.func (.func 123) #[] #[]),(6,iv 20),(7,iv v_b8),(8,iv (w64 (v_b8 + 20)))] <| Ad 2 [.c [1,1,0,0,0],.l [1,1,0,0,0],.b 0,.c [1,1,1]] <| Kp [0,1,2,6,7,8] [(0,.slice Aa0 v_data0.length ca0),(1,iv a1),(2,.func (.func 123) #[] #[]),(6,iv 20),(7,iv v_b8),(8,iv (w64 (v_b8 + 20)))] ?_
   exact ihk _ _ _ a1 y4 _ _ v_b8 (w64 (v_b8 + 20)) hn4 hlv_data0 ho4 heq
  ·replace heq := bif_false hb4 heq
   refine Cf (decide (v_b8 ≤ a1)) hb4 <| Ad 2 [.c [1,1,1,0],.c [1,1,1,1]] <| Kp [0,1,2,6,7] [(0,.slice Aa0 v_data0.length ca0),(1,iv a1),(2,.func (.func 123) #[] #[]),(6,iv 20),(7,iv v_a7)] ?_
   exact he1 _ _ _ a1 v_data0 _ _ v_a7 rfl hlv_data0 hov_data0 heq
theorem slices_stableCmpFunc_Blob_c {w0 : World} {H : Hp} {F : List Ch} {a0 : List Blob} {Aa0 : Option Addr} {na0 : Nat} {ca0 : Nat} {cha0 : Ch} {a1 : Int} {r : (List Blob)} (hoa0 : SlOwn kBlob 47 H Aa0 ca0 a0 cha0) (hna0 : na0 = a0.length) (heq : slices_stableCmpFunc_Blob.f a0 a1 = some r) : CallsH Tryd.prog 149 #[.slice Aa0 na0 ca0,.int .i64 a1,.func (.func 123) #[] #[]] H w0 (cha0 :: F) (S149 F H Aa0 ca0 na0 r) := by
 refine calls_of_runH (F := C149) Tryd.func149 (by kernel_rfl) Tryd.ntmps149 (args := [.slice Aa0 na0 ca0,.int .i64 a1,.func (.func 123) #[] #[]]) (by kernel_rfl) ?_
 suffices key0 : ∀ (la0 : Nat),la0 = na0 → RunH C149 (S149 F H Aa0 ca0 la0 r) H w0 [.c []] (argL 0 [.slice Aa0 na0 ca0,.int .i64 a1,.func (.func 123) #[] #[]]) H (cha0 :: F) from key0 na0 rfl
 intro la0 hla0
 subst hna0
 unfold slices_stableCmpFunc_Blob.f at heq
 refine Ra 1 [0] [.c [1]] <| Rd 1 [0,1,2,6] [(0,.slice Aa0 a0.length ca0),(1,iv a1),(2,.func (.func 123) #[] #[]),(6,iv 20)] <| Ra 1 [1,0] [.c [1,1]] <| Rd 3 [0,1,2,6,7,8] [(0,.slice Aa0 a0.length ca0),(1,iv a1),(2,.func (.func 123) #[] #[]),(6,iv 20),(7,iv 0),(8,iv 20)] <| Ad 3 [.c [1,1,0,0,0],.l [1,1,0,0,0],.b 0,.c [1,1,1]] <| Kp [0,1,2,6,7,8] [(0,.slice Aa0 a0.length ca0),(1,iv a1),(2,.func (.func 123) #[] #[]),(6,iv 20),(7,iv 0),(8,iv 20)] ?_
 exact ((slices_stableCmpFunc_Blob.l6_c (e1 := slices_stableCmpFunc_Blob.e1) (slices_stableCmpFunc_Blob.e1_c)) big) _ _ _ a1 a0 _ _ 0 20 rfl hla0 hoa0 heq
noncomputable def C122 : Ctx := { P := Tryd.prog,f := 122,N := 9,c := bodyOf Tryd.f122 }
def S122 (F : List Ch) (H0 : Hp) (Aa0 : Option Addr) (ca0 : Nat) (la0 : Nat) (r : (List Blob)) (v : Value) (H : Hp) (cs : List Ch) : Prop := ∃ (ch0 : Ch),H0 = H ∧ v = .tuple #[] ∧ ch0 :: F = cs ∧ SlOwn kBlob 47 H Aa0 ca0 r ch0 ∧ la0 = r.length
theorem slices_SortStableFunc_Blob_c {w0 : World} {H : Hp} {F : List Ch} {a0 : List Blob} {Aa0 : Option Addr} {na0 : Nat} {ca0 : Nat} {cha0 : Ch} {r : (List Blob)} (hoa0 : SlOwn kBlob 47 H Aa0 ca0 a0 cha0) (hna0 : na0 = a0.length) (heq : slices_SortStableFunc_Blob.f a0 = some r) : CallsH Tryd.prog 122 #[.slice Aa0 na0 ca0,.func (.func 123) #[] #[]] H w0 (cha0 :: F) (S122 F H Aa0 ca0 na0 r) := by
 refine calls_of_runH (F := C122) Tryd.func122 (by kernel_rfl) Tryd.ntmps122 (args := [.slice Aa0 na0 ca0,.func (.func 123) #[] #[]]) (by kernel_rfl) ?_
 suffices key0 : ∀ (la0 : Nat),la0 = na0 → RunH C122 (S122 F H Aa0 ca0 la0 r) H w0 [.c []] (argL 0 [.slice Aa0 na0 ca0,.func (.func 123) #[] #[]]) H (cha0 :: F) from key0 na0 rfl
 intro la0 hla0
 subst hna0
 unfold slices_SortStableFunc_Blob.f at heq
 refine Rr <| Rk 4 [0,4,6,7] [(0,.slice Aa0 a0.length ca0),(4,.slice Aa0 a0.length ca0),(6,iv (a0.length : Int)),(7,.func (.func 123) #[] #[])] ?_
 obtain ⟨y1,hy1,heq⟩ := bind_some heq
 refine RgH.does (DoesH.call (d := 8) (g := 149) (args := #[.slice Aa0 a0.length ca0,.int .i64 (a0.length : Int),.func (.func 123) #[] #[]]) (by kernel_rfl) (slices_stableCmpFunc_Blob_c (a0 := a0) (a1 := (a0.length : Int)) hoa0 rfl hy1)) ?_
 rintro _ _ _ _ ⟨_,rfl,ch1,rfl,rfl,rfl,ho1,hn1⟩
 refine Dn ?_
 obtain rfl := Option.some.inj heq
 exact RunH.done (by kernel_rfl) Tryd.func122 (v := .tuple #[]) (by kernel_rfl) ⟨ch1,rfl,rfl,rfl,ho1,(hla0.trans hn1)⟩
noncomputable def C84 : Ctx := { P := Tryd.prog,f := 84,N := 14,c := bodyOf Tryd.f84 }
def S84 (F : List Ch) (H0 : Hp) (r : (List Blob)) (v : Value) (H : Hp) (cs : List Ch) : Prop := ∃ (A0 : Option Addr) (c0 : Nat) (ch0 : Ch),H0 = H ∧ v = .slice A0 r.length c0 ∧ ch0 :: F = cs ∧ SlOwn kBlob 47 H A0 c0 r ch0
theorem cache_leaving_c {w0 : World} {H : Hp} {F : List Ch} {a0 : Cache} {Aa0_2 : Option Addr} {na0_2 : Nat} {ca0_2 : Nat} {Aa0_3 : Option Addr} {na0_3 : Nat} {ca0_3 : Nat} {a1 : Int} {r : (List Blob)} (hra0_2 : Rw kBlob H F Aa0_2 a0.Blobs) (hca0_2 : na0_2 ≤ ca0_2) (hna0_2 : na0_2 = a0.Blobs.length) (hra0_3 : Rw kEntry H F Aa0_3 a0.Entries) (hca0_3 : na0_3 ≤ ca0_3) (hna0_3 : na0_3 = a0.Entries.length) (heq : cache_leaving.f a0 a1 = some r) : CallsH Tryd.prog 84 #[.agg #[.int .i64 a0.Room,.int .i64 a0.Lease,.slice Aa0_2 na0_2 ca0_2,.slice Aa0_3 na0_3 ca0_3],.int .i64 a1] H w0 (F) (S84 F H r) := by
 refine calls_of_runH (F := C84) Tryd.func84 (by kernel_rfl) Tryd.ntmps84 (args := [.agg #[.int .i64 a0.Room,.int .i64 a0.Lease,.slice Aa0_2 na0_2 ca0_2,.slice Aa0_3 na0_3 ca0_3],.int .i64 a1]) (by kernel_rfl) ?_
 subst hna0_2
 subst hna0_3
 unfold cache_leaving.f at heq
 refine Ra 1 [0] [.c [1]] ?_
 refine RgH.does (DoesH.new (d := 2) (v := fun g => .pointer (some ⟨g,0,none⟩)) (o := fun g => .cells #[.int .i64 a0.Room,.int .i64 a0.Lease,.slice Aa0_2 a0.Blobs.length ca0_2,.slice Aa0_3 a0.Entries.length ca0_3] 25 (0,0)) (fun g => by kernel_rfl)) ?_
 rintro _ _ _ _ ⟨g1,rfl,rfl,rfl⟩
 refine RgH.does (DoesH.new (d := 3) (v := fun g => .pointer (some ⟨g,0,none⟩)) (o := fun g => .cells #[.int .i64 a1] 3 (0,0)) (fun g => by kernel_rfl)) ?_
 rintro _ _ _ _ ⟨g2,rfl,rfl,rfl⟩
 refine Rd 3 [2,3] [(2,pg g1 0),(3,pg g2 0)] <| Ra 1 [1,0] [.c [1,1]] <| Rv 2 [3,7] [.slice Aa0_2 a0.Blobs.length ca0_2] [.load ⟨g1,2,none⟩ (.slice Aa0_2 a0.Blobs.length ca0_2)] [(3,pg g2 0),(7,.slice Aa0_2 a0.Blobs.length ca0_2)] (fun w hh => (hh.box 1 rfl rfl)) ?_
 obtain ⟨y1,hy1,heq⟩ := bind_some heq
 refine RgH.does (DoesH.call (d := 8) (g := 55) (args := #[.slice Aa0_2 a0.Blobs.length ca0_2]) (by kernel_rfl) (slices_Clone_Blob_c (a0 := a0.Blobs) (hra0_2.wk (fun _ h => (.tail _ (.tail _ h)))) hca0_2 rfl hy1)) ?_
 rintro _ _ _ _ ⟨_,rfl,A1,c1,ch1,rfl,rfl,rfl,ho1⟩
 refine Rk 4 [8,9] [(8,.slice A1 y1.length c1),(9,.func (.func 121) #[] #[.pointer (some ⟨g2,0,none⟩)])] ?_
 obtain ⟨y2,hy2,heq⟩ := bind_some heq
 refine RgH.does (DoesH.call (d := 10) (g := 72) (args := #[.slice A1 y1.length c1,.func (.func 121) #[] #[.pointer (some ⟨g2,0,none⟩)]]) (by kernel_rfl) (slices_DeleteFunc_Blob_3_c (a0 := y1) (a1q0 := a1) ho1 rfl (.inr (.head _)) hy2)) ?_
 rintro _ _ _ _ ⟨_,rfl,A2,c2,ch2,rfl,rfl,rfl,ho2⟩
 refine Rd 6 [5] [(5,.slice A2 y2.length c2)] <| Ra 1 [1,1,0] [.c [1,1,1]] <| Rk 1 [5,11] [(5,.slice A2 y2.length c2),(11,.slice A2 y2.length c2)] ?_
 obtain ⟨y3,hy3,heq⟩ := bind_some heq
 refine RgH.does (DoesH.call (d := 12) (g := 122) (args := #[.slice A2 y2.length c2,.func (.func 123) #[] #[]]) (by kernel_rfl) (slices_SortStableFunc_Blob_c (a0 := y2) ho2 rfl hy3)) ?_
 rintro _ _ _ _ ⟨_,rfl,ch3,rfl,rfl,rfl,ho3,hn1⟩
 refine Dn <| Ra 1 [1,1,1,0] [.c [1,1,1,1]] <| Rd 2 [4] [(4,.slice A2 y2.length c2)] ?_
 obtain rfl := Option.some.inj heq
 refine RunH.pick 3 [0] (cs' := ch3 :: F) (by kernel_rfl) rfl ?_
 exact RunH.done (by kernel_rfl) Tryd.func84 (v := .slice A2 y2.length c2) (by kernel_rfl) ⟨A2,c2,ch3,rfl,(by first | rfl | exact congrArg (fun q => Value.slice _ q _) hn1 | (rw [hn1]) | (simp only [← hn1])),rfl,ho3⟩
noncomputable def C87 : Ctx := { P := Tryd.prog,f := 87,N := 6,c := bodyOf Tryd.f87 }
def S87 (F : List Ch) (H0 : Hp) (r : Int) (v : Value) (H : Hp) (cs : List Ch) : Prop := H0 = H ∧ v = .int .i64 r ∧ F = cs
theorem cache_sumOf_c {w0 : World} {H : Hp} {F : List Ch} {a0 : List Blob} {Aa0 : Option Addr} {na0 : Nat} {ca0 : Nat} {r : Int} (hra0 : Rw kBlob H F Aa0 a0) (hca0 : na0 ≤ ca0) (hna0 : na0 = a0.length) (heq : cache_sumOf.f a0 = some r) : CallsH Tryd.prog 87 #[.slice Aa0 na0 ca0] H w0 (F) (S87 F H r) := by
 refine calls_of_runH (F := C87) Tryd.func87 (by kernel_rfl) Tryd.ntmps87 (args := [.slice Aa0 na0 ca0]) (by kernel_rfl) ?_
 subst hna0
 unfold cache_sumOf.f at heq
 refine Ra 1 [0] [.c [1]] <| Rd 1 [0] [(0,.slice Aa0 a0.length ca0)] <| Ra 1 [1,0] [.c [1,1]] <| Rk 2 [4] [(4,.agg #[.int .i64 0,.int .i64 0,.slice Aa0 a0.length ca0,.slice none 0 0])] ?_
 obtain ⟨y1,hy1,heq⟩ := bind_some heq
 refine RgH.does (DoesH.call (d := 5) (g := 66) (args := #[.agg #[.int .i64 0,.int .i64 0,.slice Aa0 a0.length ca0,.slice none 0 0]]) (by kernel_rfl) (cache_used_c (a0 := (⟨0,0,a0,([] : List Entry)⟩ : Cache)) hra0 hca0 rfl Rw.nil (Nat.le_refl _) rfl hy1)) ?_
 rintro _ _ _ _ ⟨_,rfl,rfl,rfl,rfl⟩
 refine Rd 4 [2] [(2,iv y1)] ?_
 obtain rfl := Option.some.inj heq
 exact RunH.done (by kernel_rfl) Tryd.func87 (v := .int .i64 y1) (by kernel_rfl) ⟨rfl,rfl,rfl⟩
noncomputable def C37 : Ctx := { P := Tryd.prog,f := 37,N := 17,c := bodyOf Tryd.f37 }
def S37 (F : List Ch) (H0 : Hp) (r : (List ByteArray) × Int) (v : Value) (H : Hp) (cs : List Ch) : Prop := ∃ (A0 : Option Addr) (c0 : Nat) (ch0 : Ch),H0 = H ∧ v = .tuple #[.slice A0 r.1.length c0,.int .i64 r.2] ∧ ch0 :: F = cs ∧ SlOwn Kd.string 9 H A0 c0 r.1 ch0
theorem cache_Next_c {w0 : World} {H : Hp} {F : List Ch} {a0 : Cache} {Aa0_2 : Option Addr} {na0_2 : Nat} {ca0_2 : Nat} {Aa0_3 : Option Addr} {na0_3 : Nat} {ca0_3 : Nat} {a1 : Int} {r : (List ByteArray) × Int} (hra0_2 : Rw kBlob H F Aa0_2 a0.Blobs) (hca0_2 : na0_2 ≤ ca0_2) (hna0_2 : na0_2 = a0.Blobs.length) (hra0_3 : Rw kEntry H F Aa0_3 a0.Entries) (hca0_3 : na0_3 ≤ ca0_3) (hna0_3 : na0_3 = a0.Entries.length) (heq : cache_Next.f a0 a1 = some r) : CallsH Tryd.prog 37 #[.agg #[.int .i64 a0.Room,.int .i64 a0.Lease,.slice Aa0_2 na0_2 ca0_2,.slice Aa0_3 na0_3 ca0_3],.int .i64 a1] H w0 (F) (S37 F H r) := by
 refine calls_of_runH (F := C37) Tryd.func37 (by kernel_rfl) Tryd.ntmps37 (args := [.agg #[.int .i64 a0.Room,.int .i64 a0.Lease,.slice Aa0_2 na0_2 ca0_2,.slice Aa0_3 na0_3 ca0_3],.int .i64 a1]) (by kernel_rfl) ?_
 subst hna0_2
 subst hna0_3
 unfold cache_Next.f at heq
 refine Ra 1 [0] [.c [1]] ?_
 refine RgH.does (DoesH.new (d := 2) (v := fun g => .pointer (some ⟨g,0,none⟩)) (o := fun g => .cells #[.int .i64 a0.Room,.int .i64 a0.Lease,.slice Aa0_2 a0.Blobs.length ca0_2,.slice Aa0_3 a0.Entries.length ca0_3] 25 (0,0)) (fun g => by kernel_rfl)) ?_
 rintro _ _ _ _ ⟨g1,rfl,rfl,rfl⟩
 refine Rd 3 [1,2] [(1,iv a1),(2,pg g1 0)] <| Ra 2 [1,0,0] [.c [1,0,1],.c [1,1]] <| Rv 2 [1,2,7,8] [.int .i64 a0.Room,.int .i64 a0.Lease,.slice Aa0_2 a0.Blobs.length ca0_2,.slice Aa0_3 a0.Entries.length ca0_3] [.load ⟨g1,0,none⟩ (.int .i64 a0.Room),.load ⟨g1,1,none⟩ (.int .i64 a0.Lease),.load ⟨g1,2,none⟩ (.slice Aa0_2 a0.Blobs.length ca0_2),.load ⟨g1,3,none⟩ (.slice Aa0_3 a0.Entries.length ca0_3)] [(1,iv a1),(2,pg g1 0),(7,.agg #[.int .i64 a0.Room,.int .i64 a0.Lease,.slice Aa0_2 a0.Blobs.length ca0_2,.slice Aa0_3 a0.Entries.length ca0_3]),(8,iv a1)] (fun w hh => ⟨(hh.box 0 rfl rfl),(hh.box 0 rfl rfl),(hh.box 0 rfl rfl),(hh.box 0 rfl rfl)⟩) ?_
 obtain ⟨y1,hy1,heq⟩ := bind_some heq
 refine RgH.does (DoesH.call (d := 9) (g := 69) (args := #[.agg #[.int .i64 a0.Room,.int .i64 a0.Lease,.slice Aa0_2 a0.Blobs.length ca0_2,.slice Aa0_3 a0.Entries.length ca0_3],.int .i64 a1]) (by kernel_rfl) (cache_checkAt_c (a0 := a0) (a1 := a1) (hra0_2.wk (fun _ h => (.tail _ h))) hca0_2 rfl (hra0_3.wk (fun _ h => (.tail _ h))) hca0_3 rfl hy1)) ?_
 rintro _ _ _ _ ⟨_,rfl,rfl,rfl,rfl⟩
 refine Rd 4 [1,2,6] [(1,iv a1),(2,pg g1 0),(6,iv y1)] <| Ra 1 [1,0,1,0] [.c [1,0,1,1],.c [1,1]] <| Rd 2 [1,2,6,11] [(1,iv a1),(2,pg g1 0),(6,iv y1),(11,.bool (y1 != 0))] ?_
 rcases bool_cases (y1 != 0) with hb1 | hb1
 ·replace heq := bif_true hb1 heq
  refine Ct (y1 != 0) hb1 <| Ra 1 [1,0,1,1,0,0] [.c [1,0,1,1,0,1],.c [1,1]] <| Rd 3 [4,5] [(4,.slice none 0 0),(5,iv y1)] <| RunH.nilc ?_
  have ho1 : SlOwn Kd.string 9 H none 0 ([] : List ByteArray) none := SlOwn.nil
  obtain rfl := Option.some.inj heq
  refine RunH.pick 2 [0] (cs' := none :: F) (by kernel_rfl) rfl ?_
  exact RunH.done (by kernel_rfl) Tryd.func37 (v := .tuple #[.slice none 0 0,.int .i64 y1]) (by kernel_rfl) ⟨none,0,none,rfl,rfl,rfl,ho1⟩
 ·replace heq := bif_false hb1 heq
  refine Cf (y1 != 0) hb1 <| Ra 2 [1,1,0] [.c [1,1,1]] <| Rv 2 [13,14] [.int .i64 a0.Room,.int .i64 a0.Lease,.slice Aa0_2 a0.Blobs.length ca0_2,.slice Aa0_3 a0.Entries.length ca0_3] [.load ⟨g1,0,none⟩ (.int .i64 a0.Room),.load ⟨g1,1,none⟩ (.int .i64 a0.Lease),.load ⟨g1,2,none⟩ (.slice Aa0_2 a0.Blobs.length ca0_2),.load ⟨g1,3,none⟩ (.slice Aa0_3 a0.Entries.length ca0_3)] [(13,.agg #[.int .i64 a0.Room,.int .i64 a0.Lease,.slice Aa0_2 a0.Blobs.length ca0_2,.slice Aa0_3 a0.Entries.length ca0_3]),(14,iv a1)] (fun w hh => ⟨(hh.box 0 rfl rfl),(hh.box 0 rfl rfl),(hh.box 0 rfl rfl),(hh.box 0 rfl rfl)⟩) ?_
  obtain ⟨y2,hy2,heq⟩ := bind_some heq
  refine RgH.does (DoesH.call (d := 15) (g := 84) (args := #[.agg #[.int .i64 a0.Room,.int .i64 a0.Lease,.slice Aa0_2 a0.Blobs.length ca0_2,.slice Aa0_3 a0.Entries.length ca0_3],.int .i64 a1]) (by kernel_rfl) (cache_leaving_c (a0 := a0) (a1 := a1) (hra0_2.wk (fun _ h => (.tail _ h))) hca0_2 rfl (hra0_3.wk (fun _ h => (.tail _ h))) hca0_3 rfl hy2)) ?_
  rintro _ _ _ _ ⟨_,rfl,A1,c1,ch1,rfl,rfl,rfl,ho2⟩
  obtain ⟨y3,hy3,heq⟩ := bind_some heq
  refine RgH.does (DoesH.call (d := 16) (g := 71) (args := #[.slice A1 y2.length c1]) (by kernel_rfl) (cache_digestsOf_c (a0 := y2) (ho2.rw (.head _)) ho2.cap rfl hy3)) ?_
  rintro _ _ _ _ ⟨_,rfl,A2,c2,ch2,rfl,rfl,rfl,ho3⟩
  refine Rd 6 [4,5] [(4,.slice A2 y3.length c2),(5,iv 0)] ?_
  obtain rfl := Option.some.inj heq
  refine RunH.pick 3 [0] (cs' := ch2 :: F) (by kernel_rfl) rfl ?_
  exact RunH.done (by kernel_rfl) Tryd.func37 (v := .tuple #[.slice A2 y3.length c2,.int .i64 0]) (by kernel_rfl) ⟨A2,c2,ch2,rfl,rfl,rfl,ho3⟩
noncomputable def C85 : Ctx := { P := Tryd.prog,f := 85,N := 26,c := bodyOf Tryd.f85 }
def S85 (F : List Ch) (H0 : Hp) (r : Int) (v : Value) (H : Hp) (cs : List Ch) : Prop := H0 = H ∧ v = .int .i64 r ∧ F = cs
theorem smithyardref7_entry.e1_c {w0 : World} {H : Hp} {F : List Ch} {r : Int} : smithyardref7_entry.e1 = some r → RunH C85 (S85 F H r) H w0 [.c [1,1,0],.c [1,1,1]] [] H (F) := by
 intro   heq
 unfold smithyardref7_entry.e1 at heq
 refine Rr <| Rd 1 [4] [(4,iv (-1))] ?_
 obtain rfl := Option.some.inj heq
 exact RunH.done (by kernel_rfl) Tryd.func85 (v := .int .i64 (-1)) (by kernel_rfl) ⟨rfl,rfl,rfl⟩
theorem smithyardref7_entry.l2_c {w0 : World} {H : Hp} {F : List Ch} {r : Int} (e1 : Option Int)
  (he1 : e1 = some r → RunH C85 (S85 F H r) H w0 [.c [1,1,0],.c [1,1,1]] [] H (F)) : ∀ (k : Nat),∀ (ga0 : Nat) (a0 : Cache) (Aa0_2 : Option Addr) (ca0_2 : Nat) (Aa0_3 : Option Addr) (ca0_3 : Nat) (a1 : ByteArray) (v_i5 : Int) ,Rw kBlob H F Aa0_2 a0.Blobs → a0.Blobs.length ≤ ca0_2 → Rw kEntry H F Aa0_3 a0.Entries → a0.Entries.length ≤ ca0_3 → InG H F ga0 (.cells #[.int .i64 a0.Room,.int .i64 a0.Lease,.slice Aa0_2 a0.Blobs.length ca0_2,.slice Aa0_3 a0.Entries.length ca0_3] 25 (0,0)) → smithyardref7_entry.l2 e1 k a0 a1 v_i5 = some r → RunH C85 (S85 F H r) H w0 [.c [1,0,1,0,0],.l [1,0,1,0,0],.b 0,.c [1,1]] [(0,pg ga0 0),(1,.string a1),(5,iv v_i5)] H (F) := by
 intro k
 induction k with
 | zero => intro ga0 a0 Aa0_2 ca0_2 Aa0_3 ca0_3 a1 v_i5 hra0_2 hca0_2 hra0_3 hca0_3 hga0 heq; exact nomatch (show (none : Option Int) = some r from heq)
 | succ k ihk =>
  intro ga0 a0 Aa0_2 ca0_2 Aa0_3 ca0_3 a1 v_i5 hra0_2 hca0_2 hra0_3 hca0_3 hga0 heq
  rw [smithyardref7_entry.l2] at heq
  refine Ra 2 [1,0,1,0,0,0,0] [.c [1,0,1,0,0,0,1],.c [1,0,1,0,0,1],.l [1,0,1,0,0],.b 0,.c [1,1]] <| Rw' 7 [0,1,5,12] [.slice Aa0_3 a0.Entries.length ca0_3] [.load ⟨ga0,3,none⟩ (.slice Aa0_3 a0.Entries.length ca0_3)] [(0,pg ga0 0),(1,.string a1),(5,iv v_i5),(12,.bool (decide (v_i5 < (a0.Entries.length : Int))))] (fun w hh => (hga0.cell (hh.drop 0) rfl)) ?_
  rcases bool_cases (decide (v_i5 < (a0.Entries.length : Int))) with hb1 | hb1
  ·replace heq := bif_true hb1 heq
   refine Ct (decide (v_i5 < (a0.Entries.length : Int))) hb1 <| Ra 4 [1,0,1,0,0,1,0,0,0] [.c [1,0,1,0,0,1,0,0,1],.b 1,.c [1,0,1,0,0,1,1],.l [1,0,1,0,0],.b 0,.c [1,1]] ?_
   obtain ⟨x1,hx1,heq⟩ := bind_some heq
   obtain ⟨ha1,cs1,hK1,hcc1⟩ := hra0_3.get hx1
   obtain ⟨A1,c1,rfl,hc1,hr1⟩ := kEntry_open hK1
   refine Rw' 10 [0,1,5,24] [.slice Aa0_3 a0.Entries.length ca0_3,.string x1.Key] [.load ⟨ga0,3,none⟩ (.slice Aa0_3 a0.Entries.length ca0_3),.need (Aa0_3 = some (adr Aa0_3) ∧ (0 : Int) ≤ v_i5 ∧ v_i5 < ((a0.Entries.length : Nat) : Int)),.load (((adr Aa0_3).add (v_i5.toNat * 3)).add 0) (.string x1.Key)] [(0,pg ga0 0),(1,.string a1),(5,iv v_i5),(24,.bool (sEq x1.Key a1))] (fun w hh => ⟨(hga0.cell (hh.drop 0) rfl),⟨ha1,(at?_some hx1).1,(at?_some hx1).2.1⟩,(hcc1 _ _ (hh.drop 0) 0 _ rfl)⟩) ?_
   rcases bool_cases (sEq x1.Key a1) with hb2 | hb2
   ·replace heq := bif_true hb2 heq
    refine Ct (sEq x1.Key a1) hb2 <| Ra 1 [1,0,1,0,0,1,0,0,1,0,0] [.c [1,0,1,0,0,1,0,0,1,0,1],.b 1,.c [1,0,1,0,0,1,1],.l [1,0,1,0,0],.b 0,.c [1,1]] <| Rd 2 [4] [(4,iv v_i5)] ?_
    obtain rfl := Option.some.inj heq
    exact RunH.done (by kernel_rfl) Tryd.func85 (v := .int .i64 v_i5) (by kernel_rfl) ⟨rfl,rfl,rfl⟩
   ·replace heq := bif_false hb2 heq
    refine Cf (sEq x1.Key a1) hb2 <| Ra 2 [1,0,1,0,0,1,1] [.l [1,0,1,0,0],.b 0,.c [1,1]] <| Rd 3 [0,1,5] [(0,pg ga0 0),(1,.string a1),(5,iv (w64 (v_i5 + 1)))] <| Ad 1 [.c [1,0,1,0,0],.l [1,0,1,0,0],.b 0,.c [1,1]] <| Kp [0,1,5] [(0,pg ga0 0),(1,.string a1),(5,iv (w64 (v_i5 + 1)))] ?_
    exact ihk _ a0 _ _ _ _ a1 (w64 (v_i5 + 1)) hra0_2 hca0_2 hra0_3 hca0_3 hga0 heq
  ·replace heq := bif_false hb1 heq
   refine Cf (decide (v_i5 < (a0.Entries.length : Int))) hb1 <| Ad 2 [.c [1,1,0],.c [1,1,1]] <| Kp [] [] ?_
   exact he1 heq
theorem smithyardref7_entry_c {w0 : World} {H : Hp} {F : List Ch} {ga0 : Nat} {a0 : Cache} {Aa0_2 : Option Addr} {na0_2 : Nat} {ca0_2 : Nat} {Aa0_3 : Option Addr} {na0_3 : Nat} {ca0_3 : Nat} {a1 : ByteArray} {r : Int} (hra0_2 : Rw kBlob H F Aa0_2 a0.Blobs) (hca0_2 : na0_2 ≤ ca0_2) (hna0_2 : na0_2 = a0.Blobs.length) (hra0_3 : Rw kEntry H F Aa0_3 a0.Entries) (hca0_3 : na0_3 ≤ ca0_3) (hna0_3 : na0_3 = a0.Entries.length) (hga0 : InG H F ga0 (.cells #[.int .i64 a0.Room,.int .i64 a0.Lease,.slice Aa0_2 na0_2 ca0_2,.slice Aa0_3 na0_3 ca0_3] 25 (0,0))) (heq : smithyardref7_entry.f a0 a1 = some r) : CallsH Tryd.prog 85 #[.pointer (some ⟨ga0,0,none⟩),.string a1] H w0 (F) (S85 F H r) := by
 refine calls_of_runH (F := C85) Tryd.func85 (by kernel_rfl) Tryd.ntmps85 (args := [.pointer (some ⟨ga0,0,none⟩),.string a1]) (by kernel_rfl) ?_
 subst hna0_2
 subst hna0_3
 unfold smithyardref7_entry.f at heq
 refine Ra 1 [0] [.c [1]] <| Rd 1 [0,1] [(0,pg ga0 0),(1,.string a1)] <| Ra 2 [1,0,0] [.c [1,0,1],.c [1,1]] <| Rd 1 [0,1,5] [(0,pg ga0 0),(1,.string a1),(5,iv 0)] <| Ad 2 [.c [1,0,1,0,0],.l [1,0,1,0,0],.b 0,.c [1,1]] <| Kp [0,1,5] [(0,pg ga0 0),(1,.string a1),(5,iv 0)] ?_
 exact ((smithyardref7_entry.l2_c (e1 := smithyardref7_entry.e1) (smithyardref7_entry.e1_c)) big) _ a0 _ _ _ _ a1 0 hra0_2 hca0_2 hra0_3 hca0_3 hga0 heq
noncomputable def C38 : Ctx := { P := Tryd.prog,f := 38,N := 31,c := bodyOf Tryd.f38 }
def S38 (F : List Ch) (H0 : Hp) (r : Bool × Int) (v : Value) (H : Hp) (cs : List Ch) : Prop := H0 = H ∧ v = .tuple #[.bool r.1,.int .i64 r.2] ∧ F = cs
theorem smithyardref7_Whole_c {w0 : World} {H : Hp} {F : List Ch} {a0 : Cache} {Aa0_2 : Option Addr} {na0_2 : Nat} {ca0_2 : Nat} {Aa0_3 : Option Addr} {na0_3 : Nat} {ca0_3 : Nat} {a1 : ByteArray} {r : Bool × Int} (hra0_2 : Rw kBlob H F Aa0_2 a0.Blobs) (hca0_2 : na0_2 ≤ ca0_2) (hna0_2 : na0_2 = a0.Blobs.length) (hra0_3 : Rw kEntry H F Aa0_3 a0.Entries) (hca0_3 : na0_3 ≤ ca0_3) (hna0_3 : na0_3 = a0.Entries.length) (heq : smithyardref7_Whole.f a0 a1 = some r) : CallsH Tryd.prog 38 #[.agg #[.int .i64 a0.Room,.int .i64 a0.Lease,.slice Aa0_2 na0_2 ca0_2,.slice Aa0_3 na0_3 ca0_3],.string a1] H w0 (F) (S38 F H r) := by
 refine calls_of_runH (F := C38) Tryd.func38 (by kernel_rfl) Tryd.ntmps38 (args := [.agg #[.int .i64 a0.Room,.int .i64 a0.Lease,.slice Aa0_2 na0_2 ca0_2,.slice Aa0_3 na0_3 ca0_3],.string a1]) (by kernel_rfl) ?_
 subst hna0_2
 subst hna0_3
 unfold smithyardref7_Whole.f at heq
 refine Ra 1 [0] [.c [1]] ?_
 refine RgH.does (DoesH.new (d := 2) (v := fun g => .pointer (some ⟨g,0,none⟩)) (o := fun g => .cells #[.int .i64 a0.Room,.int .i64 a0.Lease,.slice Aa0_2 a0.Blobs.length ca0_2,.slice Aa0_3 a0.Entries.length ca0_3] 25 (0,0)) (fun g => by kernel_rfl)) ?_
 rintro _ _ _ _ ⟨g1,rfl,rfl,rfl⟩
 refine Rd 3 [1,2] [(1,.string a1),(2,pg g1 0)] <| Ra 2 [1,0,0] [.c [1,0,1],.c [1,1]] <| Rv 1 [1,2,8] [.int .i64 a0.Room,.int .i64 a0.Lease,.slice Aa0_2 a0.Blobs.length ca0_2,.slice Aa0_3 a0.Entries.length ca0_3] [.load ⟨g1,0,none⟩ (.int .i64 a0.Room),.load ⟨g1,1,none⟩ (.int .i64 a0.Lease),.load ⟨g1,2,none⟩ (.slice Aa0_2 a0.Blobs.length ca0_2),.load ⟨g1,3,none⟩ (.slice Aa0_3 a0.Entries.length ca0_3)] [(1,.string a1),(2,pg g1 0),(8,.agg #[.int .i64 a0.Room,.int .i64 a0.Lease,.slice Aa0_2 a0.Blobs.length ca0_2,.slice Aa0_3 a0.Entries.length ca0_3])] (fun w hh => ⟨(hh.box 0 rfl rfl),(hh.box 0 rfl rfl),(hh.box 0 rfl rfl),(hh.box 0 rfl rfl)⟩) ?_
 obtain ⟨y1,hy1,heq⟩ := bind_some heq
 refine RgH.does (DoesH.call (d := 9) (g := 23) (args := #[.agg #[.int .i64 a0.Room,.int .i64 a0.Lease,.slice Aa0_2 a0.Blobs.length ca0_2,.slice Aa0_3 a0.Entries.length ca0_3]]) (by kernel_rfl) (smithyardref7_CheckCache_c (a0 := a0) (hra0_2.wk (fun _ h => (.tail _ h))) hca0_2 rfl (hra0_3.wk (fun _ h => (.tail _ h))) hca0_3 rfl hy1)) ?_
 rintro _ _ _ _ ⟨_,rfl,rfl,rfl,rfl⟩
 refine Rd 3 [1,2,6] [(1,.string a1),(2,pg g1 0),(6,iv y1)] <| Ra 1 [1,0,1,0] [.c [1,0,1,1],.c [1,1]] <| Rd 2 [1,2,6,11] [(1,.string a1),(2,pg g1 0),(6,iv y1),(11,.bool (y1 != 0))] ?_
 rcases bool_cases (y1 != 0) with hb1 | hb1
 ·replace heq := bif_true hb1 heq
  refine Ct (y1 != 0) hb1 <| Ra 1 [1,0,1,1,0,0] [.c [1,0,1,1,0,1],.c [1,1]] <| Rd 3 [4,5] [(4,.bool false),(5,iv y1)] ?_
  obtain rfl := Option.some.inj heq
  refine RunH.pick 1 [] (cs' := F) (by kernel_rfl) rfl ?_
  exact RunH.done (by kernel_rfl) Tryd.func38 (v := .tuple #[.bool false,.int .i64 y1]) (by kernel_rfl) ⟨rfl,rfl,rfl⟩
 ·replace heq := bif_false hb1 heq
  refine Cf (y1 != 0) hb1 <| Ra 3 [1,1,0,0] [.c [1,1,0,1],.c [1,1,1]] <| Rk 1 [1,2,13] [(1,.string a1),(2,pg g1 0),(13,.string a1)] ?_
  obtain ⟨y2,hy2,heq⟩ := bind_some heq
  refine RgH.does (DoesH.call (d := 14) (g := 63) (args := #[.string a1]) (by kernel_rfl) (smithyardref1_IsDigest_c (a0 := a1)  hy2)) ?_
  rintro _ _ _ _ ⟨_,rfl,rfl,rfl,rfl⟩
  refine Rd 3 [1,2,15] [(1,.string a1),(2,pg g1 0),(15,.bool (!y2))] ?_
  rcases bool_cases (!y2) with hb2 | hb2
  ·replace heq := bif_true hb2 heq
   refine Ct (!y2) hb2 <| Ra 1 [1,1,0,1,0,0] [.c [1,1,0,1,0,1],.c [1,1,1]] <| Rd 2 [4,5] [(4,.bool false),(5,iv 3)] ?_
   obtain rfl := Option.some.inj heq
   refine RunH.pick 1 [] (cs' := F) (by kernel_rfl) rfl ?_
   exact RunH.done (by kernel_rfl) Tryd.func38 (v := .tuple #[.bool false,.int .i64 3]) (by kernel_rfl) ⟨rfl,rfl,rfl⟩
  ·replace heq := bif_false hb2 heq
   refine Cf (!y2) hb2 <| Ra 2 [1,1,1,0] [.c [1,1,1,1]] <| Rk 1 [2,16] [(2,pg g1 0),(16,.string a1)] ?_
   obtain ⟨y3,hy3,heq⟩ := bind_some heq
   refine RgH.does (DoesH.call (d := 17) (g := 85) (args := #[.pointer (some ⟨g1,0,none⟩),.string a1]) (by kernel_rfl) (smithyardref7_entry_c (a0 := a0) (a1 := a1) (hra0_2.wk (fun _ h => (.tail _ h))) hca0_2 rfl (hra0_3.wk (fun _ h => (.tail _ h))) hca0_3 rfl (.inr (.head _)) hy3)) ?_
   rintro _ _ _ _ ⟨_,rfl,rfl,rfl,rfl⟩
   refine Rd 3 [2,7] [(2,pg g1 0),(7,iv y3)] <| Ad 1 [.c [1,1,1,1,0],.c [1,1,1,1,1]] ?_
   obtain ⟨t1,ht1,heq⟩ := bind_some heq
   have K3 : RunH C38 (S38 F H r) H w0 [.c [1,1,1,1,1]] [(4,.bool t1),(5,iv 0)] H (F) := by
    obtain rfl := Option.some.inj heq
    exact RunH.done (by kernel_rfl) Tryd.func38 (v := .tuple #[.bool t1,.int .i64 0]) (by kernel_rfl) ⟨rfl,rfl,rfl⟩
   replace heq := ht1
   refine Rr <| Rk 3 [20,2,7] [(20,.bool (decide (0 ≤ y3))),(2,pg g1 0),(7,iv y3)] ?_
   rcases bool_cases (decide (0 ≤ y3)) with hb3 | hb3
   ·replace heq := bif_true hb3 heq
    refine RgH.val1 (v' := .bool true) (congrArg Value.bool hb3) ?_
    obtain ⟨x1,hx1,heq⟩ := bind_some heq
    obtain ⟨ha1,cs1,hK1,hcc1⟩ := hra0_3.get hx1
    obtain ⟨A1,c1,rfl,hc1,hr1⟩ := kEntry_open hK1
    refine Rv 9 [2,20,26] [.slice Aa0_3 a0.Entries.length ca0_3,.slice A1 x1.Refs.length c1] [.load ⟨g1,3,none⟩ (.slice Aa0_3 a0.Entries.length ca0_3),.need (Aa0_3 = some (adr Aa0_3) ∧ (0 : Int) ≤ y3 ∧ y3 < ((a0.Entries.length : Nat) : Int)),.load (((adr Aa0_3).add (y3.toNat * 3)).add 1) (.slice A1 x1.Refs.length c1)] [(2,pg g1 0),(20,.bool true),(26,.slice A1 x1.Refs.length c1)] (fun w hh => ⟨(hh.box 0 rfl rfl),⟨ha1,(at?_some hx1).1,(at?_some hx1).2.1⟩,(hcc1 _ _ (hh.drop 1) 1 _ rfl)⟩) ?_
    obtain ⟨y4,hy4,heq⟩ := bind_some heq
    refine RgH.does (DoesH.call (d := 27) (g := 68) (args := #[.pointer (some ⟨g1,0,none⟩),.slice A1 x1.Refs.length c1]) (by kernel_rfl) (smithyardref7_missing_c (a0 := a0) (a1 := x1.Refs) (hra0_2.wk (fun _ h => (.tail _ h))) hca0_2 rfl (hra0_3.wk (fun _ h => (.tail _ h))) hca0_3 rfl (.inr (.head _)) (Rw.of hr1) hc1 rfl hy4)) ?_
    rintro _ _ _ _ ⟨_,rfl,A2,c2,ch1,rfl,rfl,rfl,ho1⟩
    refine Rk 15 [4,5] [(4,.bool ((y4.length : Int) == 0)),(5,iv 0)] ?_
    obtain rfl := Option.some.inj heq
    refine Kg [4,5] [(4,.bool ((y4.length : Int) == 0)),(5,iv 0)] ?_
    refine RgH.pick 2 [] (cs' := F) (by kernel_rfl) rfl ?_
    refine Dn ?_
    exact K3
   ·replace heq := bif_false hb3 heq
    refine RgH.val1 (v' := .bool false) (congrArg Value.bool hb3) ?_
    refine Rk 15 [4,5] [(4,.bool false),(5,iv 0)] ?_
    obtain rfl := Option.some.inj heq
    refine Kg [4,5] [(4,.bool false),(5,iv 0)] ?_
    refine RgH.pick 1 [] (cs' := F) (by kernel_rfl) rfl ?_
    refine Dn ?_
    exact K3
noncomputable def C90 : Ctx := { P := Tryd.prog,f := 90,N := 14,c := bodyOf Tryd.f90 }
def S90 (F : List Ch) (H0 : Hp) (r : Bool) (v : Value) (H : Hp) (cs : List Ch) : Prop := H0 = H ∧ v = .bool r ∧ F = cs
theorem smithyardref7_held_c {w0 : World} {H : Hp} {F : List Ch} {a0 : Blob} {a1 : Int} {r : Bool} (heq : smithyardref7_held.f a0 a1 = some r) : CallsH Tryd.prog 90 #[.agg #[.string a0.Digest,.int .i64 a0.Size,.int .i64 a0.Used,.int .i64 a0.Until,.int .i64 a0.Pins],.int .i64 a1] H w0 (F) (S90 F H r) := by
 refine calls_of_runH (F := C90) Tryd.func90 (by kernel_rfl) Tryd.ntmps90 (args := [.agg #[.string a0.Digest,.int .i64 a0.Size,.int .i64 a0.Used,.int .i64 a0.Until,.int .i64 a0.Pins],.int .i64 a1]) (by kernel_rfl) ?_
 unfold smithyardref7_held.f at heq
 refine Ra 1 [0] [.c [1]] ?_
 refine RgH.does (DoesH.new (d := 2) (v := fun g => .pointer (some ⟨g,0,none⟩)) (o := fun g => .cells #[.string a0.Digest,.int .i64 a0.Size,.int .i64 a0.Used,.int .i64 a0.Until,.int .i64 a0.Pins] 47 (0,0)) (fun g => by kernel_rfl)) ?_
 rintro _ _ _ _ ⟨g1,rfl,rfl,rfl⟩
 refine Rd 2 [1,2] [(1,iv a1),(2,pg g1 0)] <| Ad 1 [.c [1,0],.c [1,1]] ?_
 obtain ⟨t1,ht1,heq⟩ := bind_some heq
 have K2 : RunH C90 (S90 F H r) H w0 [.c [1,1]] [(4,.bool t1)] H (F) := by
  obtain rfl := Option.some.inj heq
  exact RunH.done (by kernel_rfl) Tryd.func90 (v := .bool t1) (by kernel_rfl) ⟨rfl,rfl,rfl⟩
 replace heq := ht1
 refine Rr <| Rv 4 [8,1,2] [.int .i64 a0.Pins] [.load ⟨g1,4,none⟩ (.int .i64 a0.Pins)] [(8,.bool (decide (0 < a0.Pins))),(1,iv a1),(2,pg g1 0)] (fun w hh => (hh.box 0 rfl rfl)) ?_
 rcases bool_cases (decide (0 < a0.Pins)) with hb1 | hb1
 ·replace heq := bif_true hb1 heq
  refine RgH.val1 (v' := .bool true) (congrArg Value.bool hb1) ?_
  refine Rk 10 [4] [(4,.bool true)] ?_
  obtain rfl := Option.some.inj heq
  refine Kg [4] [(4,.bool true)] ?_
  refine RgH.pick 1 [] (cs' := F) (by kernel_rfl) rfl ?_
  refine Dn ?_
  exact K2
 ·replace heq := bif_false hb1 heq
  refine RgH.val1 (v' := .bool false) (congrArg Value.bool hb1) ?_
  refine Rv 10 [4] [.int .i64 a0.Until] [.load ⟨g1,3,none⟩ (.int .i64 a0.Until)] [(4,.bool (decide (a1 < a0.Until)))] (fun w hh => (hh.box 0 rfl rfl)) ?_
  obtain rfl := Option.some.inj heq
  refine Kg [4] [(4,.bool (decide (a1 < a0.Until)))] ?_
  refine RgH.pick 1 [] (cs' := F) (by kernel_rfl) rfl ?_
  refine Dn ?_
  exact K2
noncomputable def C86 : Ctx := { P := Tryd.prog,f := 86,N := 77,c := bodyOf Tryd.f86 }
def S86 (F : List Ch) (H0 : Hp) (r : (List ByteArray)) (v : Value) (H : Hp) (cs : List Ch) : Prop := ∃ (A0 : Option Addr) (c0 : Nat) (ch0 : Ch),H0 = H ∧ v = .slice A0 r.length c0 ∧ ch0 :: F = cs ∧ SlOwn Kd.string 9 H A0 c0 r ch0
theorem smithyardref7_row.e2_c {w0 : World} {H : Hp} {F : List Ch} {r : (List ByteArray)} : ∀ (v_out10 : List ByteArray) (Av_out10 : Option Addr) (nv_out10 : Nat) (cv_out10 : Nat) (chv_out10 : Ch) ,SlOwn Kd.string 9 H Av_out10 cv_out10 v_out10 chv_out10 → nv_out10 = v_out10.length → smithyardref7_row.e2 v_out10 = some r → RunH C86 (S86 F H r) H w0 [.c [1,1,1,1,1,0],.c [1,1,1,1,1,1]] [(10,.slice Av_out10 nv_out10 cv_out10)] H (chv_out10 :: F) := by
 intro v_out10 Av_out10 nv_out10 cv_out10 chv_out10 hov_out10 hnv_out10 heq
 subst hnv_out10
 unfold smithyardref7_row.e2 at heq
 refine Rr <| Rd 2 [4] [(4,.slice Av_out10 v_out10.length cv_out10)] ?_
 obtain rfl := Option.some.inj heq
 exact RunH.done (by kernel_rfl) Tryd.func86 (v := .slice Av_out10 v_out10.length cv_out10) (by kernel_rfl) ⟨Av_out10,cv_out10,chv_out10,rfl,rfl,rfl,hov_out10⟩
theorem smithyardref7_row.l3_c {w0 : World} {H : Hp} {F : List Ch} {r : (List ByteArray)} (e2 : (List ByteArray) → Option (List ByteArray))
  (he2 : ∀ (v_out10 : List ByteArray) (Av_out10 : Option Addr) (nv_out10 : Nat) (cv_out10 : Nat) (chv_out10 : Ch) ,SlOwn Kd.string 9 H Av_out10 cv_out10 v_out10 chv_out10 → nv_out10 = v_out10.length → e2 v_out10 = some r → RunH C86 (S86 F H r) H w0 [.c [1,1,1,1,1,0],.c [1,1,1,1,1,1]] [(10,.slice Av_out10 nv_out10 cv_out10)] H (chv_out10 :: F)) : ∀ (k : Nat),∀ (v_l5 : List Blob) (Av_l5 : Option Addr) (cv_l5 : Nat) (chv_l5 : Ch) (v_out10 : List ByteArray) (Av_out10 : Option Addr) (nv_out10 : Nat) (cv_out10 : Nat) (chv_out10 : Ch) (v_i11 : Int) ,SlOwn kBlob 47 H Av_l5 cv_l5 v_l5 chv_l5 → SlOwn Kd.string 9 H Av_out10 cv_out10 v_out10 chv_out10 → nv_out10 = v_out10.length → smithyardref7_row.l3 e2 k v_l5 v_out10 v_i11 = some r → RunH C86 (S86 F H r) H w0 [.c [1,1,1,1,0,1,0,0],.l [1,1,1,1,0,1,0,0],.b 4,.c [1,1,1,1,1]] [(5,.slice Av_l5 v_l5.length cv_l5),(10,.slice Av_out10 nv_out10 cv_out10),(11,iv v_i11)] H (chv_out10 :: chv_l5 :: F) := by
 intro k
 induction k with
 | zero => intro v_l5 Av_l5 cv_l5 chv_l5 v_out10 Av_out10 nv_out10 cv_out10 chv_out10 v_i11 hov_l5 hov_out10 hnv_out10 heq; exact nomatch (show (none : Option (List ByteArray)) = some r from heq)
 | succ k ihk =>
  intro v_l5 Av_l5 cv_l5 chv_l5 v_out10 Av_out10 nv_out10 cv_out10 chv_out10 v_i11 hov_l5 hov_out10 hnv_out10 heq
  subst hnv_out10
  rw [smithyardref7_row.l3] at heq
  refine Ra 2 [1,1,1,1,0,1,0,0,0,0] [.c [1,1,1,1,0,1,0,0,0,1],.c [1,1,1,1,0,1,0,0,1],.l [1,1,1,1,0,1,0,0],.b 4,.c [1,1,1,1,1]] <| Rd 4 [5,10,11,65] [(5,.slice Av_l5 v_l5.length cv_l5),(10,.slice Av_out10 v_out10.length cv_out10),(11,iv v_i11),(65,.bool (decide (v_i11 < (v_l5.length : Int))))] ?_
  rcases bool_cases (decide (v_i11 < (v_l5.length : Int))) with hb1 | hb1
  ·replace heq := bif_true hb1 heq
   refine Ct (decide (v_i11 < (v_l5.length : Int))) hb1 <| Ra 3 [1,1,1,1,0,1,0,0,1,0,0] [.b 5,.c [1,1,1,1,0,1,0,0,1,1],.l [1,1,1,1,0,1,0,0],.b 4,.c [1,1,1,1,1]] ?_
   obtain ⟨x1,hx1,heq⟩ := bind_some heq
   obtain ⟨ha1,cs1,hK1,hcc1⟩ := hov_l5.get hx1
   obtain ⟨rfl⟩ := kBlob_open hK1
   refine Rv 6 [5,11,68,73] [.string x1.Digest] [.need (Av_l5 = some (adr Av_l5) ∧ (0 : Int) ≤ v_i11 ∧ v_i11 < ((v_l5.length : Nat) : Int)),.load (((adr Av_l5).add (v_i11.toNat * 5)).add 0) (.string x1.Digest)] [(5,.slice Av_l5 v_l5.length cv_l5),(11,iv v_i11),(68,.slice Av_out10 v_out10.length cv_out10),(73,.string x1.Digest)] (fun w hh => ⟨⟨ha1,(at?_some hx1).1,(at?_some hx1).2.1⟩,(hcc1 _ (hh.chin 1 rfl) 0 _ rfl)⟩) ?_
   refine RgH.does (DoesH.new (d := 74) (v := fun g => .slice (some ⟨g,0,none⟩) 1 1) (o := fun g => .cells #[.string x1.Digest] 9 (0,0)) (fun g => by kernel_rfl)) ?_
   rintro _ _ _ _ ⟨g1,rfl,rfl,rfl⟩
   have ho1 : SlOwn Kd.string 9 H (some ⟨g1,0,none⟩) 1 ([x1.Digest] : List ByteArray) (some (g1,.cells #[.string x1.Digest] 9 (0,0))) := SlOwn.lit (xs := ([x1.Digest] : List ByteArray)) (by kernel_rfl) (Nat.le_of_ble_eq_true (by kernel_rfl)) (Kd.Rep.scalars rfl)
   obtain ⟨hn1,heq⟩ := guard?_some heq
   refine RgH.does (DoesH.append (d := 75) (k := 1) (t := 34) (e := 9) (bytes := 16) (kd := Kd.string) (n := v_out10.length) (m := 1) (xs := v_out10) (ys := ([x1.Digest] : List ByteArray)) (A := Av_out10) (B := (some ⟨g1,0,none⟩)) (c := cv_out10) (cB := 1) (by kernel_rfl) rfl rfl (by kernel_rfl) rfl hov_out10 (fun w hh => ho1.rdb (hh.chin 0 rfl)) (room_le hn1) (by have := room_le hn1; omega)) ?_
   rintro _ _ _ _ ⟨A1,c1,ch1,rfl,rfl,rfl,ho2⟩
   refine Rd 9 [5,10,11] [(5,.slice Av_l5 v_l5.length cv_l5),(10,.slice A1 ((v_out10 ++ ([x1.Digest] : List ByteArray)).length) c1),(11,iv v_i11)] <| Ra 1 [1,1,1,1,0,1,0,0,1,1] [.l [1,1,1,1,0,1,0,0],.b 4,.c [1,1,1,1,1]] <| Rd 3 [5,10,11] [(5,.slice Av_l5 v_l5.length cv_l5),(10,.slice A1 ((v_out10 ++ ([x1.Digest] : List ByteArray)).length) c1),(11,iv (w64 (v_i11 + 1)))] <| Ad 1 [.c [1,1,1,1,0,1,0,0],.l [1,1,1,1,0,1,0,0],.b 4,.c [1,1,1,1,1]] <| Kp [5,10,11] [(5,.slice Av_l5 v_l5.length cv_l5),(10,.slice A1 ((v_out10 ++ ([x1.Digest] : List ByteArray)).length) c1),(11,iv (w64 (v_i11 + 1)))] ?_
   refine RunH.pick 3 [1,2] (cs' := ch1 :: chv_l5 :: F) (by kernel_rfl) rfl ?_
   exact ihk v_l5 _ _ _ (v_out10 ++ ([x1.Digest] : List ByteArray)) _ _ _ _ (w64 (v_i11 + 1)) hov_l5 ho2 rfl heq
  ·replace heq := bif_false hb1 heq
   refine Cf (decide (v_i11 < (v_l5.length : Int))) hb1 <| Ad 2 [.c [1,1,1,1,1,0],.c [1,1,1,1,1,1]] <| Kp [10] [(10,.slice Av_out10 v_out10.length cv_out10)] ?_
   refine RunH.pick 2 [0] (cs' := chv_out10 :: F) (by kernel_rfl) rfl ?_
   exact he2 v_out10 _ _ _ _ hov_out10 rfl heq
theorem smithyardref7_row.e1_c {w0 : World} {H : Hp} {F : List Ch} {r : (List ByteArray)} : ∀ (v_l5 : List Blob) (Av_l5 : Option Addr) (nv_l5 : Nat) (cv_l5 : Nat) (chv_l5 : Ch) ,SlOwn kBlob 47 H Av_l5 cv_l5 v_l5 chv_l5 → nv_l5 = v_l5.length → smithyardref7_row.e1 v_l5 = some r → RunH C86 (S86 F H r) H w0 [.c [1,1,1,0],.c [1,1,1,1]] [(5,.slice Av_l5 nv_l5 cv_l5)] H (chv_l5 :: F) := by
 intro v_l5 Av_l5 nv_l5 cv_l5 chv_l5 hov_l5 hnv_l5 heq
 subst hnv_l5
 unfold smithyardref7_row.e1 at heq
 refine Rr <| Rd 1 [5,10] [(5,.slice Av_l5 v_l5.length cv_l5),(10,.slice none 0 0)] <| Ra 2 [1,1,1,1,0,0] [.c [1,1,1,1,0,1],.c [1,1,1,1,1]] <| Rd 1 [5,10,11] [(5,.slice Av_l5 v_l5.length cv_l5),(10,.slice none 0 0),(11,iv 0)] <| Ad 2 [.c [1,1,1,1,0,1,0,0],.l [1,1,1,1,0,1,0,0],.b 4,.c [1,1,1,1,1]] <| RunH.nilc ?_
 have ho3 : SlOwn Kd.string 9 H none 0 ([] : List ByteArray) none := SlOwn.nil
 refine Kp [5,10,11] [(5,.slice Av_l5 v_l5.length cv_l5),(10,.slice none 0 0),(11,iv 0)] ?_
 exact ((smithyardref7_row.l3_c (e2 := smithyardref7_row.e2) (smithyardref7_row.e2_c)) big) v_l5 _ _ _ ([] : List ByteArray) _ _ _ _ 0 hov_l5 ho3 rfl heq
theorem smithyardref7_row.j5_c {w0 : World} {H : Hp} {F : List Ch} {r : (List ByteArray)} (backl4 : Cache → Int → (List Blob) → Int → Option (List ByteArray))
  (hbackl4 : ∀ (ga0 : Nat) (a0 : Cache) (Aa0_2 : Option Addr) (ca0_2 : Nat) (Aa0_3 : Option Addr) (ca0_3 : Nat) (a1 : Int) (v_l5 : List Blob) (Av_l5 : Option Addr) (nv_l5 : Nat) (cv_l5 : Nat) (chv_l5 : Ch) (v_i6 : Int) ,Rw kBlob H F Aa0_2 a0.Blobs → a0.Blobs.length ≤ ca0_2 → Rw kEntry H F Aa0_3 a0.Entries → a0.Entries.length ≤ ca0_3 → InG H F ga0 (.cells #[.int .i64 a0.Room,.int .i64 a0.Lease,.slice Aa0_2 a0.Blobs.length ca0_2,.slice Aa0_3 a0.Entries.length ca0_3] 25 (0,0)) → SlOwn kBlob 47 H Av_l5 cv_l5 v_l5 chv_l5 → nv_l5 = v_l5.length → backl4 a0 a1 v_l5 v_i6 = some r → RunH C86 (S86 F H r) H w0 [.c [1,1,0,1,0,0],.l [1,1,0,1,0,0],.b 0,.c [1,1,1]] [(0,pg ga0 0),(1,iv a1),(5,.slice Av_l5 nv_l5 cv_l5),(6,iv v_i6)] H (chv_l5 :: F)) : ∀ (ga0 : Nat) (a0 : Cache) (Aa0_2 : Option Addr) (ca0_2 : Nat) (Aa0_3 : Option Addr) (ca0_3 : Nat) (a1 : Int) (v_i6 : Int) (v_l5 : List Blob) (Av_l5 : Option Addr) (nv_l5 : Nat) (cv_l5 : Nat) (chv_l5 : Ch) ,Rw kBlob H F Aa0_2 a0.Blobs → a0.Blobs.length ≤ ca0_2 → Rw kEntry H F Aa0_3 a0.Entries → a0.Entries.length ≤ ca0_3 → InG H F ga0 (.cells #[.int .i64 a0.Room,.int .i64 a0.Lease,.slice Aa0_2 a0.Blobs.length ca0_2,.slice Aa0_3 a0.Entries.length ca0_3] 25 (0,0)) → SlOwn kBlob 47 H Av_l5 cv_l5 v_l5 chv_l5 → nv_l5 = v_l5.length → smithyardref7_row.j5 backl4 a0 a1 v_i6 v_l5 = some r → RunH C86 (S86 F H r) H w0 [.c [1,1,0,1,0,0,1,1],.l [1,1,0,1,0,0],.b 0,.c [1,1,1]] [(0,pg ga0 0),(1,iv a1),(5,.slice Av_l5 nv_l5 cv_l5),(6,iv v_i6)] H (chv_l5 :: F) := by
 intro ga0 a0 Aa0_2 ca0_2 Aa0_3 ca0_3 a1 v_i6 v_l5 Av_l5 nv_l5 cv_l5 chv_l5 hra0_2 hca0_2 hra0_3 hca0_3 hga0 hov_l5 hnv_l5 heq
 subst hnv_l5
 unfold smithyardref7_row.j5 at heq
 refine Rr <| Rd 3 [0,1,5,6] [(0,pg ga0 0),(1,iv a1),(5,.slice Av_l5 v_l5.length cv_l5),(6,iv (w64 (v_i6 + 1)))] <| Ad 1 [.c [1,1,0,1,0,0],.l [1,1,0,1,0,0],.b 0,.c [1,1,1]] <| Kp [0,1,5,6] [(0,pg ga0 0),(1,iv a1),(5,.slice Av_l5 v_l5.length cv_l5),(6,iv (w64 (v_i6 + 1)))] ?_
 exact hbackl4 _ a0 _ _ _ _ a1 v_l5 _ _ _ _ (w64 (v_i6 + 1)) hra0_2 hca0_2 hra0_3 hca0_3 hga0 hov_l5 rfl heq
theorem smithyardref7_row.e6_c {w0 : World} {H : Hp} {F : List Ch} {r : (List ByteArray)} (j5 : Cache → Int → Int → (List Blob) → Option (List ByteArray))
  (hj5 : ∀ (ga0 : Nat) (a0 : Cache) (Aa0_2 : Option Addr) (ca0_2 : Nat) (Aa0_3 : Option Addr) (ca0_3 : Nat) (a1 : Int) (v_i6 : Int) (v_l5 : List Blob) (Av_l5 : Option Addr) (nv_l5 : Nat) (cv_l5 : Nat) (chv_l5 : Ch) ,Rw kBlob H F Aa0_2 a0.Blobs → a0.Blobs.length ≤ ca0_2 → Rw kEntry H F Aa0_3 a0.Entries → a0.Entries.length ≤ ca0_3 → InG H F ga0 (.cells #[.int .i64 a0.Room,.int .i64 a0.Lease,.slice Aa0_2 a0.Blobs.length ca0_2,.slice Aa0_3 a0.Entries.length ca0_3] 25 (0,0)) → SlOwn kBlob 47 H Av_l5 cv_l5 v_l5 chv_l5 → nv_l5 = v_l5.length → j5 a0 a1 v_i6 v_l5 = some r → RunH C86 (S86 F H r) H w0 [.c [1,1,0,1,0,0,1,1],.l [1,1,0,1,0,0],.b 0,.c [1,1,1]] [(0,pg ga0 0),(1,iv a1),(5,.slice Av_l5 nv_l5 cv_l5),(6,iv v_i6)] H (chv_l5 :: F)) : ∀ (ga0 : Nat) (a0 : Cache) (Aa0_2 : Option Addr) (ca0_2 : Nat) (Aa0_3 : Option Addr) (ca0_3 : Nat) (a1 : Int) (v_l5 : List Blob) (Av_l5 : Option Addr) (cv_l5 : Nat) (chv_l5 : Ch) (v_i6 : Int) (x2 : Blob) (g2 : Nat) (v_k8 : Int) ,Rw kBlob H F Aa0_2 a0.Blobs → a0.Blobs.length ≤ ca0_2 → Rw kEntry H F Aa0_3 a0.Entries → a0.Entries.length ≤ ca0_3 → InG H F ga0 (.cells #[.int .i64 a0.Room,.int .i64 a0.Lease,.slice Aa0_2 a0.Blobs.length ca0_2,.slice Aa0_3 a0.Entries.length ca0_3] 25 (0,0)) → SlOwn kBlob 47 H Av_l5 cv_l5 v_l5 chv_l5 → smithyardref7_row.e6 j5 a0 a1 v_l5 v_i6 x2 v_k8 = some r → RunH C86 (S86 F H r) H w0 [.c [1,1,0,1,0,0,1,0,0,1,1,1,1,0],.c [1,1,0,1,0,0,1,0,0,1,1,1,1,1],.b 1,.c [1,1,0,1,0,0,1,1],.l [1,1,0,1,0,0],.b 0,.c [1,1,1]] [(0,pg ga0 0),(1,iv a1),(5,.slice Av_l5 v_l5.length cv_l5),(6,iv v_i6),(7,pg g2 0),(8,iv v_k8)] H ((some (g2,.cells #[.string x2.Digest,.int .i64 x2.Size,.int .i64 x2.Used,.int .i64 x2.Until,.int .i64 x2.Pins] 47 (0,0))) :: chv_l5 :: F) := by
 intro ga0 a0 Aa0_2 ca0_2 Aa0_3 ca0_3 a1 v_l5 Av_l5 cv_l5 chv_l5 v_i6 x2 g2 v_k8 hra0_2 hca0_2 hra0_3 hca0_3 hga0 hov_l5 heq
 unfold smithyardref7_row.e6 at heq
 refine Rr <| Rd 1 [0,1,5,6,7,8,9] [(0,pg ga0 0),(1,iv a1),(5,.slice Av_l5 v_l5.length cv_l5),(6,iv v_i6),(7,pg g2 0),(8,iv v_k8),(9,.slice none 0 0)] <| Ra 1 [1,1,0,1,0,0,1,0,0,1,1,1,1,1,0] [.c [1,1,0,1,0,0,1,0,0,1,1,1,1,1,1],.b 1,.c [1,1,0,1,0,0,1,1],.l [1,1,0,1,0,0],.b 0,.c [1,1,1]] ?_
 obtain ⟨hn3,heq⟩ := guard?_some heq
 have hn2 : v_k8.toNat = (v_l5.take v_k8.toNat).length := by have h1 := both_of hn3; have h3 := trivial; (try simp); (try omega)
 have ho4 := hov_l5.take v_k8.toNat
 refine Rv 4 [0,1,5,6,7,8,48,51] [] [.need ((0 : Int) ≤ v_k8 ∧ v_k8 ≤ ((cv_l5 : Nat) : Int))] [(0,pg ga0 0),(1,iv a1),(5,.slice Av_l5 v_l5.length cv_l5),(6,iv v_i6),(7,pg g2 0),(8,iv v_k8),(48,.slice none 0 0),(51,.slice Av_l5 v_k8.toNat cv_l5)] (fun w hh => ⟨(both_of hn3).1,(by have h1 := (both_of hn3).2; have h2 := hov_l5.cap; have h3 := trivial; omega)⟩) <| RgH.nilc ?_
 have ho5 : SlOwn kBlob 47 H none 0 ([] : List Blob) none := SlOwn.nil
 obtain ⟨hn4,heq⟩ := guard?_some heq
 refine RgH.does (DoesH.append (d := 52) (k := 0) (t := 22) (e := 47) (bytes := 48) (kd := kBlob) (n := 0) (m := v_k8.toNat) (xs := ([] : List Blob)) (ys := (v_l5.take v_k8.toNat)) (A := none) (B := Av_l5) (c := 0) (cB := cv_l5) (by kernel_rfl) rfl hn2 (by kernel_rfl) rfl ho5 (fun w hh => ho4.rdb (hh.chin 2 rfl)) (room_le hn4) (by have := room_le hn4; omega)) ?_
 rintro _ _ _ _ ⟨A2,c2,ch2,rfl,rfl,rfl,ho6⟩
 refine Rd 6 [0,1,5,6,7,8,9] [(0,pg ga0 0),(1,iv a1),(5,.slice Av_l5 v_l5.length cv_l5),(6,iv v_i6),(7,pg g2 0),(8,iv v_k8),(9,.slice A2 ((([] : List Blob) ++ (v_l5.take v_k8.toNat)).length) c2)] <| Ra 1 [1,1,0,1,0,0,1,0,0,1,1,1,1,1,1,0] [.c [1,1,0,1,0,0,1,0,0,1,1,1,1,1,1,1],.b 1,.c [1,1,0,1,0,0,1,1],.l [1,1,0,1,0,0],.b 0,.c [1,1,1]] <| Rv 2 [0,1,5,6,8,53,54] [.string x2.Digest,.int .i64 x2.Size,.int .i64 x2.Used,.int .i64 x2.Until,.int .i64 x2.Pins] [.load ⟨g2,0,none⟩ (.string x2.Digest),.load ⟨g2,1,none⟩ (.int .i64 x2.Size),.load ⟨g2,2,none⟩ (.int .i64 x2.Used),.load ⟨g2,3,none⟩ (.int .i64 x2.Until),.load ⟨g2,4,none⟩ (.int .i64 x2.Pins)] [(0,pg ga0 0),(1,iv a1),(5,.slice Av_l5 v_l5.length cv_l5),(6,iv v_i6),(8,iv v_k8),(53,.slice A2 ((([] : List Blob) ++ (v_l5.take v_k8.toNat)).length) c2),(54,.agg #[.string x2.Digest,.int .i64 x2.Size,.int .i64 x2.Used,.int .i64 x2.Until,.int .i64 x2.Pins])] (fun w hh => ⟨(hh.box 1 rfl rfl),(hh.box 1 rfl rfl),(hh.box 1 rfl rfl),(hh.box 1 rfl rfl),(hh.box 1 rfl rfl)⟩) ?_
 refine RgH.does (DoesH.new (d := 55) (v := fun g => .slice (some ⟨g,0,none⟩) 1 1) (o := fun g => .cells #[.string x2.Digest,.int .i64 x2.Size,.int .i64 x2.Used,.int .i64 x2.Until,.int .i64 x2.Pins] 47 (0,0)) (fun g => by kernel_rfl)) ?_
 rintro _ _ _ _ ⟨g3,rfl,rfl,rfl⟩
 have ho7 : SlOwn kBlob 47 H (some ⟨g3,0,none⟩) 1 ([x2] : List Blob) (some (g3,.cells #[.string x2.Digest,.int .i64 x2.Size,.int .i64 x2.Used,.int .i64 x2.Until,.int .i64 x2.Pins] 47 (0,0))) := SlOwn.lit (xs := ([x2] : List Blob)) (by kernel_rfl) (Nat.le_of_ble_eq_true (by kernel_rfl)) (Kd.Rep.one kBlob_mk)
 obtain ⟨hn5,heq⟩ := guard?_some heq
 refine RgH.does (DoesH.append (d := 56) (k := 1) (t := 22) (e := 47) (bytes := 48) (kd := kBlob) (n := (([] : List Blob) ++ (v_l5.take v_k8.toNat)).length) (m := 1) (xs := (([] : List Blob) ++ (v_l5.take v_k8.toNat))) (ys := ([x2] : List Blob)) (A := A2) (B := (some ⟨g3,0,none⟩)) (c := c2) (cB := 1) (by kernel_rfl) rfl rfl (by kernel_rfl) rfl ho6 (fun w hh => ho7.rdb (hh.chin 0 rfl)) (room_le hn5) (by have := room_le hn5; omega)) ?_
 rintro _ _ _ _ ⟨A3,c3,ch3,rfl,rfl,rfl,ho8⟩
 refine Rd 5 [0,1,5,6,8,9] [(0,pg ga0 0),(1,iv a1),(5,.slice Av_l5 v_l5.length cv_l5),(6,iv v_i6),(8,iv v_k8),(9,.slice A3 (((([] : List Blob) ++ (v_l5.take v_k8.toNat)) ++ ([x2] : List Blob)).length) c3)] <| Rr ?_
 obtain ⟨hn7,heq⟩ := guard?_some heq
 have hn6 : v_l5.length - v_k8.toNat = (v_l5.drop v_k8.toNat).length := by have h1 := both_of hn7; have h3 := trivial; (try simp); (try omega)
 have ho9 := hov_l5.drop v_k8.toNat (by have h2 := hov_l5.cap; have h3 := trivial; have h1 := both_of hn7; omega)
 refine Rv 4 [0,1,6,57,60] [] [.need ((0 : Int) ≤ v_k8 ∧ v_k8 ≤ ((v_l5.length : Nat) : Int))] [(0,pg ga0 0),(1,iv a1),(6,iv v_i6),(57,.slice A3 (((([] : List Blob) ++ (v_l5.take v_k8.toNat)) ++ ([x2] : List Blob)).length) c3),(60,.slice (shiftA cv_l5 v_k8.toNat 5 Av_l5) (v_l5.length - v_k8.toNat) (cv_l5 - v_k8.toNat))] (fun w hh => (both_of hn7)) ?_
 obtain ⟨hn8,heq⟩ := guard?_some heq
 refine RgH.does (DoesH.append (d := 61) (k := 1) (t := 22) (e := 47) (bytes := 48) (kd := kBlob) (n := ((([] : List Blob) ++ (v_l5.take v_k8.toNat)) ++ ([x2] : List Blob)).length) (m := v_l5.length - v_k8.toNat) (xs := ((([] : List Blob) ++ (v_l5.take v_k8.toNat)) ++ ([x2] : List Blob))) (ys := (v_l5.drop v_k8.toNat)) (A := A3) (B := (shiftA cv_l5 v_k8.toNat 5 Av_l5)) (c := c3) (cB := (cv_l5 - v_k8.toNat)) (by kernel_rfl) rfl hn6 (by kernel_rfl) rfl ho8 (fun w hh => ho9.rdb (hh.chin 3 rfl)) (room_le hn8) (by have := room_le hn8; omega)) ?_
 rintro _ _ _ _ ⟨A4,c4,ch4,rfl,rfl,rfl,ho10⟩
 refine Rd 6 [0,1,5,6] [(0,pg ga0 0),(1,iv a1),(5,.slice A4 ((((([] : List Blob) ++ (v_l5.take v_k8.toNat)) ++ ([x2] : List Blob)) ++ (v_l5.drop v_k8.toNat)).length) c4),(6,iv v_i6)] <| Ad 1 [.c [1,1,0,1,0,0,1,1],.l [1,1,0,1,0,0],.b 0,.c [1,1,1]] <| Kp [0,1,5,6] [(0,pg ga0 0),(1,iv a1),(5,.slice A4 ((((([] : List Blob) ++ (v_l5.take v_k8.toNat)) ++ ([x2] : List Blob)) ++ (v_l5.drop v_k8.toNat)).length) c4),(6,iv v_i6)] ?_
 refine RunH.pick 4 [1] (cs' := ch4 :: F) (by kernel_rfl) rfl ?_
 exact hj5 _ a0 _ _ _ _ a1 v_i6 (((([] : List Blob) ++ (v_l5.take v_k8.toNat)) ++ ([x2] : List Blob)) ++ (v_l5.drop v_k8.toNat)) _ _ _ _ hra0_2 hca0_2 hra0_3 hca0_3 hga0 ho10 rfl heq
theorem smithyardref7_row.l7_c {w0 : World} {H : Hp} {F : List Ch} {r : (List ByteArray)} (e6 : Cache → Int → (List Blob) → Int → Blob → Int → Option (List ByteArray))
  (he6 : ∀ (ga0 : Nat) (a0 : Cache) (Aa0_2 : Option Addr) (ca0_2 : Nat) (Aa0_3 : Option Addr) (ca0_3 : Nat) (a1 : Int) (v_l5 : List Blob) (Av_l5 : Option Addr) (cv_l5 : Nat) (chv_l5 : Ch) (v_i6 : Int) (x2 : Blob) (g2 : Nat) (v_k8 : Int) ,Rw kBlob H F Aa0_2 a0.Blobs → a0.Blobs.length ≤ ca0_2 → Rw kEntry H F Aa0_3 a0.Entries → a0.Entries.length ≤ ca0_3 → InG H F ga0 (.cells #[.int .i64 a0.Room,.int .i64 a0.Lease,.slice Aa0_2 a0.Blobs.length ca0_2,.slice Aa0_3 a0.Entries.length ca0_3] 25 (0,0)) → SlOwn kBlob 47 H Av_l5 cv_l5 v_l5 chv_l5 → e6 a0 a1 v_l5 v_i6 x2 v_k8 = some r → RunH C86 (S86 F H r) H w0 [.c [1,1,0,1,0,0,1,0,0,1,1,1,1,0],.c [1,1,0,1,0,0,1,0,0,1,1,1,1,1],.b 1,.c [1,1,0,1,0,0,1,1],.l [1,1,0,1,0,0],.b 0,.c [1,1,1]] [(0,pg ga0 0),(1,iv a1),(5,.slice Av_l5 v_l5.length cv_l5),(6,iv v_i6),(7,pg g2 0),(8,iv v_k8)] H ((some (g2,.cells #[.string x2.Digest,.int .i64 x2.Size,.int .i64 x2.Used,.int .i64 x2.Until,.int .i64 x2.Pins] 47 (0,0))) :: chv_l5 :: F)) : ∀ (k : Nat),∀ (ga0 : Nat) (a0 : Cache) (Aa0_2 : Option Addr) (ca0_2 : Nat) (Aa0_3 : Option Addr) (ca0_3 : Nat) (a1 : Int) (v_l5 : List Blob) (Av_l5 : Option Addr) (cv_l5 : Nat) (chv_l5 : Ch) (v_i6 : Int) (x2 : Blob) (g2 : Nat) (v_k8 : Int) ,Rw kBlob H F Aa0_2 a0.Blobs → a0.Blobs.length ≤ ca0_2 → Rw kEntry H F Aa0_3 a0.Entries → a0.Entries.length ≤ ca0_3 → InG H F ga0 (.cells #[.int .i64 a0.Room,.int .i64 a0.Lease,.slice Aa0_2 a0.Blobs.length ca0_2,.slice Aa0_3 a0.Entries.length ca0_3] 25 (0,0)) → SlOwn kBlob 47 H Av_l5 cv_l5 v_l5 chv_l5 → smithyardref7_row.l7 e6 k a0 a1 v_l5 v_i6 x2 v_k8 = some r → RunH C86 (S86 F H r) H w0 [.c [1,1,0,1,0,0,1,0,0,1,1,1,0,0,0],.l [1,1,0,1,0,0,1,0,0,1,1,1,0,0,0],.b 2,.c [1,1,0,1,0,0,1,0,0,1,1,1,1],.b 1,.c [1,1,0,1,0,0,1,1],.l [1,1,0,1,0,0],.b 0,.c [1,1,1]] [(0,pg ga0 0),(1,iv a1),(5,.slice Av_l5 v_l5.length cv_l5),(6,iv v_i6),(7,pg g2 0),(8,iv v_k8)] H ((some (g2,.cells #[.string x2.Digest,.int .i64 x2.Size,.int .i64 x2.Used,.int .i64 x2.Until,.int .i64 x2.Pins] 47 (0,0))) :: chv_l5 :: F) := by
 intro k
 induction k with
 | zero => intro ga0 a0 Aa0_2 ca0_2 Aa0_3 ca0_3 a1 v_l5 Av_l5 cv_l5 chv_l5 v_i6 x2 g2 v_k8 hra0_2 hca0_2 hra0_3 hca0_3 hga0 hov_l5 heq; exact nomatch (show (none : Option (List ByteArray)) = some r from heq)
 | succ k ihk =>
  intro ga0 a0 Aa0_2 ca0_2 Aa0_3 ca0_3 a1 v_l5 Av_l5 cv_l5 chv_l5 v_i6 x2 g2 v_k8 hra0_2 hca0_2 hra0_3 hca0_3 hga0 hov_l5 heq
  rw [smithyardref7_row.l7] at heq
  refine Ad 2 [.c [1,1,0,1,0,0,1,0,0,1,1,1,0,0,0,0,0],.c [1,1,0,1,0,0,1,0,0,1,1,1,0,0,0,0,1],.c [1,1,0,1,0,0,1,0,0,1,1,1,0,0,0,1],.l [1,1,0,1,0,0,1,0,0,1,1,1,0,0,0],.b 2,.c [1,1,0,1,0,0,1,0,0,1,1,1,1],.b 1,.c [1,1,0,1,0,0,1,1],.l [1,1,0,1,0,0],.b 0,.c [1,1,1]] ?_
  obtain ⟨t1,ht1,heq⟩ := bind_some heq
  have K11 : RunH C86 (S86 F H r) H w0 [.c [1,1,0,1,0,0,1,0,0,1,1,1,0,0,0,0,1],.c [1,1,0,1,0,0,1,0,0,1,1,1,0,0,0,1],.l [1,1,0,1,0,0,1,0,0,1,1,1,0,0,0],.b 2,.c [1,1,0,1,0,0,1,0,0,1,1,1,1],.b 1,.c [1,1,0,1,0,0,1,1],.l [1,1,0,1,0,0],.b 0,.c [1,1,1]] [(0,pg ga0 0),(1,iv a1),(5,.slice Av_l5 v_l5.length cv_l5),(6,iv v_i6),(7,pg g2 0),(8,iv v_k8),(45,.bool t1)] H ((some (g2,.cells #[.string x2.Digest,.int .i64 x2.Size,.int .i64 x2.Used,.int .i64 x2.Until,.int .i64 x2.Pins] 47 (0,0))) :: chv_l5 :: F) := by
   rcases bool_cases (t1) with hb5 | hb5
   ·replace heq := bif_true hb5 heq
    refine Ct t1 hb5 <| Ra 2 [1,1,0,1,0,0,1,0,0,1,1,1,0,0,0,1,0] [.b 3,.l [1,1,0,1,0,0,1,0,0,1,1,1,0,0,0],.b 2,.c [1,1,0,1,0,0,1,0,0,1,1,1,1],.b 1,.c [1,1,0,1,0,0,1,1],.l [1,1,0,1,0,0],.b 0,.c [1,1,1]] <| Rd 3 [0,1,5,6,7,8] [(0,pg ga0 0),(1,iv a1),(5,.slice Av_l5 v_l5.length cv_l5),(6,iv v_i6),(7,pg g2 0),(8,iv (w64 (v_k8 - 1)))] <| Ad 2 [.c [1,1,0,1,0,0,1,0,0,1,1,1,0,0,0],.l [1,1,0,1,0,0,1,0,0,1,1,1,0,0,0],.b 2,.c [1,1,0,1,0,0,1,0,0,1,1,1,1],.b 1,.c [1,1,0,1,0,0,1,1],.l [1,1,0,1,0,0],.b 0,.c [1,1,1]] <| Kp [0,1,5,6,7,8] [(0,pg ga0 0),(1,iv a1),(5,.slice Av_l5 v_l5.length cv_l5),(6,iv v_i6),(7,pg g2 0),(8,iv (w64 (v_k8 - 1)))] ?_
    exact ihk _ a0 _ _ _ _ a1 v_l5 _ _ _ v_i6 x2 _ (w64 (v_k8 - 1)) hra0_2 hca0_2 hra0_3 hca0_3 hga0 hov_l5 heq
   ·replace heq := bif_false hb5 heq
    refine Cf t1 hb5 <| Ad 2 [.c [1,1,0,1,0,0,1,0,0,1,1,1,1,0],.c [1,1,0,1,0,0,1,0,0,1,1,1,1,1],.b 1,.c [1,1,0,1,0,0,1,1],.l [1,1,0,1,0,0],.b 0,.c [1,1,1]] <| Kp [0,1,5,6,7,8] [(0,pg ga0 0),(1,iv a1),(5,.slice Av_l5 v_l5.length cv_l5),(6,iv v_i6),(7,pg g2 0),(8,iv v_k8)] ?_
    exact he6 _ a0 _ _ _ _ a1 v_l5 _ _ _ v_i6 x2 _ v_k8 hra0_2 hca0_2 hra0_3 hca0_3 hga0 hov_l5 heq
  replace heq := ht1
  refine Kp [0,1,5,6,7,8] [(0,pg ga0 0),(1,iv a1),(5,.slice Av_l5 v_l5.length cv_l5),(6,iv v_i6),(7,pg g2 0),(8,iv v_k8)] ?_
  refine RunH.draw (fun w => Heap H w0 w ((some (g2,.cells #[.string x2.Digest,.int .i64 x2.Size,.int .i64 x2.Used,.int .i64 x2.Until,.int .i64 x2.Pins] 47 (0,0))) :: chv_l5 :: F)) (fun w => Heap H w0 w ((some (g2,.cells #[.string x2.Digest,.int .i64 x2.Size,.int .i64 x2.Used,.int .i64 x2.Until,.int .i64 x2.Pins] 47 (0,0))) :: chv_l5 :: F)) [3,3,3,3,3,3,3,3,3,3,3,3,3] (n := 13) (ls := [false,false,false,false,false,false,false,false,false,false,false,false,false]) (by kernel_rfl) (by kernel_rfl) (by kernel_rfl) rfl ?_
  refine Dk [0,1,2] 10 (nb 13 7) [] [] [35,0,1,5,6,7,8] [(35,.bool (decide (0 < v_k8))),(0,pg ga0 0),(1,iv a1),(5,.slice Av_l5 v_l5.length cv_l5),(6,iv v_i6),(7,pg g2 0),(8,iv v_k8)] (Pk 2 [0,1]) (Pk 2 [0,1]) (fun _ _ => trivial) ?_
  rcases bool_cases (decide (0 < v_k8)) with hb4 | hb4
  ·replace heq := bif_true hb4 heq
   refine DrH.val1 (v' := .bool true) (congrArg Value.bool hb4) ?_
   obtain ⟨x3,hx3,heq⟩ := bind_some heq
   obtain ⟨ha3,cs3,hK3,hcc3⟩ := hov_l5.get hx3
   obtain ⟨rfl⟩ := kBlob_open hK3
   refine Dk [3,4,5,6,7,8,9,10,11,12] 0 (nb 13 8191) [.int .i64 x3.Used,.int .i64 x2.Used] [.need (Av_l5 = some (adr Av_l5) ∧ (0 : Int) ≤ (w64 (v_k8 - 1)) ∧ (w64 (v_k8 - 1)) < ((v_l5.length : Nat) : Int)),.load (((adr Av_l5).add ((w64 (v_k8 - 1)).toNat * 5)).add 2) (.int .i64 x3.Used),.load ⟨g2,2,none⟩ (.int .i64 x2.Used)] [0,1,5,6,7,8,45] [(0,pg ga0 0),(1,iv a1),(5,.slice Av_l5 v_l5.length cv_l5),(6,iv v_i6),(7,pg g2 0),(8,iv v_k8),(45,.bool (decide (x2.Used < x3.Used)))] (Pk 2 [0,1]) (Pk 2 [0,1]) (fun w hh => ⟨⟨ha3,(at?_some hx3).1,(at?_some hx3).2.1⟩,(hcc3 _ (hh.chin 1 rfl) 2 _ rfl),(hh.box 0 rfl rfl)⟩) ?_
   obtain rfl := Option.some.inj heq
   refine Kr [0,1,5,6,7,8,45] [(0,pg ga0 0),(1,iv a1),(5,.slice Av_l5 v_l5.length cv_l5),(6,iv v_i6),(7,pg g2 0),(8,iv v_k8),(45,.bool (decide (x2.Used < x3.Used)))] ?_
   refine DrH.done (by kernel_rfl) ?_
   exact K11
  ·replace heq := bif_false hb4 heq
   refine DrH.val1 (v' := .bool false) (congrArg Value.bool hb4) ?_
   refine Dk [3,4,5,6,7,8,9,10,11,12] 0 (nb 13 8191) [] [] [0,1,5,6,7,8,45] [(0,pg ga0 0),(1,iv a1),(5,.slice Av_l5 v_l5.length cv_l5),(6,iv v_i6),(7,pg g2 0),(8,iv v_k8),(45,.bool false)] (Pk 2 [0,1]) (Pk 2 [0,1]) (fun _ _ => trivial) ?_
   obtain rfl := Option.some.inj heq
   refine Kr [0,1,5,6,7,8,45] [(0,pg ga0 0),(1,iv a1),(5,.slice Av_l5 v_l5.length cv_l5),(6,iv v_i6),(7,pg g2 0),(8,iv v_k8),(45,.bool false)] ?_
   refine DrH.done (by kernel_rfl) ?_
   exact K11
theorem smithyardref7_row.l4_c {w0 : World} {H : Hp} {F : List Ch} {r : (List ByteArray)} (e1 : (List Blob) → Option (List ByteArray))
  (he1 : ∀ (v_l5 : List Blob) (Av_l5 : Option Addr) (nv_l5 : Nat) (cv_l5 : Nat) (chv_l5 : Ch) ,SlOwn kBlob 47 H Av_l5 cv_l5 v_l5 chv_l5 → nv_l5 = v_l5.length → e1 v_l5 = some r → RunH C86 (S86 F H r) H w0 [.c [1,1,1,0],.c [1,1,1,1]] [(5,.slice Av_l5 nv_l5 cv_l5)] H (chv_l5 :: F)) : ∀ (k : Nat),∀ (ga0 : Nat) (a0 : Cache) (Aa0_2 : Option Addr) (ca0_2 : Nat) (Aa0_3 : Option Addr) (ca0_3 : Nat) (a1 : Int) (v_l5 : List Blob) (Av_l5 : Option Addr) (nv_l5 : Nat) (cv_l5 : Nat) (chv_l5 : Ch) (v_i6 : Int) ,Rw kBlob H F Aa0_2 a0.Blobs → a0.Blobs.length ≤ ca0_2 → Rw kEntry H F Aa0_3 a0.Entries → a0.Entries.length ≤ ca0_3 → InG H F ga0 (.cells #[.int .i64 a0.Room,.int .i64 a0.Lease,.slice Aa0_2 a0.Blobs.length ca0_2,.slice Aa0_3 a0.Entries.length ca0_3] 25 (0,0)) → SlOwn kBlob 47 H Av_l5 cv_l5 v_l5 chv_l5 → nv_l5 = v_l5.length → smithyardref7_row.l4 e1 k a0 a1 v_l5 v_i6 = some r → RunH C86 (S86 F H r) H w0 [.c [1,1,0,1,0,0],.l [1,1,0,1,0,0],.b 0,.c [1,1,1]] [(0,pg ga0 0),(1,iv a1),(5,.slice Av_l5 nv_l5 cv_l5),(6,iv v_i6)] H (chv_l5 :: F) := by
 intro k
 induction k with
 | zero => intro ga0 a0 Aa0_2 ca0_2 Aa0_3 ca0_3 a1 v_l5 Av_l5 nv_l5 cv_l5 chv_l5 v_i6 hra0_2 hca0_2 hra0_3 hca0_3 hga0 hov_l5 hnv_l5 heq; exact nomatch (show (none : Option (List ByteArray)) = some r from heq)
 | succ k ihk =>
  intro ga0 a0 Aa0_2 ca0_2 Aa0_3 ca0_3 a1 v_l5 Av_l5 nv_l5 cv_l5 chv_l5 v_i6 hra0_2 hca0_2 hra0_3 hca0_3 hga0 hov_l5 hnv_l5 heq
  subst hnv_l5
  rw [smithyardref7_row.l4] at heq
  refine Ra 2 [1,1,0,1,0,0,0,0] [.c [1,1,0,1,0,0,0,1],.c [1,1,0,1,0,0,1],.l [1,1,0,1,0,0],.b 0,.c [1,1,1]] <| Rw' 7 [0,1,5,6,18] [.slice Aa0_2 a0.Blobs.length ca0_2] [.load ⟨ga0,2,none⟩ (.slice Aa0_2 a0.Blobs.length ca0_2)] [(0,pg ga0 0),(1,iv a1),(5,.slice Av_l5 v_l5.length cv_l5),(6,iv v_i6),(18,.bool (decide (v_i6 < (a0.Blobs.length : Int))))] (fun w hh => (hga0.cell (hh.drop 1) rfl)) ?_
  rcases bool_cases (decide (v_i6 < (a0.Blobs.length : Int))) with hb2 | hb2
  ·replace heq := bif_true hb2 heq
   refine Ct (decide (v_i6 < (a0.Blobs.length : Int))) hb2 <| Ra 4 [1,1,0,1,0,0,1,0,0,0] [.c [1,1,0,1,0,0,1,0,0,1],.b 1,.c [1,1,0,1,0,0,1,1],.l [1,1,0,1,0,0],.b 0,.c [1,1,1]] ?_
   obtain ⟨x2,hx2,heq⟩ := bind_some heq
   obtain ⟨ha2,cs2,hK2,hcc2⟩ := hra0_2.get hx2
   obtain ⟨rfl⟩ := kBlob_open hK2
   refine Rv 7 [0,1,5,6,27] [.slice Aa0_2 a0.Blobs.length ca0_2,.string x2.Digest,.int .i64 x2.Size,.int .i64 x2.Used,.int .i64 x2.Until,.int .i64 x2.Pins] [.load ⟨ga0,2,none⟩ (.slice Aa0_2 a0.Blobs.length ca0_2),.need (Aa0_2 = some (adr Aa0_2) ∧ (0 : Int) ≤ v_i6 ∧ v_i6 < ((a0.Blobs.length : Nat) : Int)),.load (((adr Aa0_2).add (v_i6.toNat * 5)).add 0) (.string x2.Digest),.load (((adr Aa0_2).add (v_i6.toNat * 5)).add 1) (.int .i64 x2.Size),.load (((adr Aa0_2).add (v_i6.toNat * 5)).add 2) (.int .i64 x2.Used),.load (((adr Aa0_2).add (v_i6.toNat * 5)).add 3) (.int .i64 x2.Until),.load (((adr Aa0_2).add (v_i6.toNat * 5)).add 4) (.int .i64 x2.Pins)] [(0,pg ga0 0),(1,iv a1),(5,.slice Av_l5 v_l5.length cv_l5),(6,iv v_i6),(27,.agg #[.string x2.Digest,.int .i64 x2.Size,.int .i64 x2.Used,.int .i64 x2.Until,.int .i64 x2.Pins])] (fun w hh => ⟨(hga0.cell (hh.drop 1) rfl),⟨ha2,(at?_some hx2).1,(at?_some hx2).2.1⟩,(hcc2 _ _ (hh.drop 1) 0 _ rfl),(hcc2 _ _ (hh.drop 1) 1 _ rfl),(hcc2 _ _ (hh.drop 1) 2 _ rfl),(hcc2 _ _ (hh.drop 1) 3 _ rfl),(hcc2 _ _ (hh.drop 1) 4 _ rfl)⟩) ?_
   refine RgH.does (DoesH.new (d := 7) (v := fun g => .pointer (some ⟨g,0,none⟩)) (o := fun g => .cells #[.string ByteArray.empty,.int .i64 0,.int .i64 0,.int .i64 0,.int .i64 0] 47 (0,0)) (fun g => by kernel_rfl)) ?_
   rintro _ _ _ _ ⟨g2,rfl,rfl,rfl⟩
   refine RgH.does (DoesH.store (k := 0) (g := g2) (off := 0) (v := .agg #[.string x2.Digest,.int .i64 x2.Size,.int .i64 x2.Used,.int .i64 x2.Until,.int .i64 x2.Pins]) (cells' := #[.string x2.Digest,.int .i64 x2.Size,.int .i64 x2.Used,.int .i64 x2.Until,.int .i64 x2.Pins]) (by kernel_rfl) rfl (by kernel_rfl) (by kernel_rfl)) ?_
   rintro _ _ _ _ ⟨rfl,rfl,rfl⟩
   refine Dn <| Ra 2 [1,1,0,1,0,0,1,0,0,1,0,0] [.c [1,1,0,1,0,0,1,0,0,1,0,1],.c [1,1,0,1,0,0,1,0,0,1,1],.b 1,.c [1,1,0,1,0,0,1,1],.l [1,1,0,1,0,0],.b 0,.c [1,1,1]] <| Rv 2 [0,1,5,6,7,28,29] [.string x2.Digest,.int .i64 x2.Size,.int .i64 x2.Used,.int .i64 x2.Until,.int .i64 x2.Pins] [.load ⟨g2,0,none⟩ (.string x2.Digest),.load ⟨g2,1,none⟩ (.int .i64 x2.Size),.load ⟨g2,2,none⟩ (.int .i64 x2.Used),.load ⟨g2,3,none⟩ (.int .i64 x2.Until),.load ⟨g2,4,none⟩ (.int .i64 x2.Pins)] [(0,pg ga0 0),(1,iv a1),(5,.slice Av_l5 v_l5.length cv_l5),(6,iv v_i6),(7,pg g2 0),(28,.agg #[.string x2.Digest,.int .i64 x2.Size,.int .i64 x2.Used,.int .i64 x2.Until,.int .i64 x2.Pins]),(29,iv a1)] (fun w hh => ⟨(hh.box 0 rfl rfl),(hh.box 0 rfl rfl),(hh.box 0 rfl rfl),(hh.box 0 rfl rfl),(hh.box 0 rfl rfl)⟩) ?_
   obtain ⟨y1,hy1,heq⟩ := bind_some heq
   refine RgH.does (DoesH.call (d := 30) (g := 90) (args := #[.agg #[.string x2.Digest,.int .i64 x2.Size,.int .i64 x2.Used,.int .i64 x2.Until,.int .i64 x2.Pins],.int .i64 a1]) (by kernel_rfl) (smithyardref7_held_c (a0 := x2) (a1 := a1)  hy1)) ?_
   rintro _ _ _ _ ⟨_,rfl,rfl,rfl,rfl⟩
   refine Dn ?_
   rcases bool_cases (y1) with hb3 | hb3
   ·replace heq := bif_true hb3 heq
    refine Ct y1 hb3 <| Ad 1 [.c [1,1,0,1,0,0,1,1],.l [1,1,0,1,0,0],.b 0,.c [1,1,1]] <| Kp [0,1,5,6] [(0,pg ga0 0),(1,iv a1),(5,.slice Av_l5 v_l5.length cv_l5),(6,iv v_i6)] ?_
    refine RunH.pick 2 [1] (cs' := chv_l5 :: F) (by kernel_rfl) rfl ?_
    exact (smithyardref7_row.j5_c (backl4 := (smithyardref7_row.l4 e1 k)) ihk) _ a0 _ _ _ _ a1 v_i6 v_l5 _ _ _ _ hra0_2 hca0_2 hra0_3 hca0_3 hga0 hov_l5 rfl heq
   ·replace heq := bif_false hb3 heq
    refine Cf y1 hb3 <| Ra 2 [1,1,0,1,0,0,1,0,0,1,1,0] [.c [1,1,0,1,0,0,1,0,0,1,1,1],.b 1,.c [1,1,0,1,0,0,1,1],.l [1,1,0,1,0,0],.b 0,.c [1,1,1]] <| Rd 3 [0,1,5,6,7,8] [(0,pg ga0 0),(1,iv a1),(5,.slice Av_l5 v_l5.length cv_l5),(6,iv v_i6),(7,pg g2 0),(8,iv (v_l5.length : Int))] <| Ad 3 [.c [1,1,0,1,0,0,1,0,0,1,1,1,0,0,0],.l [1,1,0,1,0,0,1,0,0,1,1,1,0,0,0],.b 2,.c [1,1,0,1,0,0,1,0,0,1,1,1,1],.b 1,.c [1,1,0,1,0,0,1,1],.l [1,1,0,1,0,0],.b 0,.c [1,1,1]] <| Kp [0,1,5,6,7,8] [(0,pg ga0 0),(1,iv a1),(5,.slice Av_l5 v_l5.length cv_l5),(6,iv v_i6),(7,pg g2 0),(8,iv (v_l5.length : Int))] ?_
    exact ((smithyardref7_row.l7_c (e6 := smithyardref7_row.e6 (smithyardref7_row.j5 ((smithyardref7_row.l4 e1 k)))) (smithyardref7_row.e6_c (j5 := smithyardref7_row.j5 ((smithyardref7_row.l4 e1 k))) (smithyardref7_row.j5_c (backl4 := (smithyardref7_row.l4 e1 k)) ihk))) big) _ a0 _ _ _ _ a1 v_l5 _ _ _ v_i6 x2 _ (v_l5.length : Int) hra0_2 hca0_2 hra0_3 hca0_3 hga0 hov_l5 heq
  ·replace heq := bif_false hb2 heq
   refine Cf (decide (v_i6 < (a0.Blobs.length : Int))) hb2 <| Ad 2 [.c [1,1,1,0],.c [1,1,1,1]] <| Kp [5] [(5,.slice Av_l5 v_l5.length cv_l5)] ?_
   exact he1 v_l5 _ _ _ _ hov_l5 rfl heq
theorem smithyardref7_row_c {w0 : World} {H : Hp} {F : List Ch} {ga0 : Nat} {a0 : Cache} {Aa0_2 : Option Addr} {na0_2 : Nat} {ca0_2 : Nat} {Aa0_3 : Option Addr} {na0_3 : Nat} {ca0_3 : Nat} {a1 : Int} {r : (List ByteArray)} (hra0_2 : Rw kBlob H F Aa0_2 a0.Blobs) (hca0_2 : na0_2 ≤ ca0_2) (hna0_2 : na0_2 = a0.Blobs.length) (hra0_3 : Rw kEntry H F Aa0_3 a0.Entries) (hca0_3 : na0_3 ≤ ca0_3) (hna0_3 : na0_3 = a0.Entries.length) (hga0 : InG H F ga0 (.cells #[.int .i64 a0.Room,.int .i64 a0.Lease,.slice Aa0_2 na0_2 ca0_2,.slice Aa0_3 na0_3 ca0_3] 25 (0,0))) (heq : smithyardref7_row.f a0 a1 = some r) : CallsH Tryd.prog 86 #[.pointer (some ⟨ga0,0,none⟩),.int .i64 a1] H w0 (F) (S86 F H r) := by
 refine calls_of_runH (F := C86) Tryd.func86 (by kernel_rfl) Tryd.ntmps86 (args := [.pointer (some ⟨ga0,0,none⟩),.int .i64 a1]) (by kernel_rfl) ?_
 subst hna0_2
 subst hna0_3
 unfold smithyardref7_row.f at heq
 refine Ra 1 [0] [.c [1]] <| Rd 1 [0,1] [(0,pg ga0 0),(1,iv a1)] <| Ra 1 [1,0] [.c [1,1]] <| Rd 1 [0,1,5] [(0,pg ga0 0),(1,iv a1),(5,.slice none 0 0)] <| Ra 2 [1,1,0,0] [.c [1,1,0,1],.c [1,1,1]] <| Rd 1 [0,1,5,6] [(0,pg ga0 0),(1,iv a1),(5,.slice none 0 0),(6,iv 0)] <| Ad 2 [.c [1,1,0,1,0,0],.l [1,1,0,1,0,0],.b 0,.c [1,1,1]] <| RunH.nilc ?_
 have ho11 : SlOwn kBlob 47 H none 0 ([] : List Blob) none := SlOwn.nil
 refine Kp [0,1,5,6] [(0,pg ga0 0),(1,iv a1),(5,.slice none 0 0),(6,iv 0)] ?_
 exact ((smithyardref7_row.l4_c (e1 := smithyardref7_row.e1) (smithyardref7_row.e1_c)) big) _ a0 _ _ _ _ a1 ([] : List Blob) _ _ _ _ 0 hra0_2 hca0_2 hra0_3 hca0_3 hga0 ho11 rfl heq
noncomputable def C39 : Ctx := { P := Tryd.prog,f := 39,N := 17,c := bodyOf Tryd.f39 }
def S39 (F : List Ch) (H0 : Hp) (r : (List ByteArray) × Int) (v : Value) (H : Hp) (cs : List Ch) : Prop := ∃ (A0 : Option Addr) (c0 : Nat) (ch0 : Ch),H0 = H ∧ v = .tuple #[.slice A0 r.1.length c0,.int .i64 r.2] ∧ ch0 :: F = cs ∧ SlOwn Kd.string 9 H A0 c0 r.1 ch0
theorem smithyardref7_Next_c {w0 : World} {H : Hp} {F : List Ch} {a0 : Cache} {Aa0_2 : Option Addr} {na0_2 : Nat} {ca0_2 : Nat} {Aa0_3 : Option Addr} {na0_3 : Nat} {ca0_3 : Nat} {a1 : Int} {r : (List ByteArray) × Int} (hra0_2 : Rw kBlob H F Aa0_2 a0.Blobs) (hca0_2 : na0_2 ≤ ca0_2) (hna0_2 : na0_2 = a0.Blobs.length) (hra0_3 : Rw kEntry H F Aa0_3 a0.Entries) (hca0_3 : na0_3 ≤ ca0_3) (hna0_3 : na0_3 = a0.Entries.length) (heq : smithyardref7_Next.f a0 a1 = some r) : CallsH Tryd.prog 39 #[.agg #[.int .i64 a0.Room,.int .i64 a0.Lease,.slice Aa0_2 na0_2 ca0_2,.slice Aa0_3 na0_3 ca0_3],.int .i64 a1] H w0 (F) (S39 F H r) := by
 refine calls_of_runH (F := C39) Tryd.func39 (by kernel_rfl) Tryd.ntmps39 (args := [.agg #[.int .i64 a0.Room,.int .i64 a0.Lease,.slice Aa0_2 na0_2 ca0_2,.slice Aa0_3 na0_3 ca0_3],.int .i64 a1]) (by kernel_rfl) ?_
 subst hna0_2
 subst hna0_3
 unfold smithyardref7_Next.f at heq
 refine Ra 1 [0] [.c [1]] ?_
 refine RgH.does (DoesH.new (d := 2) (v := fun g => .pointer (some ⟨g,0,none⟩)) (o := fun g => .cells #[.int .i64 a0.Room,.int .i64 a0.Lease,.slice Aa0_2 a0.Blobs.length ca0_2,.slice Aa0_3 a0.Entries.length ca0_3] 25 (0,0)) (fun g => by kernel_rfl)) ?_
 rintro _ _ _ _ ⟨g1,rfl,rfl,rfl⟩
 refine Rd 3 [1,2] [(1,iv a1),(2,pg g1 0)] <| Ra 2 [1,0,0] [.c [1,0,1],.c [1,1]] <| Rv 1 [1,2,7] [.int .i64 a0.Room,.int .i64 a0.Lease,.slice Aa0_2 a0.Blobs.length ca0_2,.slice Aa0_3 a0.Entries.length ca0_3] [.load ⟨g1,0,none⟩ (.int .i64 a0.Room),.load ⟨g1,1,none⟩ (.int .i64 a0.Lease),.load ⟨g1,2,none⟩ (.slice Aa0_2 a0.Blobs.length ca0_2),.load ⟨g1,3,none⟩ (.slice Aa0_3 a0.Entries.length ca0_3)] [(1,iv a1),(2,pg g1 0),(7,.agg #[.int .i64 a0.Room,.int .i64 a0.Lease,.slice Aa0_2 a0.Blobs.length ca0_2,.slice Aa0_3 a0.Entries.length ca0_3])] (fun w hh => ⟨(hh.box 0 rfl rfl),(hh.box 0 rfl rfl),(hh.box 0 rfl rfl),(hh.box 0 rfl rfl)⟩) ?_
 obtain ⟨y1,hy1,heq⟩ := bind_some heq
 refine RgH.does (DoesH.call (d := 8) (g := 23) (args := #[.agg #[.int .i64 a0.Room,.int .i64 a0.Lease,.slice Aa0_2 a0.Blobs.length ca0_2,.slice Aa0_3 a0.Entries.length ca0_3]]) (by kernel_rfl) (smithyardref7_CheckCache_c (a0 := a0) (hra0_2.wk (fun _ h => (.tail _ h))) hca0_2 rfl (hra0_3.wk (fun _ h => (.tail _ h))) hca0_3 rfl hy1)) ?_
 rintro _ _ _ _ ⟨_,rfl,rfl,rfl,rfl⟩
 refine Rd 3 [1,2,6] [(1,iv a1),(2,pg g1 0),(6,iv y1)] <| Ra 1 [1,0,1,0] [.c [1,0,1,1],.c [1,1]] <| Rd 2 [1,2,6,10] [(1,iv a1),(2,pg g1 0),(6,iv y1),(10,.bool (y1 != 0))] ?_
 rcases bool_cases (y1 != 0) with hb1 | hb1
 ·replace heq := bif_true hb1 heq
  refine Ct (y1 != 0) hb1 <| Ra 1 [1,0,1,1,0,0] [.c [1,0,1,1,0,1],.c [1,1]] <| Rd 3 [4,5] [(4,.slice none 0 0),(5,iv y1)] <| RunH.nilc ?_
  have ho1 : SlOwn Kd.string 9 H none 0 ([] : List ByteArray) none := SlOwn.nil
  obtain rfl := Option.some.inj heq
  refine RunH.pick 2 [0] (cs' := none :: F) (by kernel_rfl) rfl ?_
  exact RunH.done (by kernel_rfl) Tryd.func39 (v := .tuple #[.slice none 0 0,.int .i64 y1]) (by kernel_rfl) ⟨none,0,none,rfl,rfl,rfl,ho1⟩
 ·replace heq := bif_false hb1 heq
  refine Cf (y1 != 0) hb1 <| Ra 3 [1,1,0,0] [.c [1,1,0,1],.c [1,1,1]] <| Rk 1 [1,2,12] [(1,iv a1),(2,pg g1 0),(12,iv a1)] ?_
  obtain ⟨y2,hy2,heq⟩ := bind_some heq
  refine RgH.does (DoesH.call (d := 13) (g := 62) (args := #[.int .i64 a1,.int .i64 0,.int .i64 1000000000]) (by kernel_rfl) (smithyardref7_within_c (a0 := a1) (a1 := 0) (a2 := 1000000000)  hy2)) ?_
  rintro _ _ _ _ ⟨_,rfl,rfl,rfl,rfl⟩
  refine Rd 3 [1,2,14] [(1,iv a1),(2,pg g1 0),(14,.bool (!y2))] ?_
  rcases bool_cases (!y2) with hb2 | hb2
  ·replace heq := bif_true hb2 heq
   refine Ct (!y2) hb2 <| Ra 1 [1,1,0,1,0,0] [.c [1,1,0,1,0,1],.c [1,1,1]] <| Rd 2 [4,5] [(4,.slice none 0 0),(5,iv 1)] <| RunH.nilc ?_
   have ho2 : SlOwn Kd.string 9 H none 0 ([] : List ByteArray) none := SlOwn.nil
   obtain rfl := Option.some.inj heq
   refine RunH.pick 2 [0] (cs' := none :: F) (by kernel_rfl) rfl ?_
   exact RunH.done (by kernel_rfl) Tryd.func39 (v := .tuple #[.slice none 0 0,.int .i64 1]) (by kernel_rfl) ⟨none,0,none,rfl,rfl,rfl,ho2⟩
  ·replace heq := bif_false hb2 heq
   refine Cf (!y2) hb2 <| Ra 2 [1,1,1,0] [.c [1,1,1,1]] <| Rk 1 [2,15] [(2,pg g1 0),(15,iv a1)] ?_
   obtain ⟨y3,hy3,heq⟩ := bind_some heq
   refine RgH.does (DoesH.call (d := 16) (g := 86) (args := #[.pointer (some ⟨g1,0,none⟩),.int .i64 a1]) (by kernel_rfl) (smithyardref7_row_c (a0 := a0) (a1 := a1) (hra0_2.wk (fun _ h => (.tail _ h))) hca0_2 rfl (hra0_3.wk (fun _ h => (.tail _ h))) hca0_3 rfl (.inr (.head _)) hy3)) ?_
   rintro _ _ _ _ ⟨_,rfl,A1,c1,ch1,rfl,rfl,rfl,ho3⟩
   refine Rd 4 [4,5] [(4,.slice A1 y3.length c1),(5,iv 0)] ?_
   obtain rfl := Option.some.inj heq
   refine RunH.pick 2 [0] (cs' := ch1 :: F) (by kernel_rfl) rfl ?_
   exact RunH.done (by kernel_rfl) Tryd.func39 (v := .tuple #[.slice A1 y3.length c1,.int .i64 0]) (by kernel_rfl) ⟨A1,c1,ch1,rfl,rfl,rfl,ho3⟩
noncomputable def C40 : Ctx := { P := Tryd.prog,f := 40,N := 30,c := bodyOf Tryd.f40 }
def S40 (F : List Ch) (H0 : Hp) (r : Bool × Int) (v : Value) (H : Hp) (cs : List Ch) : Prop := H0 = H ∧ v = .tuple #[.bool r.1,.int .i64 r.2] ∧ F = cs
theorem cache_Fits_c {w0 : World} {H : Hp} {F : List Ch} {a0 : Cache} {Aa0_2 : Option Addr} {na0_2 : Nat} {ca0_2 : Nat} {Aa0_3 : Option Addr} {na0_3 : Nat} {ca0_3 : Nat} {a1 : Int} {a2 : Int} {r : Bool × Int} (hra0_2 : Rw kBlob H F Aa0_2 a0.Blobs) (hca0_2 : na0_2 ≤ ca0_2) (hna0_2 : na0_2 = a0.Blobs.length) (hra0_3 : Rw kEntry H F Aa0_3 a0.Entries) (hca0_3 : na0_3 ≤ ca0_3) (hna0_3 : na0_3 = a0.Entries.length) (heq : cache_Fits.f a0 a1 a2 = some r) : CallsH Tryd.prog 40 #[.agg #[.int .i64 a0.Room,.int .i64 a0.Lease,.slice Aa0_2 na0_2 ca0_2,.slice Aa0_3 na0_3 ca0_3],.int .i64 a1,.int .i64 a2] H w0 (F) (S40 F H r) := by
 refine calls_of_runH (F := C40) Tryd.func40 (by kernel_rfl) Tryd.ntmps40 (args := [.agg #[.int .i64 a0.Room,.int .i64 a0.Lease,.slice Aa0_2 na0_2 ca0_2,.slice Aa0_3 na0_3 ca0_3],.int .i64 a1,.int .i64 a2]) (by kernel_rfl) ?_
 subst hna0_2
 subst hna0_3
 unfold cache_Fits.f at heq
 refine Ra 1 [0] [.c [1]] ?_
 refine RgH.does (DoesH.new (d := 3) (v := fun g => .pointer (some ⟨g,0,none⟩)) (o := fun g => .cells #[.int .i64 a0.Room,.int .i64 a0.Lease,.slice Aa0_2 a0.Blobs.length ca0_2,.slice Aa0_3 a0.Entries.length ca0_3] 25 (0,0)) (fun g => by kernel_rfl)) ?_
 rintro _ _ _ _ ⟨g1,rfl,rfl,rfl⟩
 refine Rd 3 [1,2,3] [(1,iv a1),(2,iv a2),(3,pg g1 0)] <| Ra 2 [1,0,0] [.c [1,0,1],.c [1,1]] <| Rv 2 [1,2,3,9,10] [.int .i64 a0.Room,.int .i64 a0.Lease,.slice Aa0_2 a0.Blobs.length ca0_2,.slice Aa0_3 a0.Entries.length ca0_3] [.load ⟨g1,0,none⟩ (.int .i64 a0.Room),.load ⟨g1,1,none⟩ (.int .i64 a0.Lease),.load ⟨g1,2,none⟩ (.slice Aa0_2 a0.Blobs.length ca0_2),.load ⟨g1,3,none⟩ (.slice Aa0_3 a0.Entries.length ca0_3)] [(1,iv a1),(2,iv a2),(3,pg g1 0),(9,.agg #[.int .i64 a0.Room,.int .i64 a0.Lease,.slice Aa0_2 a0.Blobs.length ca0_2,.slice Aa0_3 a0.Entries.length ca0_3]),(10,iv a2)] (fun w hh => ⟨(hh.box 0 rfl rfl),(hh.box 0 rfl rfl),(hh.box 0 rfl rfl),(hh.box 0 rfl rfl)⟩) ?_
 obtain ⟨y1,hy1,heq⟩ := bind_some heq
 refine RgH.does (DoesH.call (d := 11) (g := 69) (args := #[.agg #[.int .i64 a0.Room,.int .i64 a0.Lease,.slice Aa0_2 a0.Blobs.length ca0_2,.slice Aa0_3 a0.Entries.length ca0_3],.int .i64 a2]) (by kernel_rfl) (cache_checkAt_c (a0 := a0) (a1 := a2) (hra0_2.wk (fun _ h => (.tail _ h))) hca0_2 rfl (hra0_3.wk (fun _ h => (.tail _ h))) hca0_3 rfl hy1)) ?_
 rintro _ _ _ _ ⟨_,rfl,rfl,rfl,rfl⟩
 refine Rd 4 [1,2,3,8] [(1,iv a1),(2,iv a2),(3,pg g1 0),(8,iv y1)] <| Ra 1 [1,0,1,0] [.c [1,0,1,1],.c [1,1]] <| Rd 2 [1,2,3,8,13] [(1,iv a1),(2,iv a2),(3,pg g1 0),(8,iv y1),(13,.bool (y1 != 0))] ?_
 rcases bool_cases (y1 != 0) with hb1 | hb1
 ·replace heq := bif_true hb1 heq
  refine Ct (y1 != 0) hb1 <| Ra 1 [1,0,1,1,0,0] [.c [1,0,1,1,0,1],.c [1,1]] <| Rd 3 [6,7] [(6,.bool false),(7,iv y1)] ?_
  obtain rfl := Option.some.inj heq
  refine RunH.pick 1 [] (cs' := F) (by kernel_rfl) rfl ?_
  exact RunH.done (by kernel_rfl) Tryd.func40 (v := .tuple #[.bool false,.int .i64 y1]) (by kernel_rfl) ⟨rfl,rfl,rfl⟩
 ·replace heq := bif_false hb1 heq
  refine Cf (y1 != 0) hb1 <| Ra 3 [1,1,0,0] [.c [1,1,0,1],.c [1,1,1]] <| Rk 1 [1,2,3,15] [(1,iv a1),(2,iv a2),(3,pg g1 0),(15,iv a1)] ?_
  obtain ⟨y2,hy2,heq⟩ := bind_some heq
  refine RgH.does (DoesH.call (d := 16) (g := 57) (args := #[.int .i64 a1,.int .i64 0,.int .i64 100000000]) (by kernel_rfl) (cache_within_c (a0 := a1) (a1 := 0) (a2 := 100000000)  hy2)) ?_
  rintro _ _ _ _ ⟨_,rfl,rfl,rfl,rfl⟩
  refine Rd 3 [1,2,3,17] [(1,iv a1),(2,iv a2),(3,pg g1 0),(17,.bool (!y2))] ?_
  rcases bool_cases (!y2) with hb2 | hb2
  ·replace heq := bif_true hb2 heq
   refine Ct (!y2) hb2 <| Ra 1 [1,1,0,1,0,0] [.c [1,1,0,1,0,1],.c [1,1,1]] <| Rd 2 [6,7] [(6,.bool false),(7,iv 1)] ?_
   obtain rfl := Option.some.inj heq
   refine RunH.pick 1 [] (cs' := F) (by kernel_rfl) rfl ?_
   exact RunH.done (by kernel_rfl) Tryd.func40 (v := .tuple #[.bool false,.int .i64 1]) (by kernel_rfl) ⟨rfl,rfl,rfl⟩
  ·replace heq := bif_false hb2 heq
   refine Cf (!y2) hb2 <| Ad 2 [.c [1,1,1,0],.c [1,1,1,1]] <| Kp [1,2,3] [(1,iv a1),(2,iv a2),(3,pg g1 0)] ?_
   refine RunH.draw (fun w => Heap H w0 w ((some (g1,.cells #[.int .i64 a0.Room,.int .i64 a0.Lease,.slice Aa0_2 a0.Blobs.length ca0_2,.slice Aa0_3 a0.Entries.length ca0_3] 25 (0,0))) :: F)) (fun w => Heap H w0 w ((some (g1,.cells #[.int .i64 a0.Room,.int .i64 a0.Lease,.slice Aa0_2 a0.Blobs.length ca0_2,.slice Aa0_3 a0.Entries.length ca0_3] 25 (0,0))) :: F)) [3,0,3,3,3,3,3,3,3,0,0,3,3,3] (n := 14) (ls := [false,false,false,false,false,false,false,false,false,false,false,false,false,false]) (by kernel_rfl) (by kernel_rfl) (by kernel_rfl) rfl ?_
   refine Dk [0,2,4,5,7,8] 8 (nb 14 437) [.int .i64 a0.Room,.int .i64 a0.Lease,.slice Aa0_2 a0.Blobs.length ca0_2,.slice Aa0_3 a0.Entries.length ca0_3,.int .i64 a0.Room,.int .i64 a0.Room,.int .i64 a0.Lease,.slice Aa0_2 a0.Blobs.length ca0_2,.slice Aa0_3 a0.Entries.length ca0_3] [.load ⟨g1,0,none⟩ (.int .i64 a0.Room),.load ⟨g1,1,none⟩ (.int .i64 a0.Lease),.load ⟨g1,2,none⟩ (.slice Aa0_2 a0.Blobs.length ca0_2),.load ⟨g1,3,none⟩ (.slice Aa0_3 a0.Entries.length ca0_3),.load ⟨g1,0,none⟩ (.int .i64 a0.Room),.load ⟨g1,0,none⟩ (.int .i64 a0.Room),.load ⟨g1,1,none⟩ (.int .i64 a0.Lease),.load ⟨g1,2,none⟩ (.slice Aa0_2 a0.Blobs.length ca0_2),.load ⟨g1,3,none⟩ (.slice Aa0_3 a0.Entries.length ca0_3)] [18,20,23,25,26] [(18,.agg #[.int .i64 a0.Room,.int .i64 a0.Lease,.slice Aa0_2 a0.Blobs.length ca0_2,.slice Aa0_3 a0.Entries.length ca0_3]),(20,iv a1),(23,iv a0.Room),(25,.agg #[.int .i64 a0.Room,.int .i64 a0.Lease,.slice Aa0_2 a0.Blobs.length ca0_2,.slice Aa0_3 a0.Entries.length ca0_3]),(26,iv a2)] (Pk 1 [0]) (Pk 1 [0]) (fun w hh => ⟨(hh.box 0 rfl rfl),(hh.box 0 rfl rfl),(hh.box 0 rfl rfl),(hh.box 0 rfl rfl),(hh.box 0 rfl rfl),(hh.box 0 rfl rfl),(hh.box 0 rfl rfl),(hh.box 0 rfl rfl),(hh.box 0 rfl rfl)⟩) ?_
   obtain ⟨y3,hy3,heq⟩ := bind_some heq
   refine DrH.does (n := 7) (ls' := [true,true,true,false,true,true,false,true,true,false,false,false,false,false]) 1 (by kernel_rfl) rfl (DoesH.call (d := 19) (g := 66) (args := #[.agg #[.int .i64 a0.Room,.int .i64 a0.Lease,.slice Aa0_2 a0.Blobs.length ca0_2,.slice Aa0_3 a0.Entries.length ca0_3]]) (by kernel_rfl) (cache_used_c (a0 := a0) (hra0_2.wk (fun _ h => (.tail _ h))) hca0_2 rfl (hra0_3.wk (fun _ h => (.tail _ h))) hca0_3 rfl hy3)) ?_
   rintro _ _ _ _ ⟨_,rfl,rfl,rfl,rfl⟩
   refine ⟨fun _ w hh => ⟨fun _ => (Pk 1 [0]) w hh,fun _ => (Pk 1 [0]) w hh,(fun h => by cases h)⟩,?_⟩
   refine Dk [3,6] 5 (nb 14 511) [] [] [24,25,26] [(24,iv (w64 ((w64 (y3 + a1)) - a0.Room))),(25,.agg #[.int .i64 a0.Room,.int .i64 a0.Lease,.slice Aa0_2 a0.Blobs.length ca0_2,.slice Aa0_3 a0.Entries.length ca0_3]),(26,iv a2)] (Pk 1 [0]) (Pk 1 [0]) (fun _ _ => trivial) ?_
   obtain ⟨y4,hy4,heq⟩ := bind_some heq
   refine DrH.does (n := 4) (ls' := [true,true,true,true,true,true,true,true,true,true,false,false,false,false]) 9 (by kernel_rfl) rfl (DoesH.call (d := 27) (g := 84) (args := #[.agg #[.int .i64 a0.Room,.int .i64 a0.Lease,.slice Aa0_2 a0.Blobs.length ca0_2,.slice Aa0_3 a0.Entries.length ca0_3],.int .i64 a2]) (by kernel_rfl) (cache_leaving_c (a0 := a0) (a1 := a2) (hra0_2.wk (fun _ h => (.tail _ h))) hca0_2 rfl (hra0_3.wk (fun _ h => (.tail _ h))) hca0_3 rfl hy4)) ?_
   rintro _ _ _ _ ⟨_,rfl,A1,c1,ch1,rfl,rfl,rfl,ho1⟩
   refine ⟨fun _ w hh => ⟨fun _ => (Pk 2 [1]) w hh,fun _ => (Pk 2 [1]) w hh,(fun h => by cases h)⟩,?_⟩
   refine Kr [24,27] [(24,iv (w64 ((w64 (y3 + a1)) - a0.Room))),(27,.slice A1 y4.length c1)] ?_
   obtain ⟨y5,hy5,heq⟩ := bind_some heq
   refine DrH.does (n := 3) (ls' := [true,true,true,true,true,true,true,true,true,true,true,false,false,false]) 10 (by kernel_rfl) rfl (DoesH.call (d := 28) (g := 87) (args := #[.slice A1 y4.length c1]) (by kernel_rfl) (cache_sumOf_c (a0 := y4) (ho1.rw (.head _)) ho1.cap rfl hy5)) ?_
   rintro _ _ _ _ ⟨_,rfl,rfl,rfl,rfl⟩
   refine ⟨fun _ w hh => ⟨fun _ => (Pk 2 [1]) w hh,fun _ => (Pk 2 [1]) w hh,(fun h => by cases h)⟩,?_⟩
   refine Dk [11,12,13] 0 (nb 14 16383) [] [] [6,7] [(6,.bool (decide ((w64 ((w64 (y3 + a1)) - a0.Room)) ≤ y5))),(7,iv 0)] (Pk 2 [1]) (Pk 1 [0]) (fun _ _ => trivial) ?_
   refine DrH.done (by kernel_rfl) ?_
   obtain rfl := Option.some.inj heq
   refine RunH.pick 2 [] (cs' := F) (by kernel_rfl) rfl ?_
   exact RunH.done (by kernel_rfl) Tryd.func40 (v := .tuple #[.bool (decide ((w64 ((w64 (y3 + a1)) - a0.Room)) ≤ y5)),.int .i64 0]) (by kernel_rfl) ⟨rfl,rfl,rfl⟩
noncomputable def C125v2 : Ctx := { P := Tryd.prog,f := 125,N := 29,c := bodyOf Tryd.f125 }
def S125v2 (F : List Ch) (H0 : Hp) (ga0 : Nat) (r : Cache) (v : Value) (H : Hp) (cs : List Ch) : Prop := ∃ (A0_2 : Option Addr) (c0_2 : Nat) (ch0_2 : Ch) (A0_3 : Option Addr) (c0_3 : Nat) (ch0_3 : Ch),H0 = H ∧ v = .tuple #[] ∧ some (ga0,.cells #[.int .i64 r.Room,.int .i64 r.Lease,.slice A0_2 r.Blobs.length c0_2,.slice A0_3 r.Entries.length c0_3] 25 (0,0)) :: ch0_2 :: ch0_3 :: F = cs ∧ SlOwn kBlob 47 H A0_2 c0_2 r.Blobs ch0_2 ∧ SlOwn kEntry 51 H A0_3 c0_3 r.Entries ch0_3
theorem smithyardref7_drop_2_c {w0 : World} {H : Hp} {F : List Ch} {ga0 : Nat} {a0 : Cache} {Aa0_2 : Option Addr} {na0_2 : Nat} {ca0_2 : Nat} {cha0_2 : Ch} {Aa0_3 : Option Addr} {na0_3 : Nat} {ca0_3 : Nat} {cha0_3 : Ch} {a1 : ByteArray} {r : Cache} (hoa0_2 : SlOwn kBlob 47 H Aa0_2 ca0_2 a0.Blobs cha0_2) (hna0_2 : na0_2 = a0.Blobs.length) (hoa0_3 : SlOwn kEntry 51 H Aa0_3 ca0_3 a0.Entries cha0_3) (hna0_3 : na0_3 = a0.Entries.length) (heq : smithyardref7_drop_2.f a0 a1 = some r) : CallsH Tryd.prog 125 #[.pointer (some ⟨ga0,0,none⟩),.string a1] H w0 ((some (ga0,.cells #[.int .i64 a0.Room,.int .i64 a0.Lease,.slice Aa0_2 na0_2 ca0_2,.slice Aa0_3 na0_3 ca0_3] 25 (0,0))) :: cha0_2 :: cha0_3 :: F) (S125v2 F H ga0 r) := by
 refine calls_of_runH (F := C125v2) Tryd.func125 (by kernel_rfl) Tryd.ntmps125 (args := [.pointer (some ⟨ga0,0,none⟩),.string a1]) (by kernel_rfl) ?_
 subst hna0_2
 subst hna0_3
 unfold smithyardref7_drop_2.f at heq
 refine Ra 1 [0] [.c [1]] <| Rk 2 [0,6,7] [(0,pg ga0 0),(6,pg ga0 0),(7,.string a1)] ?_
 obtain ⟨y1,hy1,heq⟩ := bind_some heq
 refine RgH.does (DoesH.call (d := 8) (g := 107) (args := #[.pointer (some ⟨ga0,0,none⟩),.string a1]) (by kernel_rfl) (smithyardref7_blob_c (a0 := (⟨a0.Room,a0.Lease,a0.Blobs,a0.Entries⟩ : Cache)) (a1 := a1) (hoa0_2.rw (.tail _ (.head _))) hoa0_2.cap rfl (hoa0_3.rw (.tail _ (.tail _ (.head _)))) hoa0_3.cap rfl (.inr (.head _)) hy1)) ?_
 rintro _ _ _ _ ⟨_,rfl,rfl,rfl,rfl⟩
 refine Rd 4 [0,4] [(0,pg ga0 0),(4,iv y1)] <| Ra 1 [1,0] [.c [1,1]] <| Rd 1 [0,4,5] [(0,pg ga0 0),(4,iv y1),(5,.slice none 0 0)] <| Ra 1 [1,1,0] [.c [1,1,1]] ?_
 obtain ⟨hn2,heq⟩ := guard?_some heq
 have hn1 : y1.toNat = (a0.Blobs.take y1.toNat).length := by have h1 := both_of hn2; have h3 := trivial; (try simp); (try omega)
 have ho1 := hoa0_2.take y1.toNat
 refine Rv 7 [0,4,9,15] [.slice Aa0_2 a0.Blobs.length ca0_2] [.load ⟨ga0,2,none⟩ (.slice Aa0_2 a0.Blobs.length ca0_2),.need ((0 : Int) ≤ y1 ∧ y1 ≤ ((ca0_2 : Nat) : Int))] [(0,pg ga0 0),(4,iv y1),(9,.slice none 0 0),(15,.slice Aa0_2 y1.toNat ca0_2)] (fun w hh => ⟨(hh.box 0 rfl rfl),⟨(both_of hn2).1,(by have h1 := (both_of hn2).2; have h2 := hoa0_2.cap; have h3 := trivial; omega)⟩⟩) <| RgH.nilc ?_
 have ho2 : SlOwn kBlob 47 H none 0 ([] : List Blob) none := SlOwn.nil
 obtain ⟨hn3,heq⟩ := guard?_some heq
 refine RgH.does (DoesH.append (d := 16) (k := 0) (t := 22) (e := 47) (bytes := 48) (kd := kBlob) (n := 0) (m := y1.toNat) (xs := ([] : List Blob)) (ys := (a0.Blobs.take y1.toNat)) (A := none) (B := Aa0_2) (c := 0) (cB := ca0_2) (by kernel_rfl) rfl hn1 (by kernel_rfl) rfl ho2 (fun w hh => ho1.rdb (hh.chin 2 rfl)) (room_le hn3) (by have := room_le hn3; omega)) ?_
 rintro _ _ _ _ ⟨A1,c1,ch1,rfl,rfl,rfl,ho3⟩
 refine Rd 9 [0,4,5] [(0,pg ga0 0),(4,iv y1),(5,.slice A1 ((([] : List Blob) ++ (a0.Blobs.take y1.toNat)).length) c1)] <| Rr ?_
 obtain ⟨hn5,heq⟩ := guard?_some heq
 have hn4 : a0.Blobs.length - (w64 (y1 + 1)).toNat = (a0.Blobs.drop (w64 (y1 + 1)).toNat).length := by have h1 := both_of hn5; have h3 := trivial; (try simp); (try omega)
 have ho4 := hoa0_2.drop (w64 (y1 + 1)).toNat (by have h2 := hoa0_2.cap; have h3 := trivial; have h1 := both_of hn5; omega)
 refine Rv 9 [0,17,18,25] [.slice Aa0_2 a0.Blobs.length ca0_2] [.load ⟨ga0,2,none⟩ (.slice Aa0_2 a0.Blobs.length ca0_2),.need ((0 : Int) ≤ (w64 (y1 + 1)) ∧ (w64 (y1 + 1)) ≤ ((a0.Blobs.length : Nat) : Int))] [(0,pg ga0 0),(17,pg ga0 0),(18,.slice A1 ((([] : List Blob) ++ (a0.Blobs.take y1.toNat)).length) c1),(25,.slice (shiftA ca0_2 (w64 (y1 + 1)).toNat 5 Aa0_2) (a0.Blobs.length - (w64 (y1 + 1)).toNat) (ca0_2 - (w64 (y1 + 1)).toNat))] (fun w hh => ⟨(hh.box 1 rfl rfl),(both_of hn5)⟩) ?_
 obtain ⟨hn6,heq⟩ := guard?_some heq
 refine RgH.does (DoesH.append (d := 26) (k := 0) (t := 22) (e := 47) (bytes := 48) (kd := kBlob) (n := (([] : List Blob) ++ (a0.Blobs.take y1.toNat)).length) (m := a0.Blobs.length - (w64 (y1 + 1)).toNat) (xs := (([] : List Blob) ++ (a0.Blobs.take y1.toNat))) (ys := (a0.Blobs.drop (w64 (y1 + 1)).toNat)) (A := A1) (B := (shiftA ca0_2 (w64 (y1 + 1)).toNat 5 Aa0_2)) (c := c1) (cB := (ca0_2 - (w64 (y1 + 1)).toNat)) (by kernel_rfl) rfl hn4 (by kernel_rfl) rfl ho3 (fun w hh => ho4.rdb (hh.chin 2 rfl)) (room_le hn6) (by have := room_le hn6; omega)) ?_
 rintro _ _ _ _ ⟨A2,c2,ch2,rfl,rfl,rfl,ho5⟩
 refine Rk 12 [0,26,28] [(0,pg ga0 0),(26,.slice A2 (((([] : List Blob) ++ (a0.Blobs.take y1.toNat)) ++ (a0.Blobs.drop (w64 (y1 + 1)).toNat)).length) c2),(28,pg ga0 2)] ?_
 refine RgH.does (DoesH.store (k := 1) (g := ga0) (off := 2) (v := .slice A2 (((([] : List Blob) ++ (a0.Blobs.take y1.toNat)) ++ (a0.Blobs.drop (w64 (y1 + 1)).toNat)).length) c2) (cells' := #[.int .i64 a0.Room,.int .i64 a0.Lease,.slice A2 (((([] : List Blob) ++ (a0.Blobs.take y1.toNat)) ++ (a0.Blobs.drop (w64 (y1 + 1)).toNat)).length) c2,.slice Aa0_3 a0.Entries.length ca0_3]) (by kernel_rfl) rfl (by kernel_rfl) (by kernel_rfl)) ?_
 rintro _ _ _ _ ⟨rfl,rfl,rfl⟩
 refine Dn ?_
 obtain rfl := Option.some.inj heq
 refine RunH.pick 4 [1,0,3] (cs' := (some (ga0,.cells #[.int .i64 a0.Room,.int .i64 a0.Lease,.slice A2 (((([] : List Blob) ++ (a0.Blobs.take y1.toNat)) ++ (a0.Blobs.drop (w64 (y1 + 1)).toNat)).length) c2,.slice Aa0_3 a0.Entries.length ca0_3] 25 (0,0))) :: ch2 :: cha0_3 :: F) (by kernel_rfl) rfl ?_
 exact RunH.done (by kernel_rfl) Tryd.func125 (v := .tuple #[]) (by kernel_rfl) ⟨A2,c2,ch2,Aa0_3,ca0_3,cha0_3,rfl,rfl,rfl,ho5,hoa0_3⟩
noncomputable def C88 : Ctx := { P := Tryd.prog,f := 88,N := 76,c := bodyOf Tryd.f88 }
def S88 (F : List Ch) (H0 : Hp) (ga0 : Nat) (r : (List ByteArray) × Bool × Cache) (v : Value) (H : Hp) (cs : List Ch) : Prop := ∃ (A0 : Option Addr) (c0 : Nat) (ch0 : Ch) (A2_2 : Option Addr) (c2_2 : Nat) (ch2_2 : Ch) (A2_3 : Option Addr) (c2_3 : Nat) (ch2_3 : Ch),H0 = H ∧ v = .tuple #[.slice A0 r.1.length c0,.bool r.2.1] ∧ ch0 :: some (ga0,.cells #[.int .i64 r.2.2.Room,.int .i64 r.2.2.Lease,.slice A2_2 r.2.2.Blobs.length c2_2,.slice A2_3 r.2.2.Entries.length c2_3] 25 (0,0)) :: ch2_2 :: ch2_3 :: F = cs ∧ SlOwn Kd.string 9 H A0 c0 r.1 ch0 ∧ SlOwn kBlob 47 H A2_2 c2_2 r.2.2.Blobs ch2_2 ∧ SlOwn kEntry 51 H A2_3 c2_3 r.2.2.Entries ch2_3
theorem smithyardref7_space.e2_c {w0 : World} {H : Hp} {F : List Ch} {r : (List ByteArray) × Bool × Cache} : ∀ (ga0 : Nat) (v_c0_0 : Int) (v_c0_1 : Int) (v_c0_2 : List Blob) (Av_c0_2 : Option Addr) (nv_c0_2 : Nat) (cv_c0_2 : Nat) (chv_c0_2 : Ch) (v_c0_3 : List Entry) (Av_c0_3 : Option Addr) (nv_c0_3 : Nat) (cv_c0_3 : Nat) (chv_c0_3 : Ch) (v_gone10 : List ByteArray) (Av_gone10 : Option Addr) (nv_gone10 : Nat) (cv_gone10 : Nat) (chv_gone10 : Ch) ,SlOwn kBlob 47 H Av_c0_2 cv_c0_2 v_c0_2 chv_c0_2 → nv_c0_2 = v_c0_2.length → SlOwn kEntry 51 H Av_c0_3 cv_c0_3 v_c0_3 chv_c0_3 → nv_c0_3 = v_c0_3.length → SlOwn Kd.string 9 H Av_gone10 cv_gone10 v_gone10 chv_gone10 → nv_gone10 = v_gone10.length → smithyardref7_space.e2 v_c0_0 v_c0_1 v_c0_2 v_c0_3 v_gone10 = some r → RunH C88 (S88 F H ga0 r) H w0 [.c [1,1,1,1,1,1,1,0],.c [1,1,1,1,1,1,1,1]] [(0,pg ga0 0),(10,.slice Av_gone10 nv_gone10 cv_gone10)] H (chv_gone10 :: (some (ga0,.cells #[.int .i64 v_c0_0,.int .i64 v_c0_1,.slice Av_c0_2 nv_c0_2 cv_c0_2,.slice Av_c0_3 nv_c0_3 cv_c0_3] 25 (0,0))) :: chv_c0_2 :: chv_c0_3 :: F) := by
 intro ga0 v_c0_0 v_c0_1 v_c0_2 Av_c0_2 nv_c0_2 cv_c0_2 chv_c0_2 v_c0_3 Av_c0_3 nv_c0_3 cv_c0_3 chv_c0_3 v_gone10 Av_gone10 nv_gone10 cv_gone10 chv_gone10 hov_c0_2 hnv_c0_2 hov_c0_3 hnv_c0_3 hov_gone10 hnv_gone10 heq
 subst hnv_c0_2
 subst hnv_c0_3
 subst hnv_gone10
 unfold smithyardref7_space.e2 at heq
 refine Rr <| Rd 3 [0,6,7] [(0,pg ga0 0),(6,.slice Av_gone10 v_gone10.length cv_gone10),(7,.bool true)] ?_
 obtain rfl := Option.some.inj heq
 exact RunH.done (by kernel_rfl) Tryd.func88 (v := .tuple #[.slice Av_gone10 v_gone10.length cv_gone10,.bool true]) (by kernel_rfl) ⟨Av_gone10,cv_gone10,chv_gone10,Av_c0_2,cv_c0_2,chv_c0_2,Av_c0_3,cv_c0_3,chv_c0_3,rfl,rfl,rfl,hov_gone10,hov_c0_2,hov_c0_3⟩
theorem smithyardref7_space.l3_c {w0 : World} {H : Hp} {F : List Ch} {r : (List ByteArray) × Bool × Cache} (e2 : Int → Int → (List Blob) → (List Entry) → (List ByteArray) → Option ((List ByteArray) × Bool × Cache))
  (he2 : ∀ (ga0 : Nat) (v_c0_0 : Int) (v_c0_1 : Int) (v_c0_2 : List Blob) (Av_c0_2 : Option Addr) (nv_c0_2 : Nat) (cv_c0_2 : Nat) (chv_c0_2 : Ch) (v_c0_3 : List Entry) (Av_c0_3 : Option Addr) (nv_c0_3 : Nat) (cv_c0_3 : Nat) (chv_c0_3 : Ch) (v_gone10 : List ByteArray) (Av_gone10 : Option Addr) (nv_gone10 : Nat) (cv_gone10 : Nat) (chv_gone10 : Ch) ,SlOwn kBlob 47 H Av_c0_2 cv_c0_2 v_c0_2 chv_c0_2 → nv_c0_2 = v_c0_2.length → SlOwn kEntry 51 H Av_c0_3 cv_c0_3 v_c0_3 chv_c0_3 → nv_c0_3 = v_c0_3.length → SlOwn Kd.string 9 H Av_gone10 cv_gone10 v_gone10 chv_gone10 → nv_gone10 = v_gone10.length → e2 v_c0_0 v_c0_1 v_c0_2 v_c0_3 v_gone10 = some r → RunH C88 (S88 F H ga0 r) H w0 [.c [1,1,1,1,1,1,1,0],.c [1,1,1,1,1,1,1,1]] [(0,pg ga0 0),(10,.slice Av_gone10 nv_gone10 cv_gone10)] H (chv_gone10 :: (some (ga0,.cells #[.int .i64 v_c0_0,.int .i64 v_c0_1,.slice Av_c0_2 nv_c0_2 cv_c0_2,.slice Av_c0_3 nv_c0_3 cv_c0_3] 25 (0,0))) :: chv_c0_2 :: chv_c0_3 :: F)) : ∀ (k : Nat),∀ (ga0 : Nat) (a1 : Int) (y1 : (List ByteArray)) (A1 : Option Addr) (c1 : Nat) (ch1 : Ch) (v_c0_0 : Int) (v_c0_1 : Int) (v_c0_2 : List Blob) (Av_c0_2 : Option Addr) (nv_c0_2 : Nat) (cv_c0_2 : Nat) (chv_c0_2 : Ch) (v_c0_3 : List Entry) (Av_c0_3 : Option Addr) (nv_c0_3 : Nat) (cv_c0_3 : Nat) (chv_c0_3 : Ch) (v_gone10 : List ByteArray) (Av_gone10 : Option Addr) (nv_gone10 : Nat) (cv_gone10 : Nat) (chv_gone10 : Ch) (v_i12 : Int) ,SlOwn Kd.string 9 H A1 c1 y1 ch1 → SlOwn kBlob 47 H Av_c0_2 cv_c0_2 v_c0_2 chv_c0_2 → nv_c0_2 = v_c0_2.length → SlOwn kEntry 51 H Av_c0_3 cv_c0_3 v_c0_3 chv_c0_3 → nv_c0_3 = v_c0_3.length → SlOwn Kd.string 9 H Av_gone10 cv_gone10 v_gone10 chv_gone10 → nv_gone10 = v_gone10.length → smithyardref7_space.l3 e2 k a1 y1 v_c0_0 v_c0_1 v_c0_2 v_c0_3 v_gone10 v_i12 = some r → RunH C88 (S88 F H ga0 r) H w0 [.c [1,1,1,1,1,1,0,1,0,0],.l [1,1,1,1,1,1,0,1,0,0],.b 2,.c [1,1,1,1,1,1,1]] [(0,pg ga0 0),(1,iv a1),(10,.slice Av_gone10 nv_gone10 cv_gone10),(11,.slice A1 y1.length c1),(12,iv v_i12)] H (chv_gone10 :: ch1 :: (some (ga0,.cells #[.int .i64 v_c0_0,.int .i64 v_c0_1,.slice Av_c0_2 nv_c0_2 cv_c0_2,.slice Av_c0_3 nv_c0_3 cv_c0_3] 25 (0,0))) :: chv_c0_2 :: chv_c0_3 :: F) := by
 intro k
 induction k with
 | zero => intro ga0 a1 y1 A1 c1 ch1 v_c0_0 v_c0_1 v_c0_2 Av_c0_2 nv_c0_2 cv_c0_2 chv_c0_2 v_c0_3 Av_c0_3 nv_c0_3 cv_c0_3 chv_c0_3 v_gone10 Av_gone10 nv_gone10 cv_gone10 chv_gone10 v_i12 ho2 hov_c0_2 hnv_c0_2 hov_c0_3 hnv_c0_3 hov_gone10 hnv_gone10 heq; exact nomatch (show (none : Option ((List ByteArray) × Bool × Cache)) = some r from heq)
 | succ k ihk =>
  intro ga0 a1 y1 A1 c1 ch1 v_c0_0 v_c0_1 v_c0_2 Av_c0_2 nv_c0_2 cv_c0_2 chv_c0_2 v_c0_3 Av_c0_3 nv_c0_3 cv_c0_3 chv_c0_3 v_gone10 Av_gone10 nv_gone10 cv_gone10 chv_gone10 v_i12 ho2 hov_c0_2 hnv_c0_2 hov_c0_3 hnv_c0_3 hov_gone10 hnv_gone10 heq
  subst hnv_c0_2
  subst hnv_c0_3
  subst hnv_gone10
  rw [smithyardref7_space.l3] at heq
  refine Ad 2 [.c [1,1,1,1,1,1,0,1,0,0,0,0],.c [1,1,1,1,1,1,0,1,0,0,0,1],.c [1,1,1,1,1,1,0,1,0,0,1],.l [1,1,1,1,1,1,0,1,0,0],.b 2,.c [1,1,1,1,1,1,1]] ?_
  obtain ⟨t1,ht1,heq⟩ := bind_some heq
  have K12 : RunH C88 (S88 F H ga0 r) H w0 [.c [1,1,1,1,1,1,0,1,0,0,0,1],.c [1,1,1,1,1,1,0,1,0,0,1],.l [1,1,1,1,1,1,0,1,0,0],.b 2,.c [1,1,1,1,1,1,1]] [(0,pg ga0 0),(1,iv a1),(10,.slice Av_gone10 v_gone10.length cv_gone10),(11,.slice A1 y1.length c1),(12,iv v_i12),(59,.bool t1)] H (chv_gone10 :: ch1 :: (some (ga0,.cells #[.int .i64 v_c0_0,.int .i64 v_c0_1,.slice Av_c0_2 v_c0_2.length cv_c0_2,.slice Av_c0_3 v_c0_3.length cv_c0_3] 25 (0,0))) :: chv_c0_2 :: chv_c0_3 :: F) := by
   rcases bool_cases (t1) with hb3 | hb3
   ·replace heq := bif_true hb3 heq
    refine Ct t1 hb3 <| Ra 4 [1,1,1,1,1,1,0,1,0,0,1,0,0,0] [.c [1,1,1,1,1,1,0,1,0,0,1,0,0,1],.b 3,.c [1,1,1,1,1,1,0,1,0,0,1,1],.l [1,1,1,1,1,1,0,1,0,0],.b 2,.c [1,1,1,1,1,1,1]] ?_
    obtain ⟨x1,hx1,heq⟩ := bind_some heq
    obtain ⟨ha1,cs1,hK1,hcc1⟩ := ho2.get hx1
    obtain rfl : cs1 = [.string x1] := hK1
    refine Rv 5 [0,1,10,11,12,62,66] [.string x1] [.need (A1 = some (adr A1) ∧ (0 : Int) ≤ v_i12 ∧ v_i12 < ((y1.length : Nat) : Int)),.load ((adr A1).add (v_i12.toNat * 1)) (.string x1)] [(0,pg ga0 0),(1,iv a1),(10,.slice Av_gone10 v_gone10.length cv_gone10),(11,.slice A1 y1.length c1),(12,iv v_i12),(62,pg ga0 0),(66,.string x1)] (fun w hh => ⟨⟨ha1,(at?_some hx1).1,(at?_some hx1).2.1⟩,(hcc1 _ (hh.chin 1 rfl) 0 _ rfl)⟩) ?_
    refine RgH.pick 5 [2,3,4,0,1] (cs' := (some (ga0,.cells #[.int .i64 v_c0_0,.int .i64 v_c0_1,.slice Av_c0_2 v_c0_2.length cv_c0_2,.slice Av_c0_3 v_c0_3.length cv_c0_3] 25 (0,0))) :: chv_c0_2 :: chv_c0_3 :: chv_gone10 :: ch1 :: F) (by kernel_rfl) rfl ?_
    obtain ⟨y3,hy3,heq⟩ := bind_some heq
    refine RgH.does (DoesH.call (d := 67) (g := 125) (args := #[.pointer (some ⟨ga0,0,none⟩),.string x1]) (by kernel_rfl) (smithyardref7_drop_2_c (a0 := (⟨v_c0_0,v_c0_1,v_c0_2,v_c0_3⟩ : Cache)) (a1 := x1) hov_c0_2 rfl hov_c0_3 rfl hy3)) ?_
    rintro _ _ _ _ ⟨_,rfl,A2,c2,ch2,A3,c3,ch3,rfl,rfl,rfl,ho3,ho4⟩
    refine Dn <| Rr ?_
    obtain ⟨x2,hx2,heq⟩ := bind_some heq
    obtain ⟨ha2,cs2,hK2,hcc2⟩ := ho2.get hx2
    obtain rfl : cs2 = [.string x2] := hK2
    refine Rv 5 [0,1,11,12,68,72] [.string x2] [.need (A1 = some (adr A1) ∧ (0 : Int) ≤ v_i12 ∧ v_i12 < ((y1.length : Nat) : Int)),.load ((adr A1).add (v_i12.toNat * 1)) (.string x2)] [(0,pg ga0 0),(1,iv a1),(11,.slice A1 y1.length c1),(12,iv v_i12),(68,.slice Av_gone10 v_gone10.length cv_gone10),(72,.string x2)] (fun w hh => ⟨⟨ha2,(at?_some hx2).1,(at?_some hx2).2.1⟩,(hcc2 _ (hh.chin 4 rfl) 0 _ rfl)⟩) ?_
    refine RgH.does (DoesH.new (d := 73) (v := fun g => .slice (some ⟨g,0,none⟩) 1 1) (o := fun g => .cells #[.string x2] 9 (0,0)) (fun g => by kernel_rfl)) ?_
    rintro _ _ _ _ ⟨g1,rfl,rfl,rfl⟩
    have ho5 : SlOwn Kd.string 9 H (some ⟨g1,0,none⟩) 1 ([x2] : List ByteArray) (some (g1,.cells #[.string x2] 9 (0,0))) := SlOwn.lit (xs := ([x2] : List ByteArray)) (by kernel_rfl) (Nat.le_of_ble_eq_true (by kernel_rfl)) (Kd.Rep.scalars rfl)
    obtain ⟨hn1,heq⟩ := guard?_some heq
    refine RgH.does (DoesH.append (d := 74) (k := 4) (t := 34) (e := 9) (bytes := 16) (kd := Kd.string) (n := v_gone10.length) (m := 1) (xs := v_gone10) (ys := ([x2] : List ByteArray)) (A := Av_gone10) (B := (some ⟨g1,0,none⟩)) (c := cv_gone10) (cB := 1) (by kernel_rfl) rfl rfl (by kernel_rfl) rfl hov_gone10 (fun w hh => ho5.rdb (hh.chin 0 rfl)) (room_le hn1) (by have := room_le hn1; omega)) ?_
    rintro _ _ _ _ ⟨A4,c4,ch4,rfl,rfl,rfl,ho6⟩
    refine Rd 8 [0,1,10,11,12] [(0,pg ga0 0),(1,iv a1),(10,.slice A4 ((v_gone10 ++ ([x2] : List ByteArray)).length) c4),(11,.slice A1 y1.length c1),(12,iv v_i12)] <| Ra 1 [1,1,1,1,1,1,0,1,0,0,1,1] [.l [1,1,1,1,1,1,0,1,0,0],.b 2,.c [1,1,1,1,1,1,1]] <| Rd 3 [0,1,10,11,12] [(0,pg ga0 0),(1,iv a1),(10,.slice A4 ((v_gone10 ++ ([x2] : List ByteArray)).length) c4),(11,.slice A1 y1.length c1),(12,iv (w64 (v_i12 + 1)))] <| Ad 1 [.c [1,1,1,1,1,1,0,1,0,0],.l [1,1,1,1,1,1,0,1,0,0],.b 2,.c [1,1,1,1,1,1,1]] <| Kp [0,1,10,11,12] [(0,pg ga0 0),(1,iv a1),(10,.slice A4 ((v_gone10 ++ ([x2] : List ByteArray)).length) c4),(11,.slice A1 y1.length c1),(12,iv (w64 (v_i12 + 1)))] ?_
    refine RunH.pick 6 [4,5,1,2,3] (cs' := ch4 :: ch1 :: (some (ga0,.cells #[.int .i64 y3.Room,.int .i64 y3.Lease,.slice A2 y3.Blobs.length c2,.slice A3 y3.Entries.length c3] 25 (0,0))) :: ch2 :: ch3 :: F) (by kernel_rfl) rfl ?_
    exact ihk _ a1 y1 _ _ _ y3.Room y3.Lease y3.Blobs _ _ _ _ y3.Entries _ _ _ _ (v_gone10 ++ ([x2] : List ByteArray)) _ _ _ _ (w64 (v_i12 + 1)) ho2 ho3 rfl ho4 rfl ho6 rfl heq
   ·replace heq := bif_false hb3 heq
    refine Cf t1 hb3 <| Ad 2 [.c [1,1,1,1,1,1,1,0],.c [1,1,1,1,1,1,1,1]] <| Kp [0,10] [(0,pg ga0 0),(10,.slice Av_gone10 v_gone10.length cv_gone10)] ?_
    refine RunH.pick 5 [0,2,3,4] (cs' := chv_gone10 :: (some (ga0,.cells #[.int .i64 v_c0_0,.int .i64 v_c0_1,.slice Av_c0_2 v_c0_2.length cv_c0_2,.slice Av_c0_3 v_c0_3.length cv_c0_3] 25 (0,0))) :: chv_c0_2 :: chv_c0_3 :: F) (by kernel_rfl) rfl ?_
    exact he2 _ v_c0_0 v_c0_1 v_c0_2 _ _ _ _ v_c0_3 _ _ _ _ v_gone10 _ _ _ _ hov_c0_2 rfl hov_c0_3 rfl hov_gone10 rfl heq
  replace heq := ht1
  refine Rr <| Rk 5 [51,0,1,10,11,12] [(51,.bool (decide (v_i12 < (y1.length : Int)))),(0,pg ga0 0),(1,iv a1),(10,.slice Av_gone10 v_gone10.length cv_gone10),(11,.slice A1 y1.length c1),(12,iv v_i12)] ?_
  rcases bool_cases (decide (v_i12 < (y1.length : Int))) with hb2 | hb2
  ·replace heq := bif_true hb2 heq
   refine RgH.val1 (v' := .bool true) (congrArg Value.bool hb2) ?_
   refine Rv 9 [0,1,10,11,12,51,55] [.slice Av_c0_2 v_c0_2.length cv_c0_2] [.load ⟨ga0,2,none⟩ (.slice Av_c0_2 v_c0_2.length cv_c0_2)] [(0,pg ga0 0),(1,iv a1),(10,.slice Av_gone10 v_gone10.length cv_gone10),(11,.slice A1 y1.length c1),(12,iv v_i12),(51,.bool true),(55,.slice Av_c0_2 v_c0_2.length cv_c0_2)] (fun w hh => (hh.box 2 rfl rfl)) ?_
   obtain ⟨y2,hy2,heq⟩ := bind_some heq
   refine RgH.does (DoesH.call (d := 56) (g := 64) (args := #[.slice Av_c0_2 v_c0_2.length cv_c0_2]) (by kernel_rfl) (smithyardref7_bytesOf_c (a0 := v_c0_2) (hov_c0_2.rw (.tail _ (.tail _ (.tail _ (.head _))))) hov_c0_2.cap rfl hy2)) ?_
   rintro _ _ _ _ ⟨_,rfl,rfl,rfl,rfl⟩
   refine Rk 13 [0,1,10,11,12,59] [(0,pg ga0 0),(1,iv a1),(10,.slice Av_gone10 v_gone10.length cv_gone10),(11,.slice A1 y1.length c1),(12,iv v_i12),(59,.bool (decide (a1 < y2)))] ?_
   obtain rfl := Option.some.inj heq
   refine Kg [0,1,10,11,12,59] [(0,pg ga0 0),(1,iv a1),(10,.slice Av_gone10 v_gone10.length cv_gone10),(11,.slice A1 y1.length c1),(12,iv v_i12),(59,.bool (decide (a1 < y2)))] <| Dn ?_
   exact K12
  ·replace heq := bif_false hb2 heq
   refine RgH.val1 (v' := .bool false) (congrArg Value.bool hb2) ?_
   refine Rk 13 [0,1,10,11,12,59] [(0,pg ga0 0),(1,iv a1),(10,.slice Av_gone10 v_gone10.length cv_gone10),(11,.slice A1 y1.length c1),(12,iv v_i12),(59,.bool false)] ?_
   obtain rfl := Option.some.inj heq
   refine Kg [0,1,10,11,12,59] [(0,pg ga0 0),(1,iv a1),(10,.slice Av_gone10 v_gone10.length cv_gone10),(11,.slice A1 y1.length c1),(12,iv v_i12),(59,.bool false)] <| Dn ?_
   exact K12
theorem smithyardref7_space.e1_c {w0 : World} {H : Hp} {F : List Ch} {r : (List ByteArray) × Bool × Cache} : ∀ (ga0 : Nat) (a0 : Cache) (Aa0_2 : Option Addr) (ca0_2 : Nat) (cha0_2 : Ch) (Aa0_3 : Option Addr) (ca0_3 : Nat) (cha0_3 : Ch) (a1 : Int) (a2 : Int) (v_stay8 : Int) ,SlOwn kBlob 47 H Aa0_2 ca0_2 a0.Blobs cha0_2 → SlOwn kEntry 51 H Aa0_3 ca0_3 a0.Entries cha0_3 → smithyardref7_space.e1 a0 a1 a2 v_stay8 = some r → RunH C88 (S88 F H ga0 r) H w0 [.c [1,1,1,0,0],.c [1,1,1,0,1],.c [1,1,1,1]] [(0,pg ga0 0),(1,iv a1),(2,iv a2),(8,iv v_stay8)] H ((some (ga0,.cells #[.int .i64 a0.Room,.int .i64 a0.Lease,.slice Aa0_2 a0.Blobs.length ca0_2,.slice Aa0_3 a0.Entries.length ca0_3] 25 (0,0))) :: cha0_2 :: cha0_3 :: F) := by
 intro ga0 a0 Aa0_2 ca0_2 cha0_2 Aa0_3 ca0_3 cha0_3 a1 a2 v_stay8 hoa0_2 hoa0_3 heq
 unfold smithyardref7_space.e1 at heq
 refine Rr <| Rd 3 [0,1,2,43] [(0,pg ga0 0),(1,iv a1),(2,iv a2),(43,.bool (decide (a1 < v_stay8)))] ?_
 rcases bool_cases (decide (a1 < v_stay8)) with hb1 | hb1
 ·replace heq := bif_true hb1 heq
  refine Ct (decide (a1 < v_stay8)) hb1 <| Ra 1 [1,1,1,0,1,0,0] [.c [1,1,1,0,1,0,1],.c [1,1,1,1]] <| Rd 2 [0,6,7] [(0,pg ga0 0),(6,.slice none 0 0),(7,.bool false)] <| RunH.nilc ?_
  have ho1 : SlOwn Kd.string 9 H none 0 ([] : List ByteArray) none := SlOwn.nil
  obtain rfl := Option.some.inj heq
  exact RunH.done (by kernel_rfl) Tryd.func88 (v := .tuple #[.slice none 0 0,.bool false]) (by kernel_rfl) ⟨none,0,none,Aa0_2,ca0_2,cha0_2,Aa0_3,ca0_3,cha0_3,rfl,rfl,rfl,ho1,hoa0_2,hoa0_3⟩
 ·replace heq := bif_false hb1 heq
  refine Cf (decide (a1 < v_stay8)) hb1 <| Ra 2 [1,1,1,1,0] [.c [1,1,1,1,1]] <| Rd 1 [0,1,2,10] [(0,pg ga0 0),(1,iv a1),(2,iv a2),(10,.slice none 0 0)] <| Ra 1 [1,1,1,1,1,0] [.c [1,1,1,1,1,1]] <| Rk 2 [0,1,10,44,45] [(0,pg ga0 0),(1,iv a1),(10,.slice none 0 0),(44,pg ga0 0),(45,iv a2)] ?_
  obtain ⟨y1,hy1,heq⟩ := bind_some heq
  refine RgH.does (DoesH.call (d := 46) (g := 86) (args := #[.pointer (some ⟨ga0,0,none⟩),.int .i64 a2]) (by kernel_rfl) (smithyardref7_row_c (a0 := (⟨a0.Room,a0.Lease,a0.Blobs,a0.Entries⟩ : Cache)) (a1 := a2) (hoa0_2.rw (.tail _ (.head _))) hoa0_2.cap rfl (hoa0_3.rw (.tail _ (.tail _ (.head _)))) hoa0_3.cap rfl (.inr (.head _)) hy1)) ?_
  rintro _ _ _ _ ⟨_,rfl,A1,c1,ch1,rfl,rfl,rfl,ho2⟩
  refine Rd 4 [0,1,10,11] [(0,pg ga0 0),(1,iv a1),(10,.slice none 0 0),(11,.slice A1 y1.length c1)] <| Ra 2 [1,1,1,1,1,1,0,0] [.c [1,1,1,1,1,1,0,1],.c [1,1,1,1,1,1,1]] <| Rd 1 [0,1,10,11,12] [(0,pg ga0 0),(1,iv a1),(10,.slice none 0 0),(11,.slice A1 y1.length c1),(12,iv 0)] <| Ad 2 [.c [1,1,1,1,1,1,0,1,0,0],.l [1,1,1,1,1,1,0,1,0,0],.b 2,.c [1,1,1,1,1,1,1]] <| RunH.nilc ?_
  have ho7 : SlOwn Kd.string 9 H none 0 ([] : List ByteArray) none := SlOwn.nil
  refine Kp [0,1,10,11,12] [(0,pg ga0 0),(1,iv a1),(10,.slice none 0 0),(11,.slice A1 y1.length c1),(12,iv 0)] ?_
  exact ((smithyardref7_space.l3_c (e2 := smithyardref7_space.e2) (smithyardref7_space.e2_c)) big) _ a1 y1 _ _ _ a0.Room a0.Lease a0.Blobs _ _ _ _ a0.Entries _ _ _ _ ([] : List ByteArray) _ _ _ _ 0 ho2 hoa0_2 rfl hoa0_3 rfl ho7 rfl heq
theorem smithyardref7_space.j5_c {w0 : World} {H : Hp} {F : List Ch} {r : (List ByteArray) × Bool × Cache} (backl4 : Cache → Int → Int → Int → Int → Option ((List ByteArray) × Bool × Cache))
  (hbackl4 : ∀ (ga0 : Nat) (a0 : Cache) (Aa0_2 : Option Addr) (ca0_2 : Nat) (cha0_2 : Ch) (Aa0_3 : Option Addr) (ca0_3 : Nat) (cha0_3 : Ch) (a1 : Int) (a2 : Int) (v_stay8 : Int) (v_i9 : Int) ,SlOwn kBlob 47 H Aa0_2 ca0_2 a0.Blobs cha0_2 → SlOwn kEntry 51 H Aa0_3 ca0_3 a0.Entries cha0_3 → backl4 a0 a1 a2 v_stay8 v_i9 = some r → RunH C88 (S88 F H ga0 r) H w0 [.c [1,1,0,1,0,0],.l [1,1,0,1,0,0],.b 0,.c [1,1,1]] [(0,pg ga0 0),(1,iv a1),(2,iv a2),(8,iv v_stay8),(9,iv v_i9)] H ((some (ga0,.cells #[.int .i64 a0.Room,.int .i64 a0.Lease,.slice Aa0_2 a0.Blobs.length ca0_2,.slice Aa0_3 a0.Entries.length ca0_3] 25 (0,0))) :: cha0_2 :: cha0_3 :: F)) : ∀ (ga0 : Nat) (a0 : Cache) (Aa0_2 : Option Addr) (ca0_2 : Nat) (cha0_2 : Ch) (Aa0_3 : Option Addr) (ca0_3 : Nat) (cha0_3 : Ch) (a1 : Int) (a2 : Int) (v_i9 : Int) (v_stay8 : Int) ,SlOwn kBlob 47 H Aa0_2 ca0_2 a0.Blobs cha0_2 → SlOwn kEntry 51 H Aa0_3 ca0_3 a0.Entries cha0_3 → smithyardref7_space.j5 backl4 a0 a1 a2 v_i9 v_stay8 = some r → RunH C88 (S88 F H ga0 r) H w0 [.c [1,1,0,1,0,0,1,1],.l [1,1,0,1,0,0],.b 0,.c [1,1,1]] [(0,pg ga0 0),(1,iv a1),(2,iv a2),(8,iv v_stay8),(9,iv v_i9)] H ((some (ga0,.cells #[.int .i64 a0.Room,.int .i64 a0.Lease,.slice Aa0_2 a0.Blobs.length ca0_2,.slice Aa0_3 a0.Entries.length ca0_3] 25 (0,0))) :: cha0_2 :: cha0_3 :: F) := by
 intro ga0 a0 Aa0_2 ca0_2 cha0_2 Aa0_3 ca0_3 cha0_3 a1 a2 v_i9 v_stay8 hoa0_2 hoa0_3 heq
 unfold smithyardref7_space.j5 at heq
 refine Rr <| Rd 3 [0,1,2,8,9] [(0,pg ga0 0),(1,iv a1),(2,iv a2),(8,iv v_stay8),(9,iv (w64 (v_i9 + 1)))] <| Ad 1 [.c [1,1,0,1,0,0],.l [1,1,0,1,0,0],.b 0,.c [1,1,1]] <| Kp [0,1,2,8,9] [(0,pg ga0 0),(1,iv a1),(2,iv a2),(8,iv v_stay8),(9,iv (w64 (v_i9 + 1)))] ?_
 exact hbackl4 _ a0 _ _ _ _ _ _ a1 a2 v_stay8 (w64 (v_i9 + 1)) hoa0_2 hoa0_3 heq
theorem smithyardref7_space.l4_c {w0 : World} {H : Hp} {F : List Ch} {r : (List ByteArray) × Bool × Cache} (e1 : Cache → Int → Int → Int → Option ((List ByteArray) × Bool × Cache))
  (he1 : ∀ (ga0 : Nat) (a0 : Cache) (Aa0_2 : Option Addr) (ca0_2 : Nat) (cha0_2 : Ch) (Aa0_3 : Option Addr) (ca0_3 : Nat) (cha0_3 : Ch) (a1 : Int) (a2 : Int) (v_stay8 : Int) ,SlOwn kBlob 47 H Aa0_2 ca0_2 a0.Blobs cha0_2 → SlOwn kEntry 51 H Aa0_3 ca0_3 a0.Entries cha0_3 → e1 a0 a1 a2 v_stay8 = some r → RunH C88 (S88 F H ga0 r) H w0 [.c [1,1,1,0,0],.c [1,1,1,0,1],.c [1,1,1,1]] [(0,pg ga0 0),(1,iv a1),(2,iv a2),(8,iv v_stay8)] H ((some (ga0,.cells #[.int .i64 a0.Room,.int .i64 a0.Lease,.slice Aa0_2 a0.Blobs.length ca0_2,.slice Aa0_3 a0.Entries.length ca0_3] 25 (0,0))) :: cha0_2 :: cha0_3 :: F)) : ∀ (k : Nat),∀ (ga0 : Nat) (a0 : Cache) (Aa0_2 : Option Addr) (ca0_2 : Nat) (cha0_2 : Ch) (Aa0_3 : Option Addr) (ca0_3 : Nat) (cha0_3 : Ch) (a1 : Int) (a2 : Int) (v_stay8 : Int) (v_i9 : Int) ,SlOwn kBlob 47 H Aa0_2 ca0_2 a0.Blobs cha0_2 → SlOwn kEntry 51 H Aa0_3 ca0_3 a0.Entries cha0_3 → smithyardref7_space.l4 e1 k a0 a1 a2 v_stay8 v_i9 = some r → RunH C88 (S88 F H ga0 r) H w0 [.c [1,1,0,1,0,0],.l [1,1,0,1,0,0],.b 0,.c [1,1,1]] [(0,pg ga0 0),(1,iv a1),(2,iv a2),(8,iv v_stay8),(9,iv v_i9)] H ((some (ga0,.cells #[.int .i64 a0.Room,.int .i64 a0.Lease,.slice Aa0_2 a0.Blobs.length ca0_2,.slice Aa0_3 a0.Entries.length ca0_3] 25 (0,0))) :: cha0_2 :: cha0_3 :: F) := by
 intro k
 induction k with
 | zero => intro ga0 a0 Aa0_2 ca0_2 cha0_2 Aa0_3 ca0_3 cha0_3 a1 a2 v_stay8 v_i9 hoa0_2 hoa0_3 heq; exact nomatch (show (none : Option ((List ByteArray) × Bool × Cache)) = some r from heq)
 | succ k ihk =>
  intro ga0 a0 Aa0_2 ca0_2 cha0_2 Aa0_3 ca0_3 cha0_3 a1 a2 v_stay8 v_i9 hoa0_2 hoa0_3 heq
  rw [smithyardref7_space.l4] at heq
  refine Ra 2 [1,1,0,1,0,0,0,0] [.c [1,1,0,1,0,0,0,1],.c [1,1,0,1,0,0,1],.l [1,1,0,1,0,0],.b 0,.c [1,1,1]] <| Rw' 7 [0,1,2,8,9,19] [.slice Aa0_2 a0.Blobs.length ca0_2] [.load ⟨ga0,2,none⟩ (.slice Aa0_2 a0.Blobs.length ca0_2)] [(0,pg ga0 0),(1,iv a1),(2,iv a2),(8,iv v_stay8),(9,iv v_i9),(19,.bool (decide (v_i9 < (a0.Blobs.length : Int))))] (fun w hh => (hh.box 0 rfl rfl)) ?_
  rcases bool_cases (decide (v_i9 < (a0.Blobs.length : Int))) with hb4 | hb4
  ·replace heq := bif_true hb4 heq
   refine Ct (decide (v_i9 < (a0.Blobs.length : Int))) hb4 <| Ra 4 [1,1,0,1,0,0,1,0,0,0] [.c [1,1,0,1,0,0,1,0,0,1],.b 1,.c [1,1,0,1,0,0,1,1],.l [1,1,0,1,0,0],.b 0,.c [1,1,1]] ?_
   obtain ⟨x3,hx3,heq⟩ := bind_some heq
   obtain ⟨ha3,cs3,hK3,hcc3⟩ := hoa0_2.get hx3
   obtain ⟨rfl⟩ := kBlob_open hK3
   refine Rv 8 [0,1,2,8,9,28,29] [.slice Aa0_2 a0.Blobs.length ca0_2,.string x3.Digest,.int .i64 x3.Size,.int .i64 x3.Used,.int .i64 x3.Until,.int .i64 x3.Pins] [.load ⟨ga0,2,none⟩ (.slice Aa0_2 a0.Blobs.length ca0_2),.need (Aa0_2 = some (adr Aa0_2) ∧ (0 : Int) ≤ v_i9 ∧ v_i9 < ((a0.Blobs.length : Nat) : Int)),.load (((adr Aa0_2).add (v_i9.toNat * 5)).add 0) (.string x3.Digest),.load (((adr Aa0_2).add (v_i9.toNat * 5)).add 1) (.int .i64 x3.Size),.load (((adr Aa0_2).add (v_i9.toNat * 5)).add 2) (.int .i64 x3.Used),.load (((adr Aa0_2).add (v_i9.toNat * 5)).add 3) (.int .i64 x3.Until),.load (((adr Aa0_2).add (v_i9.toNat * 5)).add 4) (.int .i64 x3.Pins)] [(0,pg ga0 0),(1,iv a1),(2,iv a2),(8,iv v_stay8),(9,iv v_i9),(28,.agg #[.string x3.Digest,.int .i64 x3.Size,.int .i64 x3.Used,.int .i64 x3.Until,.int .i64 x3.Pins]),(29,iv a2)] (fun w hh => ⟨(hh.box 0 rfl rfl),⟨ha3,(at?_some hx3).1,(at?_some hx3).2.1⟩,(hcc3 _ (hh.chin 1 rfl) 0 _ rfl),(hcc3 _ (hh.chin 1 rfl) 1 _ rfl),(hcc3 _ (hh.chin 1 rfl) 2 _ rfl),(hcc3 _ (hh.chin 1 rfl) 3 _ rfl),(hcc3 _ (hh.chin 1 rfl) 4 _ rfl)⟩) ?_
   obtain ⟨y4,hy4,heq⟩ := bind_some heq
   refine RgH.does (DoesH.call (d := 30) (g := 90) (args := #[.agg #[.string x3.Digest,.int .i64 x3.Size,.int .i64 x3.Used,.int .i64 x3.Until,.int .i64 x3.Pins],.int .i64 a2]) (by kernel_rfl) (smithyardref7_held_c (a0 := x3) (a1 := a2)  hy4)) ?_
   rintro _ _ _ _ ⟨_,rfl,rfl,rfl,rfl⟩
   refine Dn ?_
   rcases bool_cases (y4) with hb5 | hb5
   ·replace heq := bif_true hb5 heq
    refine Ct y4 hb5 <| Rr ?_
    obtain ⟨x4,hx4,heq⟩ := bind_some heq
    obtain ⟨ha4,cs4,hK4,hcc4⟩ := hoa0_2.get hx4
    obtain ⟨rfl⟩ := kBlob_open hK4
    refine Rw' 11 [0,1,2,8,9] [.slice Aa0_2 a0.Blobs.length ca0_2,.int .i64 x4.Size] [.load ⟨ga0,2,none⟩ (.slice Aa0_2 a0.Blobs.length ca0_2),.need (Aa0_2 = some (adr Aa0_2) ∧ (0 : Int) ≤ v_i9 ∧ v_i9 < ((a0.Blobs.length : Nat) : Int)),.load (((adr Aa0_2).add (v_i9.toNat * 5)).add 1) (.int .i64 x4.Size)] [(0,pg ga0 0),(1,iv a1),(2,iv a2),(8,iv (w64 (v_stay8 + x4.Size))),(9,iv v_i9)] (fun w hh => ⟨(hh.box 0 rfl rfl),⟨ha4,(at?_some hx4).1,(at?_some hx4).2.1⟩,(hcc4 _ (hh.chin 1 rfl) 1 _ rfl)⟩) <| Ad 1 [.c [1,1,0,1,0,0,1,1],.l [1,1,0,1,0,0],.b 0,.c [1,1,1]] <| Kp [0,1,2,8,9] [(0,pg ga0 0),(1,iv a1),(2,iv a2),(8,iv (w64 (v_stay8 + x4.Size))),(9,iv v_i9)] ?_
    exact (smithyardref7_space.j5_c (backl4 := (smithyardref7_space.l4 e1 k)) ihk) _ a0 _ _ _ _ _ _ a1 a2 v_i9 (w64 (v_stay8 + x4.Size)) hoa0_2 hoa0_3 heq
   ·replace heq := bif_false hb5 heq
    refine Cf y4 hb5 <| Ad 2 [.c [1,1,0,1,0,0,1,1],.l [1,1,0,1,0,0],.b 0,.c [1,1,1]] <| Kp [0,1,2,8,9] [(0,pg ga0 0),(1,iv a1),(2,iv a2),(8,iv v_stay8),(9,iv v_i9)] ?_
    exact (smithyardref7_space.j5_c (backl4 := (smithyardref7_space.l4 e1 k)) ihk) _ a0 _ _ _ _ _ _ a1 a2 v_i9 v_stay8 hoa0_2 hoa0_3 heq
  ·replace heq := bif_false hb4 heq
   refine Cf (decide (v_i9 < (a0.Blobs.length : Int))) hb4 <| Ad 3 [.c [1,1,1,0,0],.c [1,1,1,0,1],.c [1,1,1,1]] <| Kp [0,1,2,8] [(0,pg ga0 0),(1,iv a1),(2,iv a2),(8,iv v_stay8)] ?_
   exact he1 _ a0 _ _ _ _ _ _ a1 a2 v_stay8 hoa0_2 hoa0_3 heq
theorem smithyardref7_space_c {w0 : World} {H : Hp} {F : List Ch} {ga0 : Nat} {a0 : Cache} {Aa0_2 : Option Addr} {na0_2 : Nat} {ca0_2 : Nat} {cha0_2 : Ch} {Aa0_3 : Option Addr} {na0_3 : Nat} {ca0_3 : Nat} {cha0_3 : Ch} {a1 : Int} {a2 : Int} {r : (List ByteArray) × Bool × Cache} (hoa0_2 : SlOwn kBlob 47 H Aa0_2 ca0_2 a0.Blobs cha0_2) (hna0_2 : na0_2 = a0.Blobs.length) (hoa0_3 : SlOwn kEntry 51 H Aa0_3 ca0_3 a0.Entries cha0_3) (hna0_3 : na0_3 = a0.Entries.length) (heq : smithyardref7_space.f a0 a1 a2 = some r) : CallsH Tryd.prog 88 #[.pointer (some ⟨ga0,0,none⟩),.int .i64 a1,.int .i64 a2] H w0 ((some (ga0,.cells #[.int .i64 a0.Room,.int .i64 a0.Lease,.slice Aa0_2 na0_2 ca0_2,.slice Aa0_3 na0_3 ca0_3] 25 (0,0))) :: cha0_2 :: cha0_3 :: F) (S88 F H ga0 r) := by
 refine calls_of_runH (F := C88) Tryd.func88 (by kernel_rfl) Tryd.ntmps88 (args := [.pointer (some ⟨ga0,0,none⟩),.int .i64 a1,.int .i64 a2]) (by kernel_rfl) ?_
 subst hna0_2
 subst hna0_3
 unfold smithyardref7_space.f at heq
 refine Ra 1 [0] [.c [1]] <| Rd 2 [0,1,2] [(0,pg ga0 0),(1,iv a1),(2,iv a2)] <| Ra 1 [1,0] [.c [1,1]] <| Rd 1 [0,1,2,8] [(0,pg ga0 0),(1,iv a1),(2,iv a2),(8,iv 0)] <| Ra 2 [1,1,0,0] [.c [1,1,0,1],.c [1,1,1]] <| Rd 1 [0,1,2,8,9] [(0,pg ga0 0),(1,iv a1),(2,iv a2),(8,iv 0),(9,iv 0)] <| Ad 2 [.c [1,1,0,1,0,0],.l [1,1,0,1,0,0],.b 0,.c [1,1,1]] <| Kp [0,1,2,8,9] [(0,pg ga0 0),(1,iv a1),(2,iv a2),(8,iv 0),(9,iv 0)] ?_
 exact ((smithyardref7_space.l4_c (e1 := smithyardref7_space.e1) (smithyardref7_space.e1_c)) big) _ a0 _ _ _ _ _ _ a1 a2 0 0 hoa0_2 hoa0_3 heq
noncomputable def C41 : Ctx := { P := Tryd.prog,f := 41,N := 40,c := bodyOf Tryd.f41 }
def S41 (F : List Ch) (H0 : Hp) (r : Bool × Int) (v : Value) (H : Hp) (cs : List Ch) : Prop := v = .tuple #[.bool r.1,.int .i64 r.2] ∧ F = cs
theorem smithyardref7_Fits_c {w0 : World} {H0 : Hp} {F : List Ch} {a0 : Cache} {Aa0_2 : Option Addr} {na0_2 : Nat} {ca0_2 : Nat} {Aa0_3 : Option Addr} {na0_3 : Nat} {ca0_3 : Nat} {a1 : Int} {a2 : Int} {r : Bool × Int} (hra0_2 : Rw kBlob H0 F Aa0_2 a0.Blobs) (hca0_2 : na0_2 ≤ ca0_2) (hna0_2 : na0_2 = a0.Blobs.length) (hra0_3 : Rw kEntry H0 F Aa0_3 a0.Entries) (hca0_3 : na0_3 ≤ ca0_3) (hna0_3 : na0_3 = a0.Entries.length) (heq : smithyardref7_Fits.f a0 a1 a2 = some r) : CallsH Tryd.prog 41 #[.agg #[.int .i64 a0.Room,.int .i64 a0.Lease,.slice Aa0_2 na0_2 ca0_2,.slice Aa0_3 na0_3 ca0_3],.int .i64 a1,.int .i64 a2] H0 w0 (F) (S41 F H0 r) := by
 refine calls_of_runH (F := C41) Tryd.func41 (by kernel_rfl) Tryd.ntmps41 (args := [.agg #[.int .i64 a0.Room,.int .i64 a0.Lease,.slice Aa0_2 na0_2 ca0_2,.slice Aa0_3 na0_3 ca0_3],.int .i64 a1,.int .i64 a2]) (by kernel_rfl) ?_
 subst hna0_2
 subst hna0_3
 unfold smithyardref7_Fits.f at heq
 suffices key : ∀ (H : Hp),Rw kBlob H F Aa0_2 a0.Blobs → Rw kEntry H F Aa0_3 a0.Entries → RunH C41 (S41 F H0 r) H0 w0 [.c []] (argL 0 [.agg #[.int .i64 a0.Room,.int .i64 a0.Lease,.slice Aa0_2 (a0.Blobs.length) ca0_2,.slice Aa0_3 (a0.Entries.length) ca0_3],.int .i64 a1,.int .i64 a2]) H (F) from key H0 hra0_2 hra0_3
 intro H hra0_2 hra0_3
 refine Ra 1 [0] [.c [1]] ?_
 refine RgH.does (DoesH.new (d := 3) (v := fun g => .pointer (some ⟨g,0,none⟩)) (o := fun g => .cells #[.int .i64 a0.Room,.int .i64 a0.Lease,.slice Aa0_2 a0.Blobs.length ca0_2,.slice Aa0_3 a0.Entries.length ca0_3] 25 (0,0)) (fun g => by kernel_rfl)) ?_
 rintro _ _ _ _ ⟨g1,rfl,rfl,rfl⟩
 refine Rd 3 [1,2,3] [(1,iv a1),(2,iv a2),(3,pg g1 0)] <| Ra 2 [1,0,0] [.c [1,0,1],.c [1,1]] <| Rv 1 [1,2,3,11] [.int .i64 a0.Room,.int .i64 a0.Lease,.slice Aa0_2 a0.Blobs.length ca0_2,.slice Aa0_3 a0.Entries.length ca0_3] [.load ⟨g1,0,none⟩ (.int .i64 a0.Room),.load ⟨g1,1,none⟩ (.int .i64 a0.Lease),.load ⟨g1,2,none⟩ (.slice Aa0_2 a0.Blobs.length ca0_2),.load ⟨g1,3,none⟩ (.slice Aa0_3 a0.Entries.length ca0_3)] [(1,iv a1),(2,iv a2),(3,pg g1 0),(11,.agg #[.int .i64 a0.Room,.int .i64 a0.Lease,.slice Aa0_2 a0.Blobs.length ca0_2,.slice Aa0_3 a0.Entries.length ca0_3])] (fun w hh => ⟨(hh.box 0 rfl rfl),(hh.box 0 rfl rfl),(hh.box 0 rfl rfl),(hh.box 0 rfl rfl)⟩) ?_
 obtain ⟨y1,hy1,heq⟩ := bind_some heq
 refine RgH.does (DoesH.call (d := 12) (g := 23) (args := #[.agg #[.int .i64 a0.Room,.int .i64 a0.Lease,.slice Aa0_2 a0.Blobs.length ca0_2,.slice Aa0_3 a0.Entries.length ca0_3]]) (by kernel_rfl) (smithyardref7_CheckCache_c (a0 := a0) (hra0_2.wk (fun _ h => (.tail _ h))) hca0_2 rfl (hra0_3.wk (fun _ h => (.tail _ h))) hca0_3 rfl hy1)) ?_
 rintro _ _ _ _ ⟨_,rfl,rfl,rfl,rfl⟩
 refine Rd 3 [1,2,3,8] [(1,iv a1),(2,iv a2),(3,pg g1 0),(8,iv y1)] <| Ra 1 [1,0,1,0] [.c [1,0,1,1],.c [1,1]] <| Rd 2 [1,2,3,8,14] [(1,iv a1),(2,iv a2),(3,pg g1 0),(8,iv y1),(14,.bool (y1 != 0))] ?_
 rcases bool_cases (y1 != 0) with hb1 | hb1
 ·replace heq := bif_true hb1 heq
  refine Ct (y1 != 0) hb1 <| Ra 1 [1,0,1,1,0,0] [.c [1,0,1,1,0,1],.c [1,1]] <| Rd 3 [6,7] [(6,.bool false),(7,iv y1)] ?_
  obtain rfl := Option.some.inj heq
  refine RunH.pick 1 [] (cs' := F) (by kernel_rfl) rfl ?_
  exact RunH.done (by kernel_rfl) Tryd.func41 (v := .tuple #[.bool false,.int .i64 y1]) (by kernel_rfl) ⟨rfl,rfl⟩
 ·replace heq := bif_false hb1 heq
  refine Cf (y1 != 0) hb1 <| Ad 3 [.c [1,1,0,0],.c [1,1,0,1],.c [1,1,1]] ?_
  obtain ⟨t1,ht1,heq⟩ := bind_some heq
  have K2 : ∀ (H : Hp),Rw kBlob H F Aa0_2 a0.Blobs → Rw kEntry H F Aa0_3 a0.Entries → RunH C41 (S41 F H0 r) H0 w0 [.c [1,1,0,1],.c [1,1,1]] [(1,iv a1),(2,iv a2),(3,pg g1 0),(23,.bool t1)] H ((some (g1,.cells #[.int .i64 a0.Room,.int .i64 a0.Lease,.slice Aa0_2 a0.Blobs.length ca0_2,.slice Aa0_3 a0.Entries.length ca0_3] 25 (0,0))) :: F) := by
   intro H hra0_2 hra0_3
   rcases bool_cases (t1) with hb3 | hb3
   ·replace heq := bif_true hb3 heq
    refine Ct t1 hb3 <| Ra 1 [1,1,0,1,0,0] [.c [1,1,0,1,0,1],.c [1,1,1]] <| Rd 2 [6,7] [(6,.bool false),(7,iv 1)] ?_
    obtain rfl := Option.some.inj heq
    refine RunH.pick 1 [] (cs' := F) (by kernel_rfl) rfl ?_
    exact RunH.done (by kernel_rfl) Tryd.func41 (v := .tuple #[.bool false,.int .i64 1]) (by kernel_rfl) ⟨rfl,rfl⟩
   ·replace heq := bif_false hb3 heq
    refine Cf t1 hb3 <| Ra 3 [1,1,1,0,0] [.c [1,1,1,0,1],.c [1,1,1,1]] <| Rw' 4 [1,2,3,27] [.int .i64 a0.Room] [.load ⟨g1,0,none⟩ (.int .i64 a0.Room)] [(1,iv a1),(2,iv a2),(3,pg g1 0),(27,.bool (decide (a0.Room < a1)))] (fun w hh => (hh.box 0 rfl rfl)) ?_
    rcases bool_cases (decide (a0.Room < a1)) with hb4 | hb4
    ·replace heq := bif_true hb4 heq
     refine Ct (decide (a0.Room < a1)) hb4 <| Ra 1 [1,1,1,0,1,0,0] [.c [1,1,1,0,1,0,1],.c [1,1,1,1]] <| Rd 2 [6,7] [(6,.bool false),(7,iv 0)] ?_
     obtain rfl := Option.some.inj heq
     refine RunH.pick 1 [] (cs' := F) (by kernel_rfl) rfl ?_
     exact RunH.done (by kernel_rfl) Tryd.func41 (v := .tuple #[.bool false,.int .i64 0]) (by kernel_rfl) ⟨rfl,rfl⟩
    ·replace heq := bif_false hb4 heq
     refine Cf (decide (a0.Room < a1)) hb4 <| Ad 2 [.c [1,1,1,1,0],.c [1,1,1,1,1]] <| Kp [1,2,3] [(1,iv a1),(2,iv a2),(3,pg g1 0)] ?_
     refine RunH.draw (fun w => Heap H w0 w ((some (g1,.cells #[.int .i64 a0.Room,.int .i64 a0.Lease,.slice Aa0_2 a0.Blobs.length ca0_2,.slice Aa0_3 a0.Entries.length ca0_3] 25 (0,0))) :: F)) (fun w => Heap H w0 w ((some (g1,.cells #[.int .i64 a0.Room,.int .i64 a0.Lease,.slice Aa0_2 a0.Blobs.length ca0_2,.slice Aa0_3 a0.Entries.length ca0_3] 25 (0,0))) :: F)) [3,0,3,3,3,3,3,0,3,3,3,3,3] (n := 13) (ls := [false,false,false,false,false,false,false,false,false,false,false,false,false]) (by kernel_rfl) (by kernel_rfl) (by kernel_rfl) rfl ?_
     refine Dk [0,2,3,4,5,6] 7 (nb 13 125) [.int .i64 a0.Room,.int .i64 a0.Lease,.slice Aa0_2 a0.Blobs.length ca0_2,.slice Aa0_3 a0.Entries.length ca0_3,.int .i64 a0.Room] [.load ⟨g1,0,none⟩ (.int .i64 a0.Room),.load ⟨g1,1,none⟩ (.int .i64 a0.Lease),.load ⟨g1,2,none⟩ (.slice Aa0_2 a0.Blobs.length ca0_2),.load ⟨g1,3,none⟩ (.slice Aa0_3 a0.Entries.length ca0_3),.load ⟨g1,0,none⟩ (.int .i64 a0.Room)] [29,34,35] [(29,.agg #[.int .i64 a0.Room,.int .i64 a0.Lease,.slice Aa0_2 a0.Blobs.length ca0_2,.slice Aa0_3 a0.Entries.length ca0_3]),(34,iv (w64 (a0.Room - a1))),(35,iv a2)] (Pk 1 [0]) (Pk 1 [0]) (fun w hh => ⟨(hh.box 0 rfl rfl),(hh.box 0 rfl rfl),(hh.box 0 rfl rfl),(hh.box 0 rfl rfl),(hh.box 0 rfl rfl)⟩) ?_
     obtain ⟨y4,hy4,heq⟩ := bind_some heq
     refine DrH.does (n := 6) (ls' := [true,true,true,true,true,true,true,false,false,false,false,false,false]) 1 (by kernel_rfl) rfl (DoesH.call (d := 30) (g := 82) (args := #[.agg #[.int .i64 a0.Room,.int .i64 a0.Lease,.slice Aa0_2 a0.Blobs.length ca0_2,.slice Aa0_3 a0.Entries.length ca0_3]]) (by kernel_rfl) (smithyardref7_copied_c (a0 := a0) (hra0_2.wk (fun _ h => (.tail _ h))) hca0_2 rfl (hra0_3.wk (fun _ h => (.tail _ h))) hca0_3 rfl hy4)) ?_
     rintro _ H _ hl ⟨_,rfl,g2,A1,c1,ch1,A2,c2,ch2,rfl,rfl,ho1,ho2⟩
     have hle := hl
     replace hra0_2 := hra0_2.mono hl
     replace hra0_3 := hra0_3.mono hl
     refine ⟨fun _ w hh => ⟨fun _ => (fun w hh => (hh.le hle).pick 4 [3] (by kernel_rfl)) w hh,fun _ => (fun w hh => (hh.le hle).pick 4 [3] (by kernel_rfl)) w hh,(fun h => by cases h)⟩,?_⟩
     refine Kr [30,34,35] [(30,pg g2 0),(34,iv (w64 (a0.Room - a1))),(35,iv a2)] ?_
     obtain ⟨y5,hy5,heq⟩ := bind_some heq
     refine DrH.does (n := 5) (ls' := [true,true,true,true,true,true,true,true,false,false,false,false,false]) 7 (by kernel_rfl) rfl (DoesH.call (d := 36) (g := 88) (args := #[.pointer (some ⟨g2,0,none⟩),.int .i64 (w64 (a0.Room - a1)),.int .i64 a2]) (by kernel_rfl) (smithyardref7_space_c (a0 := (⟨y4.Room,y4.Lease,y4.Blobs,y4.Entries⟩ : Cache)) (a1 := w64 (a0.Room - a1)) (a2 := a2) ho1 rfl ho2 rfl hy5)) ?_
     rintro _ _ _ _ ⟨_,rfl,A3,c3,ch3,A4,c4,ch4,A5,c5,ch5,rfl,rfl,rfl,ho3,ho4,ho5⟩
     refine ⟨fun _ w hh => ⟨fun _ => (fun w hh => (hh.le hle).pick 5 [4] (by kernel_rfl)) w hh,fun _ => (fun w hh => (hh.le hle).pick 5 [4] (by kernel_rfl)) w hh,(fun h => by cases h)⟩,?_⟩
     refine Dk [8,9,10,11,12] 0 (nb 13 8191) [] [] [10] [(10,.bool y5.2.1)] (fun w hh => (hh.le hle).pick 5 [4] (by kernel_rfl)) (Pk 1 [0]) (fun _ _ => trivial) ?_
     refine DrH.done (by kernel_rfl) ?_
     refine Ra 1 [1,1,1,1,1,0] [.c [1,1,1,1,1,1]] <| Rd 3 [6,7] [(6,.bool y5.2.1),(7,iv 0)] ?_
     obtain rfl := Option.some.inj heq
     refine RunH.pick 5 [] (cs' := F) (by kernel_rfl) rfl ?_
     exact RunH.done (by kernel_rfl) Tryd.func41 (v := .tuple #[.bool y5.2.1,.int .i64 0]) (by kernel_rfl) ⟨rfl,rfl⟩
  replace heq := ht1
  refine Rr <| Rk 1 [1,2,3,16] [(1,iv a1),(2,iv a2),(3,pg g1 0),(16,iv a2)] ?_
  obtain ⟨y2,hy2,heq⟩ := bind_some heq
  refine RgH.does (DoesH.call (d := 17) (g := 62) (args := #[.int .i64 a2,.int .i64 0,.int .i64 1000000000]) (by kernel_rfl) (smithyardref7_within_c (a0 := a2) (a1 := 0) (a2 := 1000000000)  hy2)) ?_
  rintro _ _ _ _ ⟨_,rfl,rfl,rfl,rfl⟩
  refine Rk 4 [19,1,2,3] [(19,.bool (!y2)),(1,iv a1),(2,iv a2),(3,pg g1 0)] ?_
  rcases bool_cases (!y2) with hb2 | hb2
  ·replace heq := bif_true hb2 heq
   refine RgH.val1 (v' := .bool true) (congrArg Value.bool hb2) ?_
   refine Rk 8 [1,2,3,23] [(1,iv a1),(2,iv a2),(3,pg g1 0),(23,.bool true)] ?_
   obtain rfl := Option.some.inj heq
   refine Kg [1,2,3,23] [(1,iv a1),(2,iv a2),(3,pg g1 0),(23,.bool true)] <| Dn ?_
   exact K2 _ hra0_2 hra0_3
  ·replace heq := bif_false hb2 heq
   refine RgH.val1 (v' := .bool false) (congrArg Value.bool hb2) ?_
   refine Rk 5 [1,2,3,19,20] [(1,iv a1),(2,iv a2),(3,pg g1 0),(19,.bool false),(20,iv a1)] ?_
   obtain ⟨y3,hy3,heq⟩ := bind_some heq
   refine RgH.does (DoesH.call (d := 21) (g := 62) (args := #[.int .i64 a1,.int .i64 0,.int .i64 100000000]) (by kernel_rfl) (smithyardref7_within_c (a0 := a1) (a1 := 0) (a2 := 100000000)  hy3)) ?_
   rintro _ _ _ _ ⟨_,rfl,rfl,rfl,rfl⟩
   refine Rk 8 [1,2,3,23] [(1,iv a1),(2,iv a2),(3,pg g1 0),(23,.bool (!y3))] ?_
   obtain rfl := Option.some.inj heq
   refine Kg [1,2,3,23] [(1,iv a1),(2,iv a2),(3,pg g1 0),(23,.bool (!y3))] <| Dn ?_
   exact K2 _ hra0_2 hra0_3
noncomputable def C8 : Ctx := { P := Tryd.prog,f := 8,N := 93,c := bodyOf Tryd.f8 }
def S8 (F : List Ch) (H0 : Hp) (r : Bool) (v : Value) (H : Hp) (cs : List Ch) : Prop := v = .bool r ∧ F = cs
theorem smithyardlaw7_CacheAsksMatchSpec_c {w0 : World} {H0 : Hp} {F : List Ch} {a0 : Cache} {Aa0_2 : Option Addr} {na0_2 : Nat} {ca0_2 : Nat} {Aa0_3 : Option Addr} {na0_3 : Nat} {ca0_3 : Nat} {a1 : ByteArray} {a2 : Int} {a3 : Int} {r : Bool} (hra0_2 : Rw kBlob H0 F Aa0_2 a0.Blobs) (hca0_2 : na0_2 ≤ ca0_2) (hna0_2 : na0_2 = a0.Blobs.length) (hra0_3 : Rw kEntry H0 F Aa0_3 a0.Entries) (hca0_3 : na0_3 ≤ ca0_3) (hna0_3 : na0_3 = a0.Entries.length) (heq : smithyardlaw7_CacheAsksMatchSpec.f a0 a1 a2 a3 = some r) : CallsH Tryd.prog 8 #[.agg #[.int .i64 a0.Room,.int .i64 a0.Lease,.slice Aa0_2 na0_2 ca0_2,.slice Aa0_3 na0_3 ca0_3],.string a1,.int .i64 a2,.int .i64 a3] H0 w0 (F) (S8 F H0 r) := by
 refine calls_of_runH (F := C8) Tryd.func8 (by kernel_rfl) Tryd.ntmps8 (args := [.agg #[.int .i64 a0.Room,.int .i64 a0.Lease,.slice Aa0_2 na0_2 ca0_2,.slice Aa0_3 na0_3 ca0_3],.string a1,.int .i64 a2,.int .i64 a3]) (by kernel_rfl) ?_
 subst hna0_2
 subst hna0_3
 unfold smithyardlaw7_CacheAsksMatchSpec.f at heq
 suffices key : ∀ (H : Hp),Rw kBlob H F Aa0_2 a0.Blobs → Rw kEntry H F Aa0_3 a0.Entries → RunH C8 (S8 F H0 r) H0 w0 [.c []] (argL 0 [.agg #[.int .i64 a0.Room,.int .i64 a0.Lease,.slice Aa0_2 (a0.Blobs.length) ca0_2,.slice Aa0_3 (a0.Entries.length) ca0_3],.string a1,.int .i64 a2,.int .i64 a3]) H (F) from key H0 hra0_2 hra0_3
 intro H hra0_2 hra0_3
 refine Ra 1 [0] [.c [1]] ?_
 refine RgH.does (DoesH.new (d := 4) (v := fun g => .pointer (some ⟨g,0,none⟩)) (o := fun g => .cells #[.int .i64 a0.Room,.int .i64 a0.Lease,.slice Aa0_2 a0.Blobs.length ca0_2,.slice Aa0_3 a0.Entries.length ca0_3] 25 (0,0)) (fun g => by kernel_rfl)) ?_
 rintro _ _ _ _ ⟨g1,rfl,rfl,rfl⟩
 refine Rd 2 [1,2,3,4] [(1,.string a1),(2,iv a2),(3,iv a3),(4,pg g1 0)] <| Ra 1 [1,0] [.c [1,1]] <| Rv 1 [1,2,3,4,18] [.int .i64 a0.Room,.int .i64 a0.Lease,.slice Aa0_2 a0.Blobs.length ca0_2,.slice Aa0_3 a0.Entries.length ca0_3] [.load ⟨g1,0,none⟩ (.int .i64 a0.Room),.load ⟨g1,1,none⟩ (.int .i64 a0.Lease),.load ⟨g1,2,none⟩ (.slice Aa0_2 a0.Blobs.length ca0_2),.load ⟨g1,3,none⟩ (.slice Aa0_3 a0.Entries.length ca0_3)] [(1,.string a1),(2,iv a2),(3,iv a3),(4,pg g1 0),(18,.agg #[.int .i64 a0.Room,.int .i64 a0.Lease,.slice Aa0_2 a0.Blobs.length ca0_2,.slice Aa0_3 a0.Entries.length ca0_3])] (fun w hh => ⟨(hh.box 0 rfl rfl),(hh.box 0 rfl rfl),(hh.box 0 rfl rfl),(hh.box 0 rfl rfl)⟩) ?_
 obtain ⟨y1,hy1,heq⟩ := bind_some heq
 refine RgH.does (DoesH.call (d := 19) (g := 18) (args := #[.agg #[.int .i64 a0.Room,.int .i64 a0.Lease,.slice Aa0_2 a0.Blobs.length ca0_2,.slice Aa0_3 a0.Entries.length ca0_3]]) (by kernel_rfl) (smithyardref7_Copy_c (a0 := a0) (hra0_2.wk (fun _ h => (.tail _ h))) hca0_2 rfl (hra0_3.wk (fun _ h => (.tail _ h))) hca0_3 rfl hy1)) ?_
 rintro _ H _ hl ⟨_,rfl,A1,c1,ch1,A2,c2,ch2,rfl,rfl,ho1,ho2⟩
 replace hra0_2 := hra0_2.mono hl
 replace hra0_3 := hra0_3.mono hl
 refine RgH.does (DoesH.new (d := 9) (v := fun g => .pointer (some ⟨g,0,none⟩)) (o := fun g => .cells #[.int .i64 0,.int .i64 0,.slice none 0 0,.slice none 0 0] 25 (0,0)) (fun g => by kernel_rfl)) ?_
 rintro _ _ _ _ ⟨g2,rfl,rfl,rfl⟩
 refine RgH.does (DoesH.store (k := 0) (g := g2) (off := 0) (v := .agg #[.int .i64 y1.Room,.int .i64 y1.Lease,.slice A1 y1.Blobs.length c1,.slice A2 y1.Entries.length c2]) (cells' := #[.int .i64 y1.Room,.int .i64 y1.Lease,.slice A1 y1.Blobs.length c1,.slice A2 y1.Entries.length c2]) (by kernel_rfl) rfl (by kernel_rfl) (by kernel_rfl)) ?_
 rintro _ _ _ _ ⟨rfl,rfl,rfl⟩
 refine Dn <| Ra 1 [1,1,0] [.c [1,1,1]] <| Rv 2 [1,2,3,4,9,21,22] [.int .i64 a0.Room,.int .i64 a0.Lease,.slice Aa0_2 a0.Blobs.length ca0_2,.slice Aa0_3 a0.Entries.length ca0_3] [.load ⟨g1,0,none⟩ (.int .i64 a0.Room),.load ⟨g1,1,none⟩ (.int .i64 a0.Lease),.load ⟨g1,2,none⟩ (.slice Aa0_2 a0.Blobs.length ca0_2),.load ⟨g1,3,none⟩ (.slice Aa0_3 a0.Entries.length ca0_3)] [(1,.string a1),(2,iv a2),(3,iv a3),(4,pg g1 0),(9,pg g2 0),(21,.agg #[.int .i64 a0.Room,.int .i64 a0.Lease,.slice Aa0_2 a0.Blobs.length ca0_2,.slice Aa0_3 a0.Entries.length ca0_3]),(22,.string a1)] (fun w hh => ⟨(hh.box 3 rfl rfl),(hh.box 3 rfl rfl),(hh.box 3 rfl rfl),(hh.box 3 rfl rfl)⟩) ?_
 obtain ⟨y2,hy2,heq⟩ := bind_some heq
 refine RgH.does (DoesH.call (d := 23) (g := 31) (args := #[.agg #[.int .i64 a0.Room,.int .i64 a0.Lease,.slice Aa0_2 a0.Blobs.length ca0_2,.slice Aa0_3 a0.Entries.length ca0_3],.string a1]) (by kernel_rfl) (cache_Whole_c (a0 := a0) (a1 := a1) (hra0_2.wk (fun _ h => (.tail _ (.tail _ (.tail _ (.tail _ h)))))) hca0_2 rfl (hra0_3.wk (fun _ h => (.tail _ (.tail _ (.tail _ (.tail _ h)))))) hca0_3 rfl hy2)) ?_
 rintro _ _ _ _ ⟨_,rfl,rfl,rfl,rfl⟩
 refine Rd 8 [1,2,3,4,9,10,11] [(1,.string a1),(2,iv a2),(3,iv a3),(4,pg g1 0),(9,pg g2 0),(10,.bool y2.1),(11,iv y2.2)] <| Ra 1 [1,1,1,0] [.c [1,1,1,1]] <| Rv 2 [2,3,4,9,10,11,27,28] [.int .i64 y1.Room,.int .i64 y1.Lease,.slice A1 y1.Blobs.length c1,.slice A2 y1.Entries.length c2] [.load ⟨g2,0,none⟩ (.int .i64 y1.Room),.load ⟨g2,1,none⟩ (.int .i64 y1.Lease),.load ⟨g2,2,none⟩ (.slice A1 y1.Blobs.length c1),.load ⟨g2,3,none⟩ (.slice A2 y1.Entries.length c2)] [(2,iv a2),(3,iv a3),(4,pg g1 0),(9,pg g2 0),(10,.bool y2.1),(11,iv y2.2),(27,.agg #[.int .i64 y1.Room,.int .i64 y1.Lease,.slice A1 y1.Blobs.length c1,.slice A2 y1.Entries.length c2]),(28,.string a1)] (fun w hh => ⟨(hh.box 0 rfl rfl),(hh.box 0 rfl rfl),(hh.box 0 rfl rfl),(hh.box 0 rfl rfl)⟩) ?_
 obtain ⟨y3,hy3,heq⟩ := bind_some heq
 refine RgH.does (DoesH.call (d := 29) (g := 38) (args := #[.agg #[.int .i64 y1.Room,.int .i64 y1.Lease,.slice A1 y1.Blobs.length c1,.slice A2 y1.Entries.length c2],.string a1]) (by kernel_rfl) (smithyardref7_Whole_c (a0 := (⟨y1.Room,y1.Lease,y1.Blobs,y1.Entries⟩ : Cache)) (a1 := a1) (ho1.rw (.tail _ (.head _))) ho1.cap rfl (ho2.rw (.tail _ (.tail _ (.head _)))) ho2.cap rfl hy3)) ?_
 rintro _ _ _ _ ⟨_,rfl,rfl,rfl,rfl⟩
 refine Rd 8 [2,3,4,9,10,11,12,13] [(2,iv a2),(3,iv a3),(4,pg g1 0),(9,pg g2 0),(10,.bool y2.1),(11,iv y2.2),(12,.bool y3.1),(13,iv y3.2)] <| Ra 1 [1,1,1,1,0] [.c [1,1,1,1,1]] <| Rv 2 [2,3,4,9,10,11,12,13,33,34] [.int .i64 a0.Room,.int .i64 a0.Lease,.slice Aa0_2 a0.Blobs.length ca0_2,.slice Aa0_3 a0.Entries.length ca0_3] [.load ⟨g1,0,none⟩ (.int .i64 a0.Room),.load ⟨g1,1,none⟩ (.int .i64 a0.Lease),.load ⟨g1,2,none⟩ (.slice Aa0_2 a0.Blobs.length ca0_2),.load ⟨g1,3,none⟩ (.slice Aa0_3 a0.Entries.length ca0_3)] [(2,iv a2),(3,iv a3),(4,pg g1 0),(9,pg g2 0),(10,.bool y2.1),(11,iv y2.2),(12,.bool y3.1),(13,iv y3.2),(33,.agg #[.int .i64 a0.Room,.int .i64 a0.Lease,.slice Aa0_2 a0.Blobs.length ca0_2,.slice Aa0_3 a0.Entries.length ca0_3]),(34,iv a3)] (fun w hh => ⟨(hh.box 3 rfl rfl),(hh.box 3 rfl rfl),(hh.box 3 rfl rfl),(hh.box 3 rfl rfl)⟩) ?_
 obtain ⟨y4,hy4,heq⟩ := bind_some heq
 refine RgH.does (DoesH.call (d := 35) (g := 37) (args := #[.agg #[.int .i64 a0.Room,.int .i64 a0.Lease,.slice Aa0_2 a0.Blobs.length ca0_2,.slice Aa0_3 a0.Entries.length ca0_3],.int .i64 a3]) (by kernel_rfl) (cache_Next_c (a0 := a0) (a1 := a3) (hra0_2.wk (fun _ h => (.tail _ (.tail _ (.tail _ (.tail _ h)))))) hca0_2 rfl (hra0_3.wk (fun _ h => (.tail _ (.tail _ (.tail _ (.tail _ h)))))) hca0_3 rfl hy4)) ?_
 rintro _ _ _ _ ⟨_,rfl,A3,c3,ch3,rfl,rfl,rfl,ho3⟩
 refine Rd 8 [2,3,4,9,10,11,12,13,14,15] [(2,iv a2),(3,iv a3),(4,pg g1 0),(9,pg g2 0),(10,.bool y2.1),(11,iv y2.2),(12,.bool y3.1),(13,iv y3.2),(14,.slice A3 y4.1.length c3),(15,iv y4.2)] <| Ra 1 [1,1,1,1,1,0] [.c [1,1,1,1,1,1]] <| Rv 2 [2,3,4,9,10,11,12,13,14,15,39,40] [.int .i64 y1.Room,.int .i64 y1.Lease,.slice A1 y1.Blobs.length c1,.slice A2 y1.Entries.length c2] [.load ⟨g2,0,none⟩ (.int .i64 y1.Room),.load ⟨g2,1,none⟩ (.int .i64 y1.Lease),.load ⟨g2,2,none⟩ (.slice A1 y1.Blobs.length c1),.load ⟨g2,3,none⟩ (.slice A2 y1.Entries.length c2)] [(2,iv a2),(3,iv a3),(4,pg g1 0),(9,pg g2 0),(10,.bool y2.1),(11,iv y2.2),(12,.bool y3.1),(13,iv y3.2),(14,.slice A3 y4.1.length c3),(15,iv y4.2),(39,.agg #[.int .i64 y1.Room,.int .i64 y1.Lease,.slice A1 y1.Blobs.length c1,.slice A2 y1.Entries.length c2]),(40,iv a3)] (fun w hh => ⟨(hh.box 1 rfl rfl),(hh.box 1 rfl rfl),(hh.box 1 rfl rfl),(hh.box 1 rfl rfl)⟩) ?_
 obtain ⟨y5,hy5,heq⟩ := bind_some heq
 refine RgH.does (DoesH.call (d := 41) (g := 39) (args := #[.agg #[.int .i64 y1.Room,.int .i64 y1.Lease,.slice A1 y1.Blobs.length c1,.slice A2 y1.Entries.length c2],.int .i64 a3]) (by kernel_rfl) (smithyardref7_Next_c (a0 := (⟨y1.Room,y1.Lease,y1.Blobs,y1.Entries⟩ : Cache)) (a1 := a3) (ho1.rw (.tail _ (.tail _ (.head _)))) ho1.cap rfl (ho2.rw (.tail _ (.tail _ (.tail _ (.head _))))) ho2.cap rfl hy5)) ?_
 rintro _ _ _ _ ⟨_,rfl,A4,c4,ch4,rfl,rfl,rfl,ho4⟩
 refine Rd 8 [2,3,4,9,10,11,12,13,14,15,16,17] [(2,iv a2),(3,iv a3),(4,pg g1 0),(9,pg g2 0),(10,.bool y2.1),(11,iv y2.2),(12,.bool y3.1),(13,iv y3.2),(14,.slice A3 y4.1.length c3),(15,iv y4.2),(16,.slice A4 y5.1.length c4),(17,iv y5.2)] <| Ad 2 [.c [1,1,1,1,1,1,0,0],.c [1,1,1,1,1,1,0,1],.c [1,1,1,1,1,1,1]] ?_
 obtain ⟨t1,ht1,heq⟩ := bind_some heq
 have K7 : ∀ (H : Hp),Rw kBlob H F Aa0_2 a0.Blobs → Rw kEntry H F Aa0_3 a0.Entries → SlOwn kBlob 47 H A1 c1 y1.Blobs ch1 → SlOwn kEntry 51 H A2 c2 y1.Entries ch2 → RunH C8 (S8 F H0 r) H0 w0 [.c [1,1,1,1,1,1,0,1],.c [1,1,1,1,1,1,1]] [(2,iv a2),(3,iv a3),(4,pg g1 0),(9,pg g2 0),(62,.bool t1)] H ((some (g2,.cells #[.int .i64 y1.Room,.int .i64 y1.Lease,.slice A1 y1.Blobs.length c1,.slice A2 y1.Entries.length c2] 25 (0,0))) :: ch1 :: ch2 :: (some (g1,.cells #[.int .i64 a0.Room,.int .i64 a0.Lease,.slice Aa0_2 a0.Blobs.length ca0_2,.slice Aa0_3 a0.Entries.length ca0_3] 25 (0,0))) :: F) := by
  intro H hra0_2 hra0_3 ho1 ho2
  rcases bool_cases (t1) with hb4 | hb4
  ·replace heq := bif_true hb4 heq
   refine Ct t1 hb4 <| Ra 1 [1,1,1,1,1,1,0,1,0,0] [.c [1,1,1,1,1,1,0,1,0,1],.c [1,1,1,1,1,1,1]] <| Rd 1 [8] [(8,.bool false)] ?_
   obtain rfl := Option.some.inj heq
   refine RunH.pick 4 [] (cs' := F) (by kernel_rfl) rfl ?_
   exact RunH.done (by kernel_rfl) Tryd.func8 (v := .bool false) (by kernel_rfl) ⟨rfl,rfl⟩
  ·replace heq := bif_false hb4 heq
   refine Cf t1 hb4 <| Ra 2 [1,1,1,1,1,1,1,0] [.c [1,1,1,1,1,1,1,1]] <| Rv 3 [2,3,4,9,64,65,66] [.int .i64 a0.Room,.int .i64 a0.Lease,.slice Aa0_2 a0.Blobs.length ca0_2,.slice Aa0_3 a0.Entries.length ca0_3] [.load ⟨g1,0,none⟩ (.int .i64 a0.Room),.load ⟨g1,1,none⟩ (.int .i64 a0.Lease),.load ⟨g1,2,none⟩ (.slice Aa0_2 a0.Blobs.length ca0_2),.load ⟨g1,3,none⟩ (.slice Aa0_3 a0.Entries.length ca0_3)] [(2,iv a2),(3,iv a3),(4,pg g1 0),(9,pg g2 0),(64,.agg #[.int .i64 a0.Room,.int .i64 a0.Lease,.slice Aa0_2 a0.Blobs.length ca0_2,.slice Aa0_3 a0.Entries.length ca0_3]),(65,iv a2),(66,iv a3)] (fun w hh => ⟨(hh.box 3 rfl rfl),(hh.box 3 rfl rfl),(hh.box 3 rfl rfl),(hh.box 3 rfl rfl)⟩) ?_
   obtain ⟨y7,hy7,heq⟩ := bind_some heq
   refine RgH.does (DoesH.call (d := 67) (g := 40) (args := #[.agg #[.int .i64 a0.Room,.int .i64 a0.Lease,.slice Aa0_2 a0.Blobs.length ca0_2,.slice Aa0_3 a0.Entries.length ca0_3],.int .i64 a2,.int .i64 a3]) (by kernel_rfl) (cache_Fits_c (a0 := a0) (a1 := a2) (a2 := a3) (hra0_2.wk (fun _ h => (.tail _ (.tail _ (.tail _ (.tail _ h)))))) hca0_2 rfl (hra0_3.wk (fun _ h => (.tail _ (.tail _ (.tail _ (.tail _ h)))))) hca0_3 rfl hy7)) ?_
   rintro _ _ _ _ ⟨_,rfl,rfl,rfl,rfl⟩
   refine Rd 9 [2,3,4,9,10,11] [(2,iv a2),(3,iv a3),(4,pg g1 0),(9,pg g2 0),(10,.bool y7.1),(11,iv y7.2)] <| Ra 1 [1,1,1,1,1,1,1,1,0] [.c [1,1,1,1,1,1,1,1,1]] <| Rv 3 [4,9,10,11,71,72,73] [.int .i64 y1.Room,.int .i64 y1.Lease,.slice A1 y1.Blobs.length c1,.slice A2 y1.Entries.length c2] [.load ⟨g2,0,none⟩ (.int .i64 y1.Room),.load ⟨g2,1,none⟩ (.int .i64 y1.Lease),.load ⟨g2,2,none⟩ (.slice A1 y1.Blobs.length c1),.load ⟨g2,3,none⟩ (.slice A2 y1.Entries.length c2)] [(4,pg g1 0),(9,pg g2 0),(10,.bool y7.1),(11,iv y7.2),(71,.agg #[.int .i64 y1.Room,.int .i64 y1.Lease,.slice A1 y1.Blobs.length c1,.slice A2 y1.Entries.length c2]),(72,iv a2),(73,iv a3)] (fun w hh => ⟨(hh.box 0 rfl rfl),(hh.box 0 rfl rfl),(hh.box 0 rfl rfl),(hh.box 0 rfl rfl)⟩) ?_
   obtain ⟨y8,hy8,heq⟩ := bind_some heq
   refine RgH.does (DoesH.call (d := 74) (g := 41) (args := #[.agg #[.int .i64 y1.Room,.int .i64 y1.Lease,.slice A1 y1.Blobs.length c1,.slice A2 y1.Entries.length c2],.int .i64 a2,.int .i64 a3]) (by kernel_rfl) (smithyardref7_Fits_c (a0 := (⟨y1.Room,y1.Lease,y1.Blobs,y1.Entries⟩ : Cache)) (a1 := a2) (a2 := a3) (ho1.rw (.tail _ (.head _))) ho1.cap rfl (ho2.rw (.tail _ (.tail _ (.head _)))) ho2.cap rfl hy8)) ?_
   rintro _ H _ hl ⟨_,rfl,rfl,rfl⟩
   replace hra0_2 := hra0_2.mono hl
   replace hra0_3 := hra0_3.mono hl
   replace ho1 := ho1.mono hl
   replace ho2 := ho2.mono hl
   refine Rd 9 [4,9,10,11,12,13] [(4,pg g1 0),(9,pg g2 0),(10,.bool y7.1),(11,iv y7.2),(12,.bool y8.1),(13,iv y8.2)] <| Ad 1 [.c [1,1,1,1,1,1,1,1,1,0],.c [1,1,1,1,1,1,1,1,1,1]] ?_
   obtain ⟨t2,ht2,heq⟩ := bind_some heq
   have K8 : ∀ (H : Hp),RunH C8 (S8 F H0 r) H0 w0 [.c [1,1,1,1,1,1,1,1,1,1]] [(8,.bool t2)] H (F) := by
    intro H
    obtain rfl := Option.some.inj heq
    exact RunH.done (by kernel_rfl) Tryd.func8 (v := .bool t2) (by kernel_rfl) ⟨rfl,rfl⟩
   replace heq := ht2
   refine Rr <| Rk 4 [80,4,9,11,13] [(80,.bool (y7.1 == y8.1)),(4,pg g1 0),(9,pg g2 0),(11,iv y7.2),(13,iv y8.2)] ?_
   rcases bool_cases (y7.1 == y8.1) with hb5 | hb5
   ·replace heq := bif_true hb5 heq
    refine RgH.val1 (v' := .bool true) (congrArg Value.bool hb5) ?_
    refine Rk 9 [85,4,9] [(85,.bool (y7.2 == y8.2)),(4,pg g1 0),(9,pg g2 0)] ?_
    rcases bool_cases (y7.2 == y8.2) with hb6 | hb6
    ·replace heq := bif_true hb6 heq
     refine RgH.val1 (v' := .bool true) (congrArg Value.bool hb6) ?_
     refine Rv 11 [85,86,87] [.int .i64 a0.Room,.int .i64 a0.Lease,.slice Aa0_2 a0.Blobs.length ca0_2,.slice Aa0_3 a0.Entries.length ca0_3,.int .i64 y1.Room,.int .i64 y1.Lease,.slice A1 y1.Blobs.length c1,.slice A2 y1.Entries.length c2] [.load ⟨g1,0,none⟩ (.int .i64 a0.Room),.load ⟨g1,1,none⟩ (.int .i64 a0.Lease),.load ⟨g1,2,none⟩ (.slice Aa0_2 a0.Blobs.length ca0_2),.load ⟨g1,3,none⟩ (.slice Aa0_3 a0.Entries.length ca0_3),.load ⟨g2,0,none⟩ (.int .i64 y1.Room),.load ⟨g2,1,none⟩ (.int .i64 y1.Lease),.load ⟨g2,2,none⟩ (.slice A1 y1.Blobs.length c1),.load ⟨g2,3,none⟩ (.slice A2 y1.Entries.length c2)] [(85,.bool true),(86,.agg #[.int .i64 a0.Room,.int .i64 a0.Lease,.slice Aa0_2 a0.Blobs.length ca0_2,.slice Aa0_3 a0.Entries.length ca0_3]),(87,.agg #[.int .i64 y1.Room,.int .i64 y1.Lease,.slice A1 y1.Blobs.length c1,.slice A2 y1.Entries.length c2])] (fun w hh => ⟨(hh.box 3 rfl rfl),(hh.box 3 rfl rfl),(hh.box 3 rfl rfl),(hh.box 3 rfl rfl),(hh.box 0 rfl rfl),(hh.box 0 rfl rfl),(hh.box 0 rfl rfl),(hh.box 0 rfl rfl)⟩) ?_
     obtain ⟨y9,hy9,heq⟩ := bind_some heq
     refine RgH.does (DoesH.call (d := 88) (g := 21) (args := #[.agg #[.int .i64 a0.Room,.int .i64 a0.Lease,.slice Aa0_2 a0.Blobs.length ca0_2,.slice Aa0_3 a0.Entries.length ca0_3],.agg #[.int .i64 y1.Room,.int .i64 y1.Lease,.slice A1 y1.Blobs.length c1,.slice A2 y1.Entries.length c2]]) (by kernel_rfl) (smithyardref7_Same_c (a0 := a0) (a1 := (⟨y1.Room,y1.Lease,y1.Blobs,y1.Entries⟩ : Cache)) (hra0_2.wk (fun _ h => (.tail _ (.tail _ (.tail _ (.tail _ h)))))) hca0_2 rfl (hra0_3.wk (fun _ h => (.tail _ (.tail _ (.tail _ (.tail _ h)))))) hca0_3 rfl (ho1.rw (.tail _ (.head _))) ho1.cap rfl (ho2.rw (.tail _ (.tail _ (.head _)))) ho2.cap rfl hy9)) ?_
     rintro _ _ _ _ ⟨_,rfl,rfl,rfl,rfl⟩
     refine Rk 14 [90] [(90,.bool y9)] ?_
     rcases bool_cases (y9) with hb7 | hb7
     ·replace heq := bif_true hb7 heq
      refine RgH.val1 (v' := .bool true) (congrArg Value.bool hb7) ?_
      obtain ⟨y10,hy10,heq⟩ := bind_some heq
      refine RgH.does (DoesH.call (d := 91) (g := 29) (args := (List.toArray [])) (by kernel_rfl) (smithyardlaw7_awake_c  hy10)) ?_
      rintro _ _ _ _ ⟨_,rfl,rfl,rfl,rfl⟩
      refine Rk 17 [8] [(8,.bool y10)] ?_
      obtain rfl := Option.some.inj heq
      refine Kg [8] [(8,.bool y10)] ?_
      refine RgH.pick 4 [] (cs' := F) (by kernel_rfl) rfl ?_
      refine Dn ?_
      exact K8 _
     ·replace heq := bif_false hb7 heq
      refine RgH.val1 (v' := .bool false) (congrArg Value.bool hb7) ?_
      refine Rk 17 [8] [(8,.bool false)] ?_
      obtain rfl := Option.some.inj heq
      refine Kg [8] [(8,.bool false)] ?_
      refine RgH.pick 4 [] (cs' := F) (by kernel_rfl) rfl ?_
      refine Dn ?_
      exact K8 _
    ·replace heq := bif_false hb6 heq
     refine RgH.val1 (v' := .bool false) (congrArg Value.bool hb6) ?_
     refine Rk 17 [8] [(8,.bool false)] ?_
     obtain rfl := Option.some.inj heq
     refine Kg [8] [(8,.bool false)] ?_
     refine RgH.pick 4 [] (cs' := F) (by kernel_rfl) rfl ?_
     refine Dn ?_
     exact K8 _
   ·replace heq := bif_false hb5 heq
    refine RgH.val1 (v' := .bool false) (congrArg Value.bool hb5) ?_
    refine Rk 17 [8] [(8,.bool false)] ?_
    obtain rfl := Option.some.inj heq
    refine Kg [8] [(8,.bool false)] ?_
    refine RgH.pick 4 [] (cs' := F) (by kernel_rfl) rfl ?_
    refine Dn ?_
    exact K8 _
 replace heq := ht1
 refine Rr <| Rk 4 [47,2,3,4,9,11,13,14,15,16,17] [(47,.bool (!(y2.1 == y3.1))),(2,iv a2),(3,iv a3),(4,pg g1 0),(9,pg g2 0),(11,iv y2.2),(13,iv y3.2),(14,.slice A3 y4.1.length c3),(15,iv y4.2),(16,.slice A4 y5.1.length c4),(17,iv y5.2)] ?_
 rcases bool_cases (!(y2.1 == y3.1)) with hb1 | hb1
 ·replace heq := bif_true hb1 heq
  refine RgH.val1 (v' := .bool true) (congrArg Value.bool hb1) ?_
  refine Rk 19 [2,3,4,9,62] [(2,iv a2),(3,iv a3),(4,pg g1 0),(9,pg g2 0),(62,.bool true)] ?_
  obtain rfl := Option.some.inj heq
  refine Kg [2,3,4,9,62] [(2,iv a2),(3,iv a3),(4,pg g1 0),(9,pg g2 0),(62,.bool true)] ?_
  refine RgH.pick 6 [2,3,4,5] (cs' := (some (g2,.cells #[.int .i64 y1.Room,.int .i64 y1.Lease,.slice A1 y1.Blobs.length c1,.slice A2 y1.Entries.length c2] 25 (0,0))) :: ch1 :: ch2 :: (some (g1,.cells #[.int .i64 a0.Room,.int .i64 a0.Lease,.slice Aa0_2 a0.Blobs.length ca0_2,.slice Aa0_3 a0.Entries.length ca0_3] 25 (0,0))) :: F) (by kernel_rfl) rfl ?_
  refine Dn ?_
  exact K7 _ hra0_2 hra0_3 ho1 ho2
 ·replace heq := bif_false hb1 heq
  refine RgH.val1 (v' := .bool false) (congrArg Value.bool hb1) ?_
  refine Rk 9 [52,2,3,4,9,14,15,16,17] [(52,.bool (y2.2 != y3.2)),(2,iv a2),(3,iv a3),(4,pg g1 0),(9,pg g2 0),(14,.slice A3 y4.1.length c3),(15,iv y4.2),(16,.slice A4 y5.1.length c4),(17,iv y5.2)] ?_
  rcases bool_cases (y2.2 != y3.2) with hb2 | hb2
  ·replace heq := bif_true hb2 heq
   refine RgH.val1 (v' := .bool true) (congrArg Value.bool hb2) ?_
   refine Rk 19 [2,3,4,9,62] [(2,iv a2),(3,iv a3),(4,pg g1 0),(9,pg g2 0),(62,.bool true)] ?_
   obtain rfl := Option.some.inj heq
   refine Kg [2,3,4,9,62] [(2,iv a2),(3,iv a3),(4,pg g1 0),(9,pg g2 0),(62,.bool true)] ?_
   refine RgH.pick 6 [2,3,4,5] (cs' := (some (g2,.cells #[.int .i64 y1.Room,.int .i64 y1.Lease,.slice A1 y1.Blobs.length c1,.slice A2 y1.Entries.length c2] 25 (0,0))) :: ch1 :: ch2 :: (some (g1,.cells #[.int .i64 a0.Room,.int .i64 a0.Lease,.slice Aa0_2 a0.Blobs.length ca0_2,.slice Aa0_3 a0.Entries.length ca0_3] 25 (0,0))) :: F) (by kernel_rfl) rfl ?_
   refine Dn ?_
   exact K7 _ hra0_2 hra0_3 ho1 ho2
  ·replace heq := bif_false hb2 heq
   refine RgH.val1 (v' := .bool false) (congrArg Value.bool hb2) ?_
   refine Rk 11 [2,3,4,9,15,17,52,53,54] [(2,iv a2),(3,iv a3),(4,pg g1 0),(9,pg g2 0),(15,iv y4.2),(17,iv y5.2),(52,.bool false),(53,.slice A3 y4.1.length c3),(54,.slice A4 y5.1.length c4)] ?_
   obtain ⟨y6,hy6,heq⟩ := bind_some heq
   refine RgH.does (DoesH.call (d := 55) (g := 28) (args := #[.slice A3 y4.1.length c3,.slice A4 y5.1.length c4]) (by kernel_rfl) (slices_Equal_string_c (a0 := y4.1) (a1 := y5.1) (ho3.rw (.tail _ (.head _))) ho3.cap rfl (ho4.rw (.head _)) ho4.cap rfl hy6)) ?_
   rintro _ _ _ _ ⟨_,rfl,rfl,rfl,rfl⟩
   refine Rk 15 [58,2,3,4,9,15,17] [(58,.bool (!y6)),(2,iv a2),(3,iv a3),(4,pg g1 0),(9,pg g2 0),(15,iv y4.2),(17,iv y5.2)] ?_
   rcases bool_cases (!y6) with hb3 | hb3
   ·replace heq := bif_true hb3 heq
    refine RgH.val1 (v' := .bool true) (congrArg Value.bool hb3) ?_
    refine Rk 19 [2,3,4,9,62] [(2,iv a2),(3,iv a3),(4,pg g1 0),(9,pg g2 0),(62,.bool true)] ?_
    obtain rfl := Option.some.inj heq
    refine Kg [2,3,4,9,62] [(2,iv a2),(3,iv a3),(4,pg g1 0),(9,pg g2 0),(62,.bool true)] ?_
    refine RgH.pick 6 [2,3,4,5] (cs' := (some (g2,.cells #[.int .i64 y1.Room,.int .i64 y1.Lease,.slice A1 y1.Blobs.length c1,.slice A2 y1.Entries.length c2] 25 (0,0))) :: ch1 :: ch2 :: (some (g1,.cells #[.int .i64 a0.Room,.int .i64 a0.Lease,.slice Aa0_2 a0.Blobs.length ca0_2,.slice Aa0_3 a0.Entries.length ca0_3] 25 (0,0))) :: F) (by kernel_rfl) rfl ?_
    refine Dn ?_
    exact K7 _ hra0_2 hra0_3 ho1 ho2
   ·replace heq := bif_false hb3 heq
    refine RgH.val1 (v' := .bool false) (congrArg Value.bool hb3) ?_
    refine Rk 19 [2,3,4,9,62] [(2,iv a2),(3,iv a3),(4,pg g1 0),(9,pg g2 0),(62,.bool (y4.2 != y5.2))] ?_
    obtain rfl := Option.some.inj heq
    refine Kg [2,3,4,9,62] [(2,iv a2),(3,iv a3),(4,pg g1 0),(9,pg g2 0),(62,.bool (y4.2 != y5.2))] ?_
    refine RgH.pick 6 [2,3,4,5] (cs' := (some (g2,.cells #[.int .i64 y1.Room,.int .i64 y1.Lease,.slice A1 y1.Blobs.length c1,.slice A2 y1.Entries.length c2] 25 (0,0))) :: ch1 :: ch2 :: (some (g1,.cells #[.int .i64 a0.Room,.int .i64 a0.Lease,.slice Aa0_2 a0.Blobs.length ca0_2,.slice Aa0_3 a0.Entries.length ca0_3] 25 (0,0))) :: F) (by kernel_rfl) rfl ?_
    refine Dn ?_
    exact K7 _ hra0_2 hra0_3 ho1 ho2
end Go.Proofs.YtkjilepjblffeaaDoor
