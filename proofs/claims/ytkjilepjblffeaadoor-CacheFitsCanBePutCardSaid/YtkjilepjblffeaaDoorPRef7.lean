/- Caches: the reference's way to what would go, what goes, and what is whole. -/
import Derived.Test.YtkjilepjblffeaaDoorPLea
set_option linter.unusedVariables false
set_option linter.unusedSimpArgs false
namespace Go.Proofs.YtkjilepjblffeaaDoor
open Go Go.Proofs.YtkjilepjblffeaaDoor.Kit
def fitsS (c:Cache) (size t:Int):Option (Bool × Int):=(checkAtS c t).bind fun f=>bif f != 0 then some (false,f) else bif !inR 0 100000000 size then some (false,1) else some (decide (sumI c.Blobs+size - c.Room≤sumI (leavingS c t)),0)
theorem fits_prog {c:Cache} {size t:Int} (hf:Fit c):cache_Fits.f c size t=fitsS c size t:=by
  unfold cache_Fits.f fitsS
  rw [checkAt_prog hf.small]
  obtain ⟨f,e1,e2,_⟩:=checkAtS_cases c t
  rw [e1]
  simp only [Option.bind_some,within7]
  cases h0:f != 0
  · have ok:=cacheS_ok (e2 (by simpa using h0)).1
    simp only [cond_false]
    cases hr:inR 0 100000000 size
    · rfl
    · simp [inR] at hr
      have hll:=leaving_len c t
      have hbl:=ok.bl
      have h1:=sumI_nn c.Blobs (fun x hx=>(ok.sz x hx).1)
      have h2:sumI c.Blobs≤1000000000:=by have:=ok.sumI; have:=ok.sum; have:=ok.room1; omega
      have h3:=ok.room0
      have h4:=ok.room1
      have e3:cache_sumOf.f (leavingS c t)=some (sumI (leavingS c t)):=by
        unfold cache_sumOf.f
        rw [used_eq (l:=leavingS c t) (c:=(⟨0,0,leavingS c t,([]:List Entry)⟩:Cache)) rfl (by omega) (leaving_sz ok.sz t)]
        rfl
      simp only [Bool.not_true,cond_false,used_eq rfl ok.bl ok.sz,Option.bind_some,leaving_prog hf.fb,e3]
      rw [w64_id (n:=sumI c.Blobs+size) (by omega) (by omega),w64_id (by omega) (by omega)]
  · rfl
end Go.Proofs.YtkjilepjblffeaaDoor
