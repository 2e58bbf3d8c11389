/- What comes in fits. -/
import Derived.Test.YtkjilepjblffeaaDoorPC7W
import GoSem.ClaimJoined
set_option linter.unusedVariables false
set_option linter.unusedSimpArgs false
namespace Go.Proofs.YtkjilepjblffeaaDoor
open Go Go.Proofs.YtkjilepjblffeaaDoor.Kit
theorem fit_raw {c:Cache} (h3:c.Blobs.length*48≤reachBytes) (h3':∀ x∈c.Blobs,x.Digest.size≤reachBytes) (h4:c.Entries.length*48≤reachBytes)
    (h4':∀ x∈c.Entries,x.Key.size≤reachBytes∧x.Refs.length*16≤reachBytes∧∀ y∈x.Refs,y.size≤reachBytes):Fit c:=by
  simp only [reachBytes] at *
  refine ⟨⟨⟨by omega,fun x hx=>?_⟩,⟨by omega,fun x hx=>?_⟩⟩,by omega,by omega,fun x hx=>?_⟩
  · have:=h3' x hx
    omega
  · obtain ⟨k1,k2,k3⟩:=h4' x hx
    exact ⟨by omega,by omega,fun y hy=>by have:=k3 y hy; omega⟩
  · obtain ⟨k1,k2,k3⟩:=h4' x hx
    omega
theorem strs_raw {l:List ByteArray} (h:l.length*16≤reachBytes) (h':∀ x∈l,x.size≤reachBytes):smallStrs l∧l.length*16≤140737488355328:=by
  simp only [reachBytes] at *
  exact ⟨⟨by omega,fun x hx=>by have:=h' x hx; omega⟩,by omega⟩
end Go.Proofs.YtkjilepjblffeaaDoor
