/- The statement over numbers and lists alone that is left of WorkersBusyMatchesSpec: for every input the plain function answers true. -/
import Derived.Test.YtcldjlkgdnjnaaaDoorXD
import GoSem.ClaimJoined
set_option linter.unusedVariables false
namespace Go.Proofs.YtcldjlkgdnjnaaaDoor
open Go Go.Proofs.YtcldjlkgdnjnaaaDoor.Kit
def fitRun (x : Run) : Prop := (fun s : ByteArray => s.size ≤ reachBytes) x.Id ∧ (fun s : ByteArray => s.size ≤ reachBytes) x.Worker ∧ (fun n : Int => (Lit.int .i64 n).wf = true) x.From ∧ (fun n : Int => (Lit.int .i64 n).wf = true) x.To ∧ (fun n : Int => (Lit.int .i64 n).wf = true) x.End
def WorkersBusyMatchesSpec_Pure : Prop := ∀ (a0 : List Run) (a1 : ByteArray) (a2 : Int) (a3 : Int) (a4 : Int), (fun xs : List Run => xs.length * 56 ≤ reachBytes ∧ ∀ x ∈ xs, fitRun x) a0 → (fun s : ByteArray => s.size ≤ reachBytes) a1 → (fun n : Int => (Lit.int .i64 n).wf = true) a2 → (fun n : Int => (Lit.int .i64 n).wf = true) a3 → (fun n : Int => (Lit.int .i64 n).wf = true) a4 → smithyardlaw9_WorkersBusyMatchesSpec.f a0 a1 a2 a3 a4 = some true
end Go.Proofs.YtcldjlkgdnjnaaaDoor
