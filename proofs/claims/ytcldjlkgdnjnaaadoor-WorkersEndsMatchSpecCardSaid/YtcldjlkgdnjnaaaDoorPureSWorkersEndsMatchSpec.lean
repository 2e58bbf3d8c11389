/- The statement over numbers and lists alone that is left of WorkersEndsMatchSpec: for every input the plain function answers true. -/
import Derived.Test.YtcldjlkgdnjnaaaDoorXD
import GoSem.ClaimJoined
set_option linter.unusedVariables false
namespace Go.Proofs.YtcldjlkgdnjnaaaDoor
open Go Go.Proofs.YtcldjlkgdnjnaaaDoor.Kit
def fitPair (x : Pair) : Prop := (fun s : ByteArray => s.size ≤ reachBytes) x.Name ∧ (fun s : ByteArray => s.size ≤ reachBytes) x.Value
def fitSpan (x : Span) : Prop := (fun n : Int => (Lit.int .i64 n).wf = true) x.From ∧ (fun n : Int => (Lit.int .i64 n).wf = true) x.To
def fitWorker (x : Worker) : Prop := (fun s : ByteArray => s.size ≤ reachBytes) x.Name ∧ (fun xs : List Pair => xs.length * 32 ≤ reachBytes ∧ ∀ x ∈ xs, fitPair x) x.Has ∧ (fun n : Int => (Lit.int .i64 n).wf = true) x.Slots ∧ (fun n : Int => (Lit.int .i64 n).wf = true) x.Speed ∧ (fun n : Int => (Lit.int .i64 n).wf = true) x.From ∧ (fun n : Int => (Lit.int .i64 n).wf = true) x.To ∧ (fun xs : List Span => xs.length * 16 ≤ reachBytes ∧ ∀ x ∈ xs, fitSpan x) x.Stands
def WorkersEndsMatchSpec_Pure : Prop := ∀ (a0 : Worker) (a1 : Int) (a2 : Int), fitWorker a0 → (fun n : Int => (Lit.int .i64 n).wf = true) a1 → (fun n : Int => (Lit.int .i64 n).wf = true) a2 → smithyardlaw9_WorkersEndsMatchSpec.f a0 a1 a2 = some true
end Go.Proofs.YtcldjlkgdnjnaaaDoor
