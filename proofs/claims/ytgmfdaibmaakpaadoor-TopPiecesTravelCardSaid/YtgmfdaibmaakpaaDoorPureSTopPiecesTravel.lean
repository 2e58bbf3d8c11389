/- The statement over numbers and lists alone that is left of TopPiecesTravel: for every input the plain function answers true. -/
import Derived.Test.YtgmfdaibmaakpaaDoorZD
import GoSem.ClaimJoined
set_option linter.unusedVariables false
namespace Go.Proofs.YtgmfdaibmaakpaaDoor
open Go Go.Proofs.YtgmfdaibmaakpaaDoor.Kit
def TopPiecesTravel_Pure:Prop:=∀ (a0:List Int) (a1:List Int) (a2:Int) (a3:Int) (a4:Int),(fun xs:List Int=>xs.length*1≤reachBytes∧∀ x∈xs,(fun n:Int=>(Lit.int .u8 n).wf=true) x) a0→(fun xs:List Int=>xs.length*1≤reachBytes∧∀ x∈xs,(fun n:Int=>(Lit.int .u8 n).wf=true) x) a1→(fun n:Int=>(Lit.int .i64 n).wf=true) a2→(fun n:Int=>(Lit.int .i64 n).wf=true) a3→(fun n:Int=>(Lit.int .i64 n).wf=true) a4→smithyardtop_TopPiecesTravel.f a0 a1 a2 a3 a4=some true
end Go.Proofs.YtgmfdaibmaakpaaDoor
