import Derived.Test.YtbpkepcbmenbcaaNo5
import Derived.Test.YtbpkepcbmenbcaaNoO
namespace Go.Proofs.Ytbpkepcbmenbcaa.Ar
open Go.RowKit Go.Proofs.YtbpkepcbmenbcaaW.PrintWords Go.Proofs.YtbpkepcbmenbcaaW.PrintLast Go.Proofs.YtbpkepcbmenbcaaW.PrintMore
set_option linter.unusedVariables false
theorem back_walk (W : World) (a0 : Option Addr) (c0 : Nat) (x0 : List SPair) (h0 : Kd.C kPair W a0 x0.length x0) (l0 : x0.length ≤ c0) (w0 : ∀ x ∈ x0, wfPair x) :
    Calls Try.prog 3 #[.slice a0 x0.length c0] W fun e W' => e = .returned (.bool true) ∧ Below W.heap.size W W' := back_c a0 c0 x0 W h0 l0
end Go.Proofs.Ytbpkepcbmenbcaa.Ar
