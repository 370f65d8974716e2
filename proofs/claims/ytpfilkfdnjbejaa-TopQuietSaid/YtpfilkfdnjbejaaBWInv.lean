import Derived.Test.YtpfilkfdnjbejaaBWLast
import Derived.Test.YtpfilkfdnjbejaaBWTab
namespace Go.Proofs.YtpfilkfdnjbejaaW.PrintLast
def up (b : Nat → Bool) (i : Nat) : Nat → Bool := fun j => if j = i then true else b j
end Go.Proofs.YtpfilkfdnjbejaaW.PrintLast
