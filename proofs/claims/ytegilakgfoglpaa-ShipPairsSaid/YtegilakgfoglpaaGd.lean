/- What is known of the values that come in as data: within their kinds' bounds, no longer than a slice can be; and what each law asks in plain Lean. -/
import Derived.Test.YtegilakgfoglpaaOpn
import Derived.Test.YtegilakgfoglpaaQ0
import Derived.KernelRfl
namespace Go.Proofs.Ytegilakgfoglpaa.Gd
open Go.Proofs.Ytegilakgfoglpaa.Opn Go.Proofs.Ytegilakgfoglpaa.Q Go.Proofs.YtegilakgfoglpaaW.PrintWords
set_option maxRecDepth 100000
def Gd39 (x : S39) : Prop := In64 x.f0 ∧ In64 x.f1
theorem op39 : Opens Try.prog k39 39 Gd39 := (Opens.struct (fun x : S39 => (x.f0, x.f1)) (fun y => ⟨y.1, y.2⟩) (fun _ => rfl) Try.underlying39 (by kernel_rfl) (OpensFs.cons (Opens.int64 Try.underlying3 (by kernel_rfl)) (OpensFs.one (Opens.int64 Try.underlying3 (by kernel_rfl))) rfl)).imp fun _ h => h
end Go.Proofs.Ytegilakgfoglpaa.Gd
