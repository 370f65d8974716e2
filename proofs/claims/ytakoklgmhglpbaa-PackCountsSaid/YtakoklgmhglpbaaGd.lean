/- What is known of the values that come in as data: within their kinds' bounds, no longer than a slice can be; and what each law asks in plain Lean. -/
import Derived.Test.YtakoklgmhglpbaaOpn
import Derived.Test.YtakoklgmhglpbaaQ0
import Derived.KernelRfl
namespace Go.Proofs.Ytakoklgmhglpbaa.Gd
open Go.Proofs.Ytakoklgmhglpbaa.Opn Go.Proofs.Ytakoklgmhglpbaa.Q Go.Proofs.YtakoklgmhglpbaaW.PrintWords
set_option maxRecDepth 100000
def Gd41 (x : S41) : Prop := In64 x.f0 ∧ In64 x.f1
theorem op41 : Opens Try.prog k41 41 Gd41 := (Opens.struct (fun x : S41 => (x.f0, x.f1)) (fun y => ⟨y.1, y.2⟩) (fun _ => rfl) Try.underlying41 (by kernel_rfl) (OpensFs.cons (Opens.int64 Try.underlying3 (by kernel_rfl)) (OpensFs.one (Opens.int64 Try.underlying3 (by kernel_rfl))) rfl)).imp fun _ h => h
def Gd43 (x : S43) : Prop := In64 x.f0 ∧ Gd41 x.f1
theorem op43 : Opens Try.prog k43 43 Gd43 := (Opens.struct (fun x : S43 => (x.f0, x.f1)) (fun y => ⟨y.1, y.2⟩) (fun _ => rfl) Try.underlying43 (by kernel_rfl) (OpensFs.cons (Opens.int64 Try.underlying3 (by kernel_rfl)) (OpensFs.one op41) rfl)).imp fun _ h => h
def Gd38 (x : S38) : Prop := (GoodL Gd43) x.f0
theorem op38 : Opens Try.prog k38 38 Gd38 := (Opens.struct (fun x : S38 => x.f0) (fun y => ⟨y⟩) (fun _ => rfl) Try.underlying38 (by kernel_rfl) (OpensFs.one (Opens.slice op43 Try.underlying22 (by kernel_rfl)))).imp fun _ h => h
def Gd35 (x : S35) : Prop := In64 x.f0 ∧ In64 x.f1
theorem op35 : Opens Try.prog k35 35 Gd35 := (Opens.array2 (fun x : S35 => (x.f0, x.f1)) (fun y => ⟨y.1, y.2⟩) (fun _ => rfl) (Opens.int64 Try.underlying3 (by kernel_rfl)) Try.underlying35 (by kernel_rfl)).imp fun _ h => h
end Go.Proofs.Ytakoklgmhglpbaa.Gd
