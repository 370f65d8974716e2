/- What is known of the values that come in as data: within their kinds' bounds, no longer than a slice can be; and what each law asks in plain Lean. -/
import Derived.Test.YthmhehfbepijgaaOpn
import Derived.Test.YthmhehfbepijgaaQ0
import Derived.KernelRfl
namespace Go.Proofs.Ythmhehfbepijgaa.Gd
open Go.Proofs.Ythmhehfbepijgaa.Opn Go.Proofs.Ythmhehfbepijgaa.Q Go.Proofs.YthmhehfbepijgaaW.PrintWords
set_option maxRecDepth 100000
def Gd23 (x : S23) : Prop := In64 x.f0 ∧ In64 x.f1 ∧ In64 x.f2 ∧ In64 x.f3 ∧ In64 x.f4 ∧ In64 x.f5 ∧ In64 x.f6 ∧ In64 x.f7 ∧ In64 x.f8 ∧ In64 x.f9 ∧ In64 x.f10 ∧ In64 x.f11
theorem op23 : Opens Try.prog k23 23 Gd23 := (Opens.struct (fun x : S23 => (x.f0, x.f1, x.f2, x.f3, x.f4, x.f5, x.f6, x.f7, x.f8, x.f9, x.f10, x.f11)) (fun y => ⟨y.1, y.2.1, y.2.2.1, y.2.2.2.1, y.2.2.2.2.1, y.2.2.2.2.2.1, y.2.2.2.2.2.2.1, y.2.2.2.2.2.2.2.1, y.2.2.2.2.2.2.2.2.1, y.2.2.2.2.2.2.2.2.2.1, y.2.2.2.2.2.2.2.2.2.2.1, y.2.2.2.2.2.2.2.2.2.2.2⟩) (fun _ => rfl) Try.underlying23 (by kernel_rfl) (OpensFs.cons (Opens.int64 Try.underlying3 (by kernel_rfl)) (OpensFs.cons (Opens.int64 Try.underlying3 (by kernel_rfl)) (OpensFs.cons (Opens.int64 Try.underlying3 (by kernel_rfl)) (OpensFs.cons (Opens.int64 Try.underlying3 (by kernel_rfl)) (OpensFs.cons (Opens.int64 Try.underlying3 (by kernel_rfl)) (OpensFs.cons (Opens.int64 Try.underlying3 (by kernel_rfl)) (OpensFs.cons (Opens.int64 Try.underlying3 (by kernel_rfl)) (OpensFs.cons (Opens.int64 Try.underlying3 (by kernel_rfl)) (OpensFs.cons (Opens.int64 Try.underlying3 (by kernel_rfl)) (OpensFs.cons (Opens.int64 Try.underlying3 (by kernel_rfl)) (OpensFs.cons (Opens.int64 Try.underlying3 (by kernel_rfl)) (OpensFs.one (Opens.int64 Try.underlying3 (by kernel_rfl))) rfl) rfl) rfl) rfl) rfl) rfl) rfl) rfl) rfl) rfl) rfl)).imp fun _ h => h
def Gd35 (x : S35) : Prop := In64 x.f0 ∧ Gd23 x.f1 ∧ In64 x.f2 ∧ In64 x.f3
theorem op35 : Opens Try.prog k35 35 Gd35 := (Opens.struct (fun x : S35 => (x.f0, x.f1, x.f2, x.f3)) (fun y => ⟨y.1, y.2.1, y.2.2.1, y.2.2.2⟩) (fun _ => rfl) Try.underlying35 (by kernel_rfl) (OpensFs.cons (Opens.int64 Try.underlying3 (by kernel_rfl)) (OpensFs.cons op23 (OpensFs.cons (Opens.int64 Try.underlying3 (by kernel_rfl)) (OpensFs.one (Opens.int64 Try.underlying3 (by kernel_rfl))) rfl) rfl) rfl)).imp fun _ h => h
end Go.Proofs.Ythmhehfbepijgaa.Gd
