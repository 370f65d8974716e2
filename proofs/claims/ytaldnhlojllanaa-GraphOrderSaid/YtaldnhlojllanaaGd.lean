/- What is known of the values that come in as data: within their kinds' bounds, no longer than a slice can be; and what each law asks in plain Lean. -/
import Derived.Test.YtaldnhlojllanaaOpn
import Derived.Test.YtaldnhlojllanaaQ0
import Derived.KernelRfl
namespace Go.Proofs.Ytaldnhlojllanaa.Gd
open Go.Proofs.Ytaldnhlojllanaa.Opn Go.Proofs.Ytaldnhlojllanaa.Q Go.Proofs.YtaldnhlojllanaaW.PrintWords
set_option maxRecDepth 100000
def Gd42 (x : S42) : Prop := In64 x.f0 ∧ In64 x.f1
theorem op42 : Opens Try.prog k42 42 Gd42 := (Opens.struct (fun x : S42 => (x.f0, x.f1)) (fun y => ⟨y.1, y.2⟩) (fun _ => rfl) Try.underlying42 (by kernel_rfl) (OpensFs.cons (Opens.int64 Try.underlying3 (by kernel_rfl)) (OpensFs.one (Opens.int64 Try.underlying3 (by kernel_rfl))) rfl)).imp fun _ h => h
def Gd24 (x : S24) : Prop := In64 x.f0 ∧ (GoodL Gd42) x.f1
theorem op24 : Opens Try.prog k24 24 Gd24 := (Opens.struct (fun x : S24 => (x.f0, x.f1)) (fun y => ⟨y.1, y.2⟩) (fun _ => rfl) Try.underlying24 (by kernel_rfl) (OpensFs.cons (Opens.int64 Try.underlying3 (by kernel_rfl)) (OpensFs.one (Opens.slice op42 Try.underlying22 (by kernel_rfl))) rfl)).imp fun _ h => h
end Go.Proofs.Ytaldnhlojllanaa.Gd
