import Derived.KernelRfl
import Derived.Test.YtpfilkfdnjbejaaBQ0
namespace Go.Proofs.Ytpfilkfdnjbejaa.Gd
open Go.Proofs.Ytpfilkfdnjbejaa.Opn Go.Proofs.Ytpfilkfdnjbejaa.Q Go.Proofs.YtpfilkfdnjbejaaW.PrintWords
set_option maxRecDepth 100000
def Gd23 (x : S23) : Prop := In64 x.f0 ∧ In64 x.f1 ∧ In64 x.f2 ∧ In64 x.f3 ∧ In64 x.f4 ∧ In64 x.f5
theorem op23 : Opens Try.prog k23 23 Gd23 := (Opens.struct (fun x : S23 => (x.f0, x.f1, x.f2, x.f3, x.f4, x.f5)) (fun y => ⟨y.1, y.2.1, y.2.2.1, y.2.2.2.1, y.2.2.2.2.1, y.2.2.2.2.2⟩) (fun _ => rfl) Try.underlying23 (by kernel_rfl) (OpensFs.cons (Opens.int64 Try.underlying3 (by kernel_rfl)) (OpensFs.cons (Opens.int64 Try.underlying3 (by kernel_rfl)) (OpensFs.cons (Opens.int64 Try.underlying3 (by kernel_rfl)) (OpensFs.cons (Opens.int64 Try.underlying3 (by kernel_rfl)) (OpensFs.cons (Opens.int64 Try.underlying3 (by kernel_rfl)) (OpensFs.one (Opens.int64 Try.underlying3 (by kernel_rfl))) rfl) rfl) rfl) rfl) rfl)).imp fun _ h => h
def Gd25 (x : S25) : Prop := In64 x.f0 ∧ In64 x.f1 ∧ In64 x.f2
theorem op25 : Opens Try.prog k25 25 Gd25 := (Opens.struct (fun x : S25 => (x.f0, x.f1, x.f2)) (fun y => ⟨y.1, y.2.1, y.2.2⟩) (fun _ => rfl) Try.underlying25 (by kernel_rfl) (OpensFs.cons (Opens.int64 Try.underlying3 (by kernel_rfl)) (OpensFs.cons (Opens.int64 Try.underlying3 (by kernel_rfl)) (OpensFs.one (Opens.int64 Try.underlying3 (by kernel_rfl))) rfl) rfl)).imp fun _ h => h
def Gd27 (x : S27) : Prop := Gd23 x.f0 ∧ Gd25 x.f1
theorem op27 : Opens Try.prog k27 27 Gd27 := (Opens.struct (fun x : S27 => (x.f0, x.f1)) (fun y => ⟨y.1, y.2⟩) (fun _ => rfl) Try.underlying27 (by kernel_rfl) (OpensFs.cons op23 (OpensFs.one op25) rfl)).imp fun _ h => h
def Gd29 (x : S29) : Prop := Gd27 x.f0 ∧ Gd27 x.f1 ∧ In64 x.f2
theorem op29 : Opens Try.prog k29 29 Gd29 := (Opens.struct (fun x : S29 => (x.f0, x.f1, x.f2)) (fun y => ⟨y.1, y.2.1, y.2.2⟩) (fun _ => rfl) Try.underlying29 (by kernel_rfl) (OpensFs.cons op27 (OpensFs.cons op27 (OpensFs.one (Opens.int64 Try.underlying3 (by kernel_rfl))) rfl) rfl)).imp fun _ h => h
def Gd31 (x : S31) : Prop := In64 x.f0 ∧ In64 x.f1
theorem op31 : Opens Try.prog k31 31 Gd31 := (Opens.struct (fun x : S31 => (x.f0, x.f1)) (fun y => ⟨y.1, y.2⟩) (fun _ => rfl) Try.underlying31 (by kernel_rfl) (OpensFs.cons (Opens.int64 Try.underlying3 (by kernel_rfl)) (OpensFs.one (Opens.int64 Try.underlying3 (by kernel_rfl))) rfl)).imp fun _ h => h
def Gd33 (x : S33) : Prop := In64 x.f0 ∧ In64 x.f1
theorem op33 : Opens Try.prog k33 33 Gd33 := (Opens.struct (fun x : S33 => (x.f0, x.f1)) (fun y => ⟨y.1, y.2⟩) (fun _ => rfl) Try.underlying33 (by kernel_rfl) (OpensFs.cons (Opens.int64 Try.underlying3 (by kernel_rfl)) (OpensFs.one (Opens.int64 Try.underlying3 (by kernel_rfl))) rfl)).imp fun _ h => h
def Gd44 (x : S44) : Prop := Gd31 x.f0 ∧ In16 x.f1 ∧ In16 x.f2
theorem op44 : Opens Try.prog k44 44 Gd44 := (Opens.struct (fun x : S44 => (x.f0, x.f1, x.f2)) (fun y => ⟨y.1, y.2.1, y.2.2⟩) (fun _ => rfl) Try.underlying44 (by kernel_rfl) (OpensFs.cons op31 (OpensFs.cons (Opens.int16 Try.underlying42 (by kernel_rfl)) (OpensFs.one (Opens.int16 Try.underlying42 (by kernel_rfl))) rfl) rfl)).imp fun _ h => h
end Go.Proofs.Ytpfilkfdnjbejaa.Gd
