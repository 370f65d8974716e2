/- The moves that come in hold two numbers of 16 bits each. -/
import Derived.Test.YtpfilkfdnjbejaaStTopQuiet
namespace Go.Proofs.Ytpfilkfdnjbejaa.Pure
open Go.Proofs.Ytpfilkfdnjbejaa.Opn Go.Proofs.Ytpfilkfdnjbejaa.Q Go.Proofs.Ytpfilkfdnjbejaa.Gd Go.Proofs.YtpfilkfdnjbejaaW.PrintWords Go.RowKit
theorem in16_all {l : List S44} (h : GoodL Gd44 l) : l.all in16 = true := List.all_eq_true.2 fun x hx => by
  have q := (h.2 x hx).2
  unfold In16 at q
  unfold in16
  rw [decide_eq_true q.1.1, decide_eq_true q.1.2, decide_eq_true q.2.1, decide_eq_true q.2.2]
  rfl
theorem TopQuiet : TopQuiet_Pure := fun _ _ _ x3 _ _ _ gl => by
  unfold papermilltop_TopQuiet.f
  rw [if_pos (in16_all gl)]
end Go.Proofs.Ytpfilkfdnjbejaa.Pure
