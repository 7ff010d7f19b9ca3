-- Written for this claim by a program of this session.
import Derived.Test.YtbkofbcmhddbfaaPInv
import Derived.Test.YtbkofbcmhddbfaaPFootNe
namespace Go.Proofs.YtbkofbcmhddbfaaW.PrintWords
open Go.RowKit
end Go.Proofs.YtbkofbcmhddbfaaW.PrintWords
namespace Go.Proofs.YtbkofbcmhddbfaaW.PrintLast
section
variable {ops : Array Oper} {a : Act} {o og : Oper} {g : Nat} {t : Tmp} {u : Bool}
theorem wanted_on (hg : o.guard = some (g, u)) (ho : ops[g]? = some og) (hd : og.dst = some t) (hv : a.tmps[t]? = some (.bool u)) : Region.wanted o (yielded ops a.tmps) = true := by
  simp [Region.wanted, hg, yielded, ho, hd, hv]
theorem wanted_off (hg : o.guard = some (g, u)) (ho : ops[g]? = some og) (hd : og.dst = some t) (hv : a.tmps[t]? = some (.bool (!u))) : Region.wanted o (yielded ops a.tmps) = false := by
  cases u <;> simp_all [Region.wanted, yielded]
end
end Go.Proofs.YtbkofbcmhddbfaaW.PrintLast
