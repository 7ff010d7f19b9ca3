-- Written for this claim by a program of this session.
import Derived.Test.YtalafmahgeejiaaVWords
namespace Go.Proofs.YtalafmahgeejiaaW.PrintWords
end Go.Proofs.YtalafmahgeejiaaW.PrintWords
