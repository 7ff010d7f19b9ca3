-- Written for this claim by a program of this session.
import Derived.Test.YtalafmahgeejiaaUWords
namespace Go.Proofs.YtalafmahgeejiaaW.PrintWords
end Go.Proofs.YtalafmahgeejiaaW.PrintWords
