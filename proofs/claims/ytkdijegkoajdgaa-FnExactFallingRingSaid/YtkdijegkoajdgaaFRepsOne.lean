-- Written for this claim by a program of this session.
import Derived.Test.YtkdijegkoajdgaaFWords
namespace Go.Proofs.YtkdijegkoajdgaaW.PrintWords
end Go.Proofs.YtkdijegkoajdgaaW.PrintWords
