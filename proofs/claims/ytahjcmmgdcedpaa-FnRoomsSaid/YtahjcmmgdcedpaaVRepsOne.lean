-- Written for this claim by a program of this session.
import Derived.Test.YtahjcmmgdcedpaaVWords
namespace Go.Proofs.YtahjcmmgdcedpaaW.PrintWords
end Go.Proofs.YtahjcmmgdcedpaaW.PrintWords
