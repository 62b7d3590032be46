/- The proof of FnExactHeadRead: a part of it. No condition beyond the statement's own. -/
import Derived.Test.YtbbkbeongddcfaaZEHeadReadWWords
namespace Go.Proofs.YtbbkbeongddcfaaW.PrintWords
end Go.Proofs.YtbbkbeongddcfaaW.PrintWords
