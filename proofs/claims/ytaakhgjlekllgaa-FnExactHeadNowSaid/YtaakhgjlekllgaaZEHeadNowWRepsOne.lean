/- The proof of FnExactHeadNow: a part of it. No condition beyond the statement's own. -/
import Derived.Test.YtaakhgjlekllgaaZEHeadNowWWords
namespace Go.Proofs.YtaakhgjlekllgaaW.PrintWords
end Go.Proofs.YtaakhgjlekllgaaW.PrintWords
