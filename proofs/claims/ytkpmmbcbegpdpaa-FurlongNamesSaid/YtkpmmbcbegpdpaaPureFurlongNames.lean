/- The closed sentence on errors, limits and kinds: the plain law beneath FurlongNames. No condition. -/
import Derived.Test.YtkpmmbcbegpdpaaPFurlongNamesx1
namespace Go.Proofs.Ytkpmmbcbegpdpaa.Pure
open Go.RowKit Go.Proofs.Ytkpmmbcbegpdpaa.PFurlongNames Go.Proofs.YtkpmmbcbegpdpaaW.PrintWords Go.Proofs.YtkpmmbcbegpdpaaW.PrintLast

theorem FurlongNames : furlonglaw0_FurlongNames.Pure := by
  unfold furlonglaw0_FurlongNames.Pure
  rfl
end Go.Proofs.Ytkpmmbcbegpdpaa.Pure
