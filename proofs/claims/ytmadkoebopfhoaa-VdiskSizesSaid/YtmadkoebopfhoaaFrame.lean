/-
  What every law's frame needs: slices of strings that came in; integers' bounds.
-/
import Derived.Test.YtmadkoebopfhoaaRows
import Derived.Test.YtmadkoebopfhoaaFrame0
import Derived.ProofKit
import Derived.OpenShut
import Derived.ShutString
import Derived.ChangeOld
import Derived.SliceStrings
import Derived.Test.YtmadkoebopfhoaaStrs
namespace Go.Proofs.Ytmadkoebopfhoaa
open Go.ChangeShapes Go.WideShapes Go.ChangeAt Go.RowKit
open Go.ChangeMaps (open_string shut_string)

end Go.Proofs.Ytmadkoebopfhoaa
