import Derived.SizedLaws
import Derived.ChangeSlices
namespace Go.Proofs.YtnopjcakilfepaaW.PrintWords
open Go.ChangeShapes Go.WideShapes
end Go.Proofs.YtnopjcakilfepaaW.PrintWords
