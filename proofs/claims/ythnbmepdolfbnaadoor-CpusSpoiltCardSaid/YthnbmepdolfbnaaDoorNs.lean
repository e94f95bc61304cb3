/- The place of the contracts that are proved by hand. -/
import Derived.Test.YthnbmepdolfbnaaDoorProg
namespace Go.Proofs.YthnbmepdolfbnaaDoor.Given
end Go.Proofs.YthnbmepdolfbnaaDoor.Given
