/- The place of the contracts that are proved by hand. -/
import Derived.Test.YtilmbpdfdickoaaDoorProg
namespace Go.Proofs.YtilmbpdfdickoaaDoor.Given
end Go.Proofs.YtilmbpdfdickoaaDoor.Given
