/- The place of the contracts that are proved by hand. -/
import Derived.Test.YtdghjigeddphaaaProg
namespace Go.Proofs.Ytdghjigeddphaaa.Given
end Go.Proofs.Ytdghjigeddphaaa.Given
