/- The place of the contracts that are proved by hand. -/
import Derived.Test.YtkhdfbmkikiapaaProg
namespace Go.Proofs.Ytkhdfbmkikiapaa.Given
end Go.Proofs.Ytkhdfbmkikiapaa.Given
