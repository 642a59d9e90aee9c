/- Nothing of the library is wanted here at this seat. -/
import Derived.Test.YthabpiphfaedaaaDoorProg
namespace Go.Proofs.YthabpiphfaedaaaDoor

end Go.Proofs.YthabpiphfaedaaaDoor
