/- The library's contracts that this seat's walks use: none. -/
import Derived.Test.YtekbaconbemgpaaProg
namespace Go.Proofs
end Go.Proofs
