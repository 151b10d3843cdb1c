/- The library's contracts that this seat's walks use: none. -/
import Derived.Test.YtbaapakkdnhcmaaProg
namespace Go.Proofs
end Go.Proofs
