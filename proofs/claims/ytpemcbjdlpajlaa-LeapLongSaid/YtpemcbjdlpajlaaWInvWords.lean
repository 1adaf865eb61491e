/- Words for the printed contracts, as far as this seat's claims use them. -/
import Derived.Test.YtpemcbjdlpajlaaWInv
import Derived.Test.YtpemcbjdlpajlaaWFootNe
namespace Go.Proofs.YtpemcbjdlpajlaaW.PrintWords
open Go.RowKit
end Go.Proofs.YtpemcbjdlpajlaaW.PrintWords
namespace Go.Proofs.YtpemcbjdlpajlaaW.PrintLast
section
variable {ops : Array Oper} {a : Act} {o og : Oper} {g : Nat} {t : Tmp} {u : Bool}
end
end Go.Proofs.YtpemcbjdlpajlaaW.PrintLast
