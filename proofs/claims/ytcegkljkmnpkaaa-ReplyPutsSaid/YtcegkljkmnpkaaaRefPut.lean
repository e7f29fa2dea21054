/- The reference's Put: what it makes of fields. Conditions: the bounds of the statements. -/
import Derived.Test.YtcegkljkmnpkaaaPackPut
namespace Go.Proofs.Ytcegkljkmnpkaaa.Sep
open Go.RowKit Go.Proofs.Ytcegkljkmnpkaaa.PCore Go.Proofs.Ytcegkljkmnpkaaa.Plain Go.Proofs.YtcegkljkmnpkaaaW.PrintWords Go.Proofs.YtcegkljkmnpkaaaW.PrintLast Go.Proofs.YtcegkljkmnpkaaaW.PrintMore
end Go.Proofs.Ytcegkljkmnpkaaa.Sep
