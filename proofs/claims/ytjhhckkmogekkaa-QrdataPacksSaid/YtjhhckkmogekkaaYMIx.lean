/- The value of a character of the alphanumeric mode. No condition. -/
import Derived.Test.YtjhhckkmogekkaaYMParts
namespace Go.Proofs.Ytjhhckkmogekkaa.X
open Go.RowKit Go.Proofs.YtjhhckkmogekkaaW.PrintWords Go.Proofs.YtjhhckkmogekkaaW.PrintLast Go.Proofs.YtjhhckkmogekkaaW.PrintMore
/-- The value of a character of the alphanumeric mode, or -1. -/
def ixOf (c : Int) : Int := Lib.indexByte (⟨#[48, 49, 50, 51, 52, 53, 54, 55, 56, 57, 65, 66, 67, 68, 69, 70, 71, 72, 73, 74, 75, 76, 77, 78, 79, 80, 81, 82, 83, 84, 85, 86, 87, 88, 89, 90, 32, 36, 37, 42, 43, 45, 46, 47, 58]⟩ : ByteArray).data.toList c.toNat.toUInt8
end Go.Proofs.Ytjhhckkmogekkaa.X
