/-
  The walk of eth.Read: what it says.
-/
import Derived.Test.YtolbnadafelkhaaEthW
import Derived.Deep.RegionLaw
namespace Go.Proofs.Ytolbnadafelkhaa
open Go.ChangeShapes Go.WideShapes Go.ChangeAt Go.RowKit
set_option linter.unusedVariables false
set_option linter.unusedSimpArgs false

/-- What a text reads as: the error, and the frame. -/
def rdErr (l : List UInt8) : Int :=
  if l.length < 14 then 3 else if wordAtI l 12 = 33024 then (if l.length < 18 then 3 else if 4095 < wordAtI l 14 then 4 else if 65535 < l.length - 18 then 2 else 0) else if 65535 < l.length - 14 then 2 else 0
def zeroFrame : Value := .agg #[.int .u8 0, .int .u8 0, .int .u8 0, .int .u8 0, .int .u8 0, .int .u8 0, .int .u8 0, .int .u8 0, .int .u8 0, .int .u8 0, .int .u8 0, .int .u8 0, .int .i64 0, .int .i64 0, .string ⟨#[]⟩]
def rdFrame (s : ByteArray) : Value :=
  if wordAtI s.data.toList 12 = 33024 then frameVal (byteI s 0) (byteI s 1) (byteI s 2) (byteI s 3) (byteI s 4) (byteI s 5) (byteI s 6) (byteI s 7) (byteI s 8) (byteI s 9) (byteI s 10) (byteI s 11) (wordAtI s.data.toList 14) (wordAtI s.data.toList 16) (s.extract 18 s.size)
  else frameVal (byteI s 0) (byteI s 1) (byteI s 2) (byteI s 3) (byteI s 4) (byteI s 5) (byteI s 6) (byteI s 7) (byteI s 8) (byteI s 9) (byteI s 10) (byteI s 11) (-1) (wordAtI s.data.toList 12) (s.extract 14 s.size)
def rdRes (s : ByteArray) : Value := .tuple #[if rdErr s.data.toList = 0 then rdFrame s else zeroFrame, .int .i64 (rdErr s.data.toList)]

end Go.Proofs.Ytolbnadafelkhaa
