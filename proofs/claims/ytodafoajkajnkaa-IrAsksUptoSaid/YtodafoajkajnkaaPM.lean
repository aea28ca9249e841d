/- Plain words for texts in order. Nothing here speaks of a program. -/
import Derived.Test.YtodafoajkajnkaaPL
import Derived.Lib.SlicesCompact
namespace Go.Proofs.Ytodafoajkajnkaa.PL
open Go

/-- Strings as lists of bytes. -/
def bstr (s : ByteArray) : List UInt8 := s.data.toList
def strb (l : List UInt8) : ByteArray := ⟨l.toArray⟩
theorem strb_bstr (s : ByteArray) : strb (bstr s) = s := by cases s; simp [strb, bstr]
theorem bstr_strb (l : List UInt8) : bstr (strb l) = l := by simp [strb, bstr]
/-- Strings in their order. -/
def slt (a b : ByteArray) : Bool := Op.bytesLess a.toList b.toList
def sle (a b : ByteArray) : Bool := Op.bytesLess a.toList b.toList || a.toList == b.toList
end Go.Proofs.Ytodafoajkajnkaa.PL
