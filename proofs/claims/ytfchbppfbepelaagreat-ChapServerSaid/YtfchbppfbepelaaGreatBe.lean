/- a number's lowest bytes, for seats that do not reach package wire. -/
import Derived.Test.YtfchbppfbepelaaGreatStr
namespace Go.Proofs.YtfchbppfbepelaaGreat
/-- a number's n lowest bytes, the highest of them first -/
def be : Nat → Int → List UInt8
  | 0, _ => []
  | n + 1, v => be n (v / 256) ++ [UInt8.ofNat (v % 256).toNat]
theorem be_length (n : Nat) (v : Int) : (be n v).length = n := by
  induction n generalizing v with
  | zero => rfl
  | succ n ih => simp [be, ih]
end Go.Proofs.YtfchbppfbepelaaGreat
