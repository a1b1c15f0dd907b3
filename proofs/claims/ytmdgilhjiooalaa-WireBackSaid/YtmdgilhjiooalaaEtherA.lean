/- Frames read, short, long or whole: the program's and the document's. -/
import Derived.Test.YtmdgilhjiooalaaREther
import Derived.Test.YtmdgilhjiooalaaRPpp
import Derived.ChangeKeysEq
namespace Go.Proofs.Ytmdgilhjiooalaa
open Go.RowKit
set_option linter.unusedVariables false

def geE (l : List UInt8) : Int := if l.length < 14 then 5 else if 1514 < l.length then 2 else 0
def geB (l : List UInt8) (j : Nat) : Int := if geE l = 0 then ((l.getD j 0).toNat : Int) else 0
def geT (l : List UInt8) : Int := if geE l = 0 then getV l 12 2 else 0
def geD (l : List UInt8) : List UInt8 := if geE l = 0 then l.drop 14 else []
def geV (l : List UInt8) : Value := .agg #[.int .u8 (geB l 0), .int .u8 (geB l 1), .int .u8 (geB l 2), .int .u8 (geB l 3), .int .u8 (geB l 4), .int .u8 (geB l 5), .int .u8 (geB l 6), .int .u8 (geB l 7), .int .u8 (geB l 8), .int .u8 (geB l 9), .int .u8 (geB l 10), .int .u8 (geB l 11), .int .i64 (geT l), .string (B (geD l))]
theorem geV_no (l : List UInt8) (h : geE l ≠ 0) : geV l = eth0 := by
  unfold geV geB geT geD
  simp only [if_neg h]
  rfl
theorem geV_ok (b0 b1 b2 b3 b4 b5 b6 b7 b8 b9 b10 b11 : UInt8) (r l : List UInt8) (hl : l = b0 :: b1 :: b2 :: b3 :: b4 :: b5 :: b6 :: b7 :: b8 :: b9 :: b10 :: b11 :: r) (h : geE l = 0) :
    geV l = .agg #[.int .u8 (b0.toNat : Int), .int .u8 (b1.toNat : Int), .int .u8 (b2.toNat : Int), .int .u8 (b3.toNat : Int), .int .u8 (b4.toNat : Int), .int .u8 (b5.toNat : Int), .int .u8 (b6.toNat : Int), .int .u8 (b7.toNat : Int), .int .u8 (b8.toNat : Int), .int .u8 (b9.toNat : Int), .int .u8 (b10.toNat : Int), .int .u8 (b11.toNat : Int), .int .i64 (getV l 12 2), .string (B (l.drop 14))] := by
  unfold geV geB geT geD
  simp only [if_pos h]
  generalize getV l 12 2 = t
  generalize l.drop 14 = d
  rw [hl]
  rfl
theorem twelve (l : List UInt8) (h : 14 ≤ l.length) : ∃ b0 b1 b2 b3 b4 b5 b6 b7 b8 b9 b10 b11 : UInt8, ∃ r, l = b0 :: b1 :: b2 :: b3 :: b4 :: b5 :: b6 :: b7 :: b8 :: b9 :: b10 :: b11 :: r := by
  match l, h with
  | b0 :: b1 :: b2 :: b3 :: b4 :: b5 :: b6 :: b7 :: b8 :: b9 :: b10 :: b11 :: r, _ => exact ⟨b0, b1, b2, b3, b4, b5, b6, b7, b8, b9, b10, b11, r, rfl⟩

theorem getether_any (l : List UInt8) (w : World) (hl : l.length ≤ 1000000) :
    Calls Try.prog 34 #[.string (B l)] w fun e w' => e = .returned (.tuple #[geV l, .int .i64 (geE l)]) ∧ Fr [] w w' := by
  by_cases h : l.length < 14
  · have e : geE l = 5 := by unfold geE; rw [if_pos h]
    rw [geV_no l (by rw [e]; decide), e]
    exact getether_short l w h
  · by_cases h2 : 1514 < l.length
    · have e : geE l = 2 := by unfold geE; rw [if_neg h, if_pos h2]
      rw [geV_no l (by rw [e]; decide), e]
      exact getether_long l w h2
    · have e : geE l = 0 := by unfold geE; rw [if_neg h, if_neg h2]
      obtain ⟨b0, b1, b2, b3, b4, b5, b6, b7, b8, b9, b10, b11, r, hr⟩ := twelve l (by omega)
      rw [geV_ok b0 b1 b2 b3 b4 b5 b6 b7 b8 b9 b10 b11 r l hr e, e]
      exact getether_ok l w (by omega) (by omega) b0 b1 b2 b3 b4 b5 b6 b7 b8 b9 b10 b11 r (Lib.hid hr)
theorem rgetether_short (l : List UInt8) (w : World) (hl : l.length < 14) :
    Calls Try.prog 38 #[.string (B l)] w fun e w' => e = .returned (.tuple #[eth0, .int .i64 5]) ∧ Fr [] w w' := by
  have h1 : (l.length : Int) < 14 := by omega
  unfold eth0
  go_enter Try.func38, Try.ntmps38
  go_wp2
  refine bodyPost_ret (v := .tuple #[.agg #[.int .u8 0, .int .u8 0, .int .u8 0, .int .u8 0, .int .u8 0, .int .u8 0, .int .u8 0, .int .u8 0, .int .u8 0, .int .u8 0, .int .u8 0, .int .u8 0, .int .i64 0, .string ⟨#[]⟩], .int .i64 5]) (by simp [results, Try.results38, go_sem]) rfl ?_
  exact ⟨rfl, (Fr.refl _ _).alloc _⟩
theorem rgetether_long (l : List UInt8) (w : World) (hl : 1514 < l.length) :
    Calls Try.prog 38 #[.string (B l)] w fun e w' => e = .returned (.tuple #[eth0, .int .i64 2]) ∧ Fr [] w w' := by
  have h1 : ¬ (l.length : Int) < 14 := by omega
  have h2 : (1514 : Int) < l.length := by omega
  unfold eth0
  go_enter Try.func38, Try.ntmps38
  go_wp2
  refine bodyPost_ret (v := .tuple #[.agg #[.int .u8 0, .int .u8 0, .int .u8 0, .int .u8 0, .int .u8 0, .int .u8 0, .int .u8 0, .int .u8 0, .int .u8 0, .int .u8 0, .int .u8 0, .int .u8 0, .int .i64 0, .string ⟨#[]⟩], .int .i64 2]) (by simp [results, Try.results38, go_sem]) rfl ?_
  exact ⟨rfl, (Fr.refl _ _).alloc _⟩
theorem rgetether_any (l : List UInt8) (w : World) (hl : l.length ≤ 1000000) :
    Calls Try.prog 38 #[.string (B l)] w fun e w' => e = .returned (.tuple #[geV l, .int .i64 (geE l)]) ∧ Fr [] w w' := by
  by_cases h : l.length < 14
  · have e : geE l = 5 := by unfold geE; rw [if_pos h]
    rw [geV_no l (by rw [e]; decide), e]
    exact rgetether_short l w h
  · by_cases h2 : 1514 < l.length
    · have e : geE l = 2 := by unfold geE; rw [if_neg h, if_pos h2]
      rw [geV_no l (by rw [e]; decide), e]
      exact rgetether_long l w h2
    · have e : geE l = 0 := by unfold geE; rw [if_neg h, if_neg h2]
      obtain ⟨b0, b1, b2, b3, b4, b5, b6, b7, b8, b9, b10, b11, r, hr⟩ := twelve l (by omega)
      rw [geV_ok b0 b1 b2 b3 b4 b5 b6 b7 b8 b9 b10 b11 r l hr e, e]
      exact rgetether_ok l w (by omega) (by omega) b0 b1 b2 b3 b4 b5 b6 b7 b8 b9 b10 b11 r (Lib.hid hr)
theorem infoB6 : (Try.prog.info? 5).map (·.size) = some 1 := by kernel_rfl
theorem macEq (a0 a1 a2 a3 a4 a5 : Int) (w : World) : (Op.equalIn 9999 41 (.agg #[.int .u8 a0, .int .u8 a1, .int .u8 a2, .int .u8 a3, .int .u8 a4, .int .u8 a5]) (.agg #[.int .u8 a0, .int .u8 a1, .int .u8 a2, .int .u8 a3, .int .u8 a4, .int .u8 a5])).run Try.prog w = .ok true w := by
  obtain ⟨i, hi⟩ : ∃ i, Try.prog.info? 5 = some i := by
    have := infoB6
    cases h : Try.prog.info? 5 with
    | none => rw [h] at this; simp at this
    | some i => exact ⟨i, rfl⟩
  have hc : Try.prog.cellsOf 5 = 1 := by kernel_rfl
  have hp : ∀ (k : Nat) (v : Value) (xs : Array Value) (w : World), xs[k]? = some v → (part 5 xs k).run Try.prog w = .ok v w := fun k v xs w h => run_part_plain (P := Try.prog) w (by kernel_rfl) h
  have hq : ∀ (x : Int) (w : World), (Op.equalIn 9998 5 (.int .u8 x) (.int .u8 x)).run Try.prog w = .ok true w := fun x w => by
    have := run_equalIn_int (P := Try.prog) w 9997 5 .u8 .u8 x x Try.underlying5
    simpa using this
  rw [run_equalIn_array w 9998 _ _ Try.underlying41 hi, hc]
  simp [Op.eqItems, List.range_succ, hp, hq]
def ggF (l : List UInt8) : Int := if gmE l = 0 then getV (unsL l) 0 2 else 0
def ggT (l : List UInt8) : Int := if gmE l = 0 then getV (unsL l) 2 2 else 0
def ggD (l : List UInt8) : List UInt8 := if gmE l = 0 then (unsL l).drop 6 else []
theorem gmV_eq (l : List UInt8) : gmV l = .agg #[.int .i64 (ggF l), .int .i64 (ggT l), .string (B (ggD l))] := by
  unfold gmV ggF ggT ggD
  split <;> rfl
end Go.Proofs.Ytmdgilhjiooalaa
