/- package store: a store in memory; its methods. -/
import Derived.Test.YtpljdnocdhppmaaWhoKey
import Derived.Test.YtpljdnocdhppmaaSameB
import Derived.Test.YtpljdnocdhppmaaStore2
import Derived.Test.YtpljdnocdhppmaaTakes
import Derived.Outline
import Derived.WalkLawsBesides
namespace Go.Proofs.Ytpljdnocdhppmaa
open Go.RowKit Go.Maps
set_option linter.unusedVariables false

/-- what is known of a name -/
structure Kn where
  s : List UInt8
  wr : Int
  la : Int
def knC (k : Kn) : Array Value := #[.string (B k.s), .int .i64 k.wr, .int .i64 k.la]
def stv (lim calm : Int) (mp : Option Nat) : Array Value := #[.int .i64 lim, .int .i64 calm, .map mp]
def ptrV (x : Nat) : Value := .pointer (some ⟨x, 0, none⟩)
/-- what lies under a map's letter: nothing, or a block -/
def MapAt (W : World) (mp : Option Nat) (L : List (Who × Nat)) : Prop := (mp = none ∧ L = []) ∨ ∃ b, mp = some b ∧ MapIs whoE ptrV W b L
structure StoreIs (W : World) (g : Nat) (lim calm : Int) (mp : Option Nat) (L : List (Who × Nat)) (K : Nat → Kn) : Prop where
  st : Blk W g (stv lim calm mp) 71
  mapAt : MapAt W mp L
  kn : ∀ p, p ∈ L → Blk W p.2 (knC (K p.2)) 89
  nd : (L.map (·.2)).Nodup
  apart : ∀ p, p ∈ L → p.2 ≠ g

theorem u64_sub (t la : Int) (h : la ≤ t) (h0 : -9223372036854775808 ≤ la) (h1 : t ≤ 9223372036854775807) : IntKind.u64.wrap (IntKind.u64.wrap t - IntKind.u64.wrap la) = t - la := by
  simp only [IntKind.wrap, IntKind.signed, IntKind.bits]
  simp
  omega
section
variable {w : World} {g x : Nat} {lim calm t : Int} {mp : Option Nat} {k : Kn}
def shutB (lim calm : Int) (k : Kn) (t : Int) : Bool := decide (1 ≤ lim ∧ lim ≤ k.wr ∧ (t < k.la ∨ t - k.la < max calm 1))
theorem shut_1 (h : lim < 1) (hB : Blk w g (stv lim calm mp) 71) (hK : Blk w x (knC k) 89) :
    Calls Try.prog 64 #[.pointer (some ⟨g, 0, none⟩), .pointer (some ⟨x, 0, none⟩), .int .i64 t] w fun e w' => e = .returned (.bool false) ∧ Fr [] w w' := by
  have c0 : w.cell? ⟨g, 0, none⟩ = some (.int .i64 lim) := hB.c 0 _ rfl
  have hd : decide (lim < 1) = true := by simpa using h
  clear hB hK
  go_enter Try.func64, Try.ntmps64
  go_wp2_with fail
  go_quiet (fail)
  go_wp2
  go_ret
  exact ⟨rfl, (Fr.refl _ _).drewN _⟩
theorem shut_2 (h : ¬ lim < 1) (h2 : k.wr < lim) (hB : Blk w g (stv lim calm mp) 71) (hK : Blk w x (knC k) 89) :
    Calls Try.prog 64 #[.pointer (some ⟨g, 0, none⟩), .pointer (some ⟨x, 0, none⟩), .int .i64 t] w fun e w' => e = .returned (.bool false) ∧ Fr [] w w' := by
  have c0 : w.cell? ⟨g, 0, none⟩ = some (.int .i64 lim) := hB.c 0 _ rfl
  have d1 : w.cell? ⟨x, 1, none⟩ = some (.int .i64 k.wr) := hK.c 1 _ rfl
  have hd : decide (lim < 1) = false := by simpa using h
  clear hB hK
  go_enter Try.func64, Try.ntmps64
  go_wp2_with fail
  go_quiet (fail)
  go_wp2
  go_ret
  exact ⟨rfl, (Fr.refl _ _).drewN _⟩
theorem shut_3 (h : ¬ lim < 1) (h2 : ¬ k.wr < lim) (h3 : t < k.la) (hB : Blk w g (stv lim calm mp) 71) (hK : Blk w x (knC k) 89) :
    Calls Try.prog 64 #[.pointer (some ⟨g, 0, none⟩), .pointer (some ⟨x, 0, none⟩), .int .i64 t] w fun e w' => e = .returned (.bool true) ∧ Fr [] w w' := by
  have c0 : w.cell? ⟨g, 0, none⟩ = some (.int .i64 lim) := hB.c 0 _ rfl
  have d1 : w.cell? ⟨x, 1, none⟩ = some (.int .i64 k.wr) := hK.c 1 _ rfl
  have d2 : w.cell? ⟨x, 2, none⟩ = some (.int .i64 k.la) := hK.c 2 _ rfl
  have hd : decide (lim < 1) = false := by simpa using h
  have hd3 : decide (t < k.la) = true := by simpa using h3
  clear hB hK
  go_enter Try.func64, Try.ntmps64
  go_wp2_with fail
  go_quiet (fail)
  go_wp2
  go_quiet (fail)
  go_wp2
  go_ret
  exact ⟨rfl, ((Fr.refl _ _).drewN _).drewN _⟩
theorem shut_4 (h : ¬ lim < 1) (h2 : ¬ k.wr < lim) (h3 : ¬ t < k.la) (l0 : -9223372036854775808 ≤ k.la) (t1 : t ≤ 9223372036854775807) (m0 : 0 ≤ calm) (m1 : calm ≤ 1000) (hB : Blk w g (stv lim calm mp) 71) (hK : Blk w x (knC k) 89) :
    Calls Try.prog 64 #[.pointer (some ⟨g, 0, none⟩), .pointer (some ⟨x, 0, none⟩), .int .i64 t] w fun e w' => e = .returned (.bool (decide (t - k.la < max calm 1))) ∧ Fr [] w w' := by
  have c0 : w.cell? ⟨g, 0, none⟩ = some (.int .i64 lim) := hB.c 0 _ rfl
  have c1 : w.cell? ⟨g, 1, none⟩ = some (.int .i64 calm) := hB.c 1 _ rfl
  have HU := Lib.hid (u64_sub t k.la (by omega) l0 t1)
  clear l0 t1
  have d1 : w.cell? ⟨x, 1, none⟩ = some (.int .i64 k.wr) := hK.c 1 _ rfl
  have d2 : w.cell? ⟨x, 2, none⟩ = some (.int .i64 k.la) := hK.c 2 _ rfl
  have hd : decide (lim < 1) = false := by simpa using h
  have hd3 : decide (t < k.la) = false := by simpa using h3
  clear hB hK
  go_enter Try.func64, Try.ntmps64
  go_wp2_with fail
  go_quiet (fail)
  go_wp2
  go_quiet (fail)
  go_wp2
  go_ret
  refine ⟨rbool ?_, ((Fr.refl _ _).drewN _).drewN _⟩
  rw [HU.out]
/-- a time, or a count of tries, that is an int -/
def KnOk (k : Kn) : Prop := -9223372036854775808 ≤ k.la ∧ k.la ≤ 9223372036854775807 ∧ 0 ≤ k.wr ∧ k.wr ≤ 2147483647
theorem shut_any (hk : KnOk k) (t0 : -9223372036854775808 ≤ t) (t1 : t ≤ 9223372036854775807) (m0 : 0 ≤ calm) (m1 : calm ≤ 1000) (hB : Blk w g (stv lim calm mp) 71) (hK : Blk w x (knC k) 89) :
    Calls Try.prog 64 #[.pointer (some ⟨g, 0, none⟩), .pointer (some ⟨x, 0, none⟩), .int .i64 t] w fun e w' => e = .returned (.bool (shutB lim calm k t)) ∧ Fr [] w w' := by
  unfold shutB
  by_cases h1 : lim < 1
  · rw [decide_eq_false (by omega)]; exact shut_1 h1 hB hK
  · by_cases h2 : k.wr < lim
    · rw [decide_eq_false (by omega)]; exact shut_2 h1 h2 hB hK
    · by_cases h3 : t < k.la
      · rw [decide_eq_true ⟨by omega, by omega, Or.inl h3⟩]; exact shut_3 h1 h2 h3 hB hK
      · have e : decide (1 ≤ lim ∧ lim ≤ k.wr ∧ (t < k.la ∨ t - k.la < max calm 1)) = decide (t - k.la < max calm 1) := by
          rw [Bool.eq_iff_iff, decide_eq_true_eq, decide_eq_true_eq]
          constructor
          · rintro ⟨_, _, h | h⟩
            · exact absurd h h3
            · exact h
          · exact fun h => ⟨by omega, by omega, Or.inr h⟩
        rw [e]
        exact shut_4 h1 h2 h3 hk.1 t1 m0 m1 hB hK
end
end Go.Proofs.Ytpljdnocdhppmaa
