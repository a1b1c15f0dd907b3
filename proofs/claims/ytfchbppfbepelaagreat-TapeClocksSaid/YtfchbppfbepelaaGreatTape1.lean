/- Draws: a tape in memory (the program's and the document's), Next, Left. -/
import Derived.Test.YtfchbppfbepelaaGreatTapeB
import Derived.Outline
import Derived.IntWalk
namespace Go.Proofs.YtfchbppfbepelaaGreat
open Go.RowKit
set_option linter.unusedVariables false
/-- a tape of type T at block g: a slice of numbers that lie below block B, and how often it was asked behind its end -/
structure Tp (w : World) (T g lo B : Nat) (xs : List Int) (k : Int) : Prop where
  st : ∃ A cap, Blk w g #[.slice A xs.length cap, .int .i64 k] T ∧ Reads w B 1 A xs.length (xs.map i64V) ∧ xs.length ≤ cap ∧ cap ≤ maxLen ∧ ∀ ad, A = some ad → lo ≤ ad.block
  le : B ≤ g
  v : ∀ x, x ∈ xs → In64 x
theorem Reads.fr {S : List Nat} {w w' : World} {B size n : Nat} {A : Option Addr} {xs : List Value} (h : Reads w B size A n xs) (hF : Fr S w w') (hB : B ≤ w.heap.size) (hS : ∀ y, y ∈ S → B ≤ y) : Reads w' B size A n xs :=
  h.keep fun p hp => World.cell?_of_block (hF.block p.block (by omega) (fun hs => by have := hS _ hs; omega))
section
variable {w w' : World} {T g lo B : Nat} {xs : List Int} {k : Int}
theorem Tp.lt (h : Tp w T g lo B xs k) : g < w.heap.size := by
  obtain ⟨⟨A, cap, hb, _⟩, _, _⟩ := h
  exact hb.lt
theorem Tp.frLo {S : List Nat} (h : Tp w T g lo B xs k) (hF : Fr S w w') (hS : ∀ y, y ∈ S → B ≤ y ∨ y < lo) (hg : g ∉ S) : Tp w' T g lo B xs k := by
  have hlt := h.lt
  have hle := h.le
  obtain ⟨⟨A, cap, hb, hr, h1, h2, hlo⟩, _, hv⟩ := h
  refine ⟨⟨A, cap, hF.blk hb hg, ⟨hr.1, fun hn => ?_⟩, h1, h2, hlo⟩, hle, hv⟩
  obtain ⟨ad, ha, hb2, hc⟩ := hr.2 hn
  refine ⟨ad, ha, hb2, fun j u hu => ?_⟩
  rw [World.cell?_of_block (hF.block _ (by rw [block_of_add]; omega) (fun hs => by
    rw [block_of_add] at hs
    have h5 := hlo ad ha
    rcases hS _ hs with h6 | h6 <;> omega))]
  exact hc j u hu
theorem Tp.fr {S : List Nat} (h : Tp w T g lo B xs k) (hF : Fr S w w') (hS : ∀ y, y ∈ S → B ≤ y) (hg : g ∉ S) : Tp w' T g lo B xs k := h.frLo hF (fun y hy => Or.inl (hS y hy)) hg
theorem Tp.fr0 (h : Tp w T g lo B xs k) (hF : Fr [] w w') : Tp w' T g lo B xs k := h.fr hF (by simp) (by simp)
def nx (xs : List Int) (k : Int) : Int := if xs = [] then k + 1 else k
def dv (xs : List Int) (k n : Int) : Int := match xs with | [] => 7 * (k + 1) % n | x :: _ => x % n
theorem tmod_lo (v n : Int) (hn : 1 ≤ n) (h : 0 ≤ v.tmod n) : v.tmod n = v % n := by
  rw [Int.tmod_eq_emod] at h ⊢
  split at h
  · rename_i h1
    rw [if_pos h1]; omega
  · rename_i h1
    have := Int.emod_lt_of_pos v (show 0 < n by omega)
    omega
theorem tmod_hi (v n : Int) (hn : 1 ≤ n) (h : v.tmod n < 0) : v.tmod n = v % n - n := by
  rw [Int.tmod_eq_emod] at h ⊢
  split at h
  · have := Int.emod_nonneg v (show n ≠ 0 by omega)
    omega
  · rename_i h1
    rw [if_neg h1]; omega
set_option maxHeartbeats 1000000 in
theorem modulo_any (v n : Int) (w : World) (hv : In64 v) (hn : 1 ≤ n ∧ n ≤ 9223372036854775807) :
    Calls Tryz.prog 301 #[.int .i64 v, .int .i64 n] w fun e w' => e = .returned (.int .i64 (v % n)) ∧ w' = w := by
  obtain ⟨v0, v1⟩ := hv
  obtain ⟨n0, n1⟩ := hn
  go_enter Tryz.func301, Tryz.ntmps301
  go_wp2
  · go_ret
    refine ⟨?_, rfl⟩
    rename_i h
    rw [tmod_hi v n n0 h]
    have := Int.emod_nonneg v (show n ≠ 0 by omega)
    have := Int.emod_lt_of_pos v (show 0 < n by omega)
    have e : wrap64 (v % n - n + n) = v % n := by unfold wrap64; omega
    rw [e]
    rfl
  · go_ret
    refine ⟨?_, rfl⟩
    rename_i h
    rw [tmod_lo v n n0 h]
    rfl
theorem dv_in (xs : List Int) (k n : Int) (hn : 1 ≤ n) : 0 ≤ dv xs k n ∧ dv xs k n < n := by
  unfold dv
  cases xs with
  | nil => exact ⟨Int.emod_nonneg _ (by omega), Int.emod_lt_of_pos _ (by omega)⟩
  | cons x r => exact ⟨Int.emod_nonneg _ (by omega), Int.emod_lt_of_pos _ (by omega)⟩
set_option maxHeartbeats 2000000 in
theorem tnext_cons {w : World} {g lo B : Nat} {x : Int} {xs : List Int} {k n : Int} (h : Tp w 395 g lo B (x :: xs) k) (n0 : 1 ≤ n) (n1 : n ≤ 9223372036854775807) :
    Calls Tryz.prog 212 #[.pointer (some ⟨g, 0, none⟩), .int .i64 n] w fun e w' => e = .returned (.int .i64 (x % n)) ∧ Tp w' 395 g lo B xs k ∧ Fr [g] w w' := by
  obtain ⟨⟨A, cap, hb, hr, h1, h2, hlo⟩, hle, hv⟩ := h
  have HM := Lib.hid fun W => modulo_any x n W (hv x (by simp)) ⟨n0, n1⟩
  obtain ⟨ad, u, rfl, had, hu, hc⟩ := hr.at_ (k := 0) (by simp)
  simp [i64V] at hu
  subst hu
  have hadd : ad.add 0 = ad := by unfold Addr.add; simp
  rw [hadd] at hc
  have hcut := hr.cut (k := 1) (cap := cap) (by simp) h1
  have c0 : w.cell? ⟨g, 0, none⟩ = some (.slice (some ad) (x :: xs).length cap) := hb.c 0 _ rfl
  have f0 := hb.fz 0
  have hl : (x :: xs).length = xs.length + 1 := rfl
  rw [hl] at c0 h1
  have hgt : (0 : Int) < (xs.length + 1 : Nat) := by omega
  clear hr
  unfold maxLen at h2
  have hv' : ∀ y, y ∈ xs → In64 y := fun y hy => hv y (by simp [hy])
  have hgl := hb.lt
  have hdl : (x :: xs).length - 1 = xs.length := rfl
  have hdr : List.drop (1 * 1) (List.map i64V (x :: xs)) = xs.map i64V := rfl
  rw [hdl, hdr] at hcut
  by_cases hcap : cap = 1
  · subst hcap
    have hx0 : xs = [] := List.eq_nil_of_length_eq_zero (by omega)
    subst hx0
    clear hdl hdr hcut hv
    go_enter Tryz.func212, Tryz.ntmps212
    go_wp2_with fail
    refine (HM.out _).mono ?_
    rintro e w1 ⟨rfl, rfl⟩
    go_wp2_with fail
    go_ret
    refine ⟨rfl, ⟨⟨_, _, hb.set 0 _, Reads.none_, Nat.zero_le _, ?_, by intro a' e; cases e; exact hlo _ rfl⟩, hle, by simp⟩, (Fr.refl _ _).setCell (by simp) _⟩
    unfold maxLen; omega
  · rw [if_neg hcap, Option.map_some, show ad.add (1 * 1) = ⟨ad.block, ad.off + 1, none⟩ by unfold Addr.add; simp] at hcut
    clear hdl hdr hv
    have hcap2 : xs.length ≤ cap - 1 := by omega
    go_enter Tryz.func212, Tryz.ntmps212
    go_wp2_with fail
    refine (HM.out _).mono ?_
    rintro e w1 ⟨rfl, rfl⟩
    go_wp2_with fail
    go_ret
    have hF : Fr [g] w (w.setCell ⟨g, 0, none⟩ (.slice (some ⟨ad.block, ad.off + 1, none⟩) xs.length (cap - 1))) := (Fr.refl _ _).setCell (by simp) _
    refine ⟨rfl, ⟨⟨_, _, hb.set 0 _, hcut.fr hF (by omega) (by simp; exact hle), hcap2, ?_, by intro a' e; cases e; exact hlo ad rfl⟩, hle, hv'⟩, hF⟩
    unfold maxLen; omega
set_option maxHeartbeats 2000000 in
theorem tnext_nil {w : World} {g lo B : Nat} {k n : Int} (h : Tp w 395 g lo B [] k) (n0 : 1 ≤ n) (n1 : n ≤ 9223372036854775807) (k0 : 0 ≤ k) (k1 : k ≤ 1099511627776) :
    Calls Tryz.prog 212 #[.pointer (some ⟨g, 0, none⟩), .int .i64 n] w fun e w' => e = .returned (.int .i64 (7 * (k + 1) % n)) ∧ Tp w' 395 g lo B [] (k + 1) ∧ Fr [g] w w' := by
  obtain ⟨⟨A, cap, hb, hr, h1, h2, hlo⟩, hle, hv⟩ := h
  have HM := Lib.hid fun W => modulo_any (7 * (k + 1)) n W ⟨by omega, by omega⟩ ⟨n0, n1⟩
  have c0 : w.cell? ⟨g, 0, none⟩ = some (.slice A 0 cap) := hb.c 0 _ rfl
  have c1 : w.cell? ⟨g, 1, none⟩ = some (.int .i64 k) := hb.c 1 _ rfl
  have f1 := hb.fz 1
  have hgl := hb.lt
  clear hr
  go_enter Tryz.func212, Tryz.ntmps212
  go_wp2_with fail
  refine (HM.out _).mono ?_
  rintro e w1 ⟨rfl, rfl⟩
  go_wp2_with fail
  go_ret
  exact ⟨rfl, ⟨⟨A, cap, hb.set 1 _, Reads.none_, Nat.zero_le _, h2, hlo⟩, hle, by simp⟩, (Fr.refl _ _).setCell (by simp) _⟩
theorem tnext_any {w : World} {g lo B : Nat} {xs : List Int} {k n : Int} (h : Tp w 395 g lo B xs k) (n0 : 1 ≤ n) (n1 : n ≤ 9223372036854775807) (k0 : 0 ≤ k) (k1 : k ≤ 1099511627776) :
    Calls Tryz.prog 212 #[.pointer (some ⟨g, 0, none⟩), .int .i64 n] w fun e w' => e = .returned (.int .i64 (dv xs k n)) ∧ Tp w' 395 g lo B xs.tail (nx xs k) ∧ Fr [g] w w' := by
  cases xs with
  | nil => exact tnext_nil h n0 n1 k0 k1
  | cons x r => exact tnext_cons h n0 n1
theorem tnext_low {w : World} {g : Nat} {n : Int} (n0 : n < 1) :
    Calls Tryz.prog 212 #[.pointer (some ⟨g, 0, none⟩), .int .i64 n] w fun e w' => e = .returned (.int .i64 0) ∧ w' = w := by
  go_enter Tryz.func212, Tryz.ntmps212
  go_wp2_with fail
  go_ret
  exact ⟨rfl, rfl⟩
theorem tnext_none {w : World} {n : Int} :
    Calls Tryz.prog 212 #[.pointer none, .int .i64 n] w fun e w' => e = .returned (.int .i64 0) ∧ w' = w := by
  go_enter Tryz.func212, Tryz.ntmps212
  go_wp2_with fail
  go_ret
  exact ⟨rfl, rfl⟩
end
end Go.Proofs.YtfchbppfbepelaaGreat
