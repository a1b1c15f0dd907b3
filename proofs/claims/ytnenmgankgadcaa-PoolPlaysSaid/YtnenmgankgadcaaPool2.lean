/- package pool: a pool in memory; none, Has, Who, Free, New. -/
import Derived.Test.YtnenmgankgadcaaPoolRel
import Derived.Test.YtnenmgankgadcaaTakes
import Derived.WalkLawsBesides
import Derived.RegionTactic
namespace Go.Proofs.Ytnenmgankgadcaa
open Go.RowKit Go.Maps
set_option linter.unusedVariables false

def plv (b : Ad) (n : Int) (bh bw : Nat) : Array Value := #[.int .u8 b.1, .int .u8 b.2.1, .int .u8 b.2.2.1, .int .u8 b.2.2.2, .int .i64 n, .map (some bh), .map (some bw)]
def adV (x : Ad) : Value := .agg (adC x)
def kyV (k : Ky) : Value := .agg (kyC k)
structure PoolIs (w : World) (g bh bw : Nat) (b : Ad) (s : List (Option Ky)) (H : List (Ky × Ad)) (M : List (Ad × Ky)) : Prop where
  st : Blk w g (plv b s.length bh bw) 61
  hM : MapIs kyE adV w bh H
  wM : MapIs adE kyV w bw M
  ne : bh ≠ bw
  rel : Rel s (numb b) H M
  bok : AdOk b
  n1 : 1 ≤ s.length
  n2 : s.length ≤ 256
theorem MapIs.not_row {P : Program} {k : TypeId} {κ ν : Type} [DecidableEq κ] {E : KeyEnc P k κ} {ev : ν → Value} {w : World} {b : Nat} {L : List (κ × ν)} (h : MapIs E ev w b L) {g T : Nat} {cs : Array Value} (hB : Blk w g cs T) : g ≠ b := fun e => by
  subst e
  obtain ⟨es, cl, he, _⟩ := h
  unfold Blk at hB
  rw [he] at hB
  cases hB
theorem PoolIs.fr {w w' : World} {g bh bw : Nat} {b : Ad} {s : List (Option Ky)} {H : List (Ky × Ad)} {M : List (Ad × Ky)} (h : PoolIs w g bh bw b s H M) {S : List Nat} (hF : Fr S w w') (h0 : g ∉ S) (h1 : bh ∉ S) (h2 : bw ∉ S) : PoolIs w' g bh bw b s H M :=
  ⟨hF.blk h.st h0, h.hM.fr hF h1, h.wM.fr hF h2, h.ne, h.rel, h.bok, h.n1, h.n2⟩
theorem PoolIs.fr0 {w w' : World} {g bh bw : Nat} {b : Ad} {s : List (Option Ky)} {H : List (Ky × Ad)} {M : List (Ad × Ky)} (h : PoolIs w g bh bw b s H M) (hF : Fr [] w w') : PoolIs w' g bh bw b s H M := h.fr hF (by simp) (by simp) (by simp)
theorem zero_ad (w : World) : (zeroValue 23).run Try.prog w = .ok (adV (0, 0, 0, 0)) w := by kernel_rfl
theorem zero_ky (w : World) : (zeroValue 36).run Try.prog w = .ok (kyV (0, 0)) w := by kernel_rfl
def adD (r : Option Ad) : Ad := r.getD (0, 0, 0, 0)
def kyD (r : Option Ky) : Ky := r.getD (0, 0)
section
variable {w : World} {g bh bw : Nat} {b : Ad} {s : List (Option Ky)} {H : List (Ky × Ad)} {M : List (Ad × Ky)}
theorem lookH {b : Nat} (h : MapIs kyE adV w b H) (k : Ky) (hk : KyOk k) :
    (Instr.lookup 58 (.map (some b)) (.agg #[.int .i64 k.1, .int .i64 k.2]) true).run Try.prog w = .ok (.tuple #[.agg (adC (adD (look H k))), .bool (look H k).isSome]) w := by
  have := h.lookup Try.underlying58 (zero_ad w) true k hk
  refine this.trans ?_
  cases look H k <;> rfl
theorem lookM {b : Nat} (h : MapIs adE kyV w b M) (a : Ad) (ha : AdOk a) :
    (Instr.lookup 59 (.map (some b)) (.agg #[.int .u8 a.1, .int .u8 a.2.1, .int .u8 a.2.2.1, .int .u8 a.2.2.2]) true).run Try.prog w = .ok (.tuple #[.agg (kyC (kyD (look M a))), .bool (look M a).isSome]) w := by
  have := h.lookup Try.underlying59 (zero_ky w) true a ha
  refine this.trans ?_
  cases look M a <;> rfl
theorem pnone_any {n : Int} (hn : (n == 0) = false) (hB : Blk w g (plv b n bh bw) 61) :
    Calls Try.prog 31 #[.pointer (some ⟨g, 0, none⟩)] w fun e w' => e = .returned (.bool false) ∧ w = w' := by
  have c4 : w.cell? ⟨g, 4, none⟩ = some (.int .i64 n) := hB.c 4 _ rfl
  clear hB
  go_enter Try.func31, Try.ntmps31
  go_wp2
  go_ret
  exact ⟨rfl, rfl⟩
theorem pnone_nil : Calls Try.prog 31 #[.pointer none] w fun e w' => e = .returned (.bool true) ∧ w = w' := by
  go_enter Try.func31, Try.ntmps31
  go_wp2
  go_ret
  exact ⟨rfl, rfl⟩
theorem pnone_zero (h4 : w.cell? ⟨g, 4, none⟩ = some (.int .i64 0)) : Calls Try.prog 31 #[.pointer (some ⟨g, 0, none⟩)] w fun e w' => e = .returned (.bool true) ∧ w = w' := by
  go_enter Try.func31, Try.ntmps31
  go_wp2
  go_ret
  exact ⟨rfl, rfl⟩
theorem len_beq (h : PoolIs w g bh bw b s H M) : ((s.length : Int) == 0) = false := by rw [beq_eq_false_iff_ne]; have := h.n1; omega
set_option maxRecDepth 100000 in
set_option maxHeartbeats 1000000 in
theorem has_any (k : Ky) (hk : KyOk k) (h : PoolIs w g bh bw b s H M) :
    Calls Try.prog 19 #[.pointer (some ⟨g, 0, none⟩), .agg (kyC k)] w fun e w' => e = .returned (.tuple #[.agg (adC (adD (look H k))), .bool (look H k).isSome]) ∧ Fr [] w w' := by
  have hln := len_beq h
  obtain ⟨k1, k2⟩ := k
  unfold kyC
  simp only
  have HK0 := Lib.hid fun (W : World) (hW : Fr [] w W) => lookH (h.fr0 hW).hM (k1, k2) hk
  have HC := Lib.hid fun (W : World) (hW : Fr [] w W) => (h.fr0 hW).st
  obtain ⟨v, hv⟩ : ∃ v, adD (look H (k1, k2)) = v := ⟨_, rfl⟩
  obtain ⟨q, hq⟩ : ∃ v, (look H (k1, k2)).isSome = v := ⟨_, rfl⟩
  rw [hv, hq] at HK0 ⊢
  obtain ⟨v0, v1, v2, v3⟩ := v
  unfold adC adr at HK0 ⊢
  simp only at HK0 ⊢
  have HLn := Lib.hid hln
  clear h hk hv hq hln
  go_enter Try.func19, Try.ntmps19
  go_wp2_with fail
  refine (pnone_any HLn.out (HC.out _ (((Fr.refl _ _).alloc _).alloc _))).mono ?_
  rintro e w1 ⟨rfl, rfl⟩
  obtain ⟨W, hW⟩ : ∃ W, (w.alloc (.cells #[.int .i64 k1, .int .i64 k2] 36 (0, 0))).alloc (.cells #[.int .u8 0, .int .u8 0, .int .u8 0, .int .u8 0] 23 (0, 0)) = W := ⟨_, rfl⟩
  have hF : Fr [] w W := by rw [← hW]; exact ((Fr.refl _ _).alloc _).alloc _
  have hBk : Blk W w.heap.size #[.int .i64 k1, .int .i64 k2] 36 := by rw [← hW]; exact (Blk.new _ _ _).alloc _
  have hBz : Blk W (w.heap.size + 1) #[.int .u8 0, .int .u8 0, .int .u8 0, .int .u8 0] 23 := by
    have := Blk.new (w.alloc (.cells #[.int .i64 k1, .int .i64 k2] 36 (0, 0))) #[.int .u8 0, .int .u8 0, .int .u8 0, .int .u8 0] 23
    rw [show (w.alloc (.cells #[.int .i64 k1, .int .i64 k2] 36 (0, 0))).heap.size = w.heap.size + 1 by simp, hW] at this
    exact this
  have hWs : W.heap.size = w.heap.size + 1 + 1 := by rw [← hW]; simp
  rw [hW]
  clear hW
  go_wp2_with fail
  have HS : Hid (∀ w', Fr [] W w' → (w'.cell? ⟨g, 5, none⟩ = some (.map (some bh)) ∧ w'.cell? ⟨w.heap.size, 0, none⟩ = some (.int .i64 k1) ∧ w'.cell? ⟨w.heap.size, 1, none⟩ = some (.int .i64 k2) ∧ (Instr.lookup 58 (.map (some bh)) (.agg #[.int .i64 k1, .int .i64 k2]) true).run Try.prog w' = .ok (.tuple #[.agg #[.int .u8 v0, .int .u8 v1, .int .u8 v2, .int .u8 v3], .bool q]) w') ∧ Fr [] W w') :=
    Lib.hid fun w' hw => ⟨⟨(HC.out _ (hF.trans hw)).c 5 _ rfl, (hw.blk hBk (by simp)).c 0 _ rfl, (hw.blk hBk (by simp)).c 1 _ rfl, HK0.out _ (hF.trans hw)⟩, hw⟩
  have HWs := Lib.hid hWs
  clear hWs
  go_region_held3 (fun w' => (w'.cell? ⟨g, 5, none⟩ = some (.map (some bh)) ∧ w'.cell? ⟨w.heap.size, 0, none⟩ = some (.int .i64 k1) ∧ w'.cell? ⟨w.heap.size, 1, none⟩ = some (.int .i64 k2) ∧ (Instr.lookup 58 (.map (some bh)) (.agg #[.int .i64 k1, .int .i64 k2]) true).run Try.prog w' = .ok (.tuple #[.agg #[.int .u8 v0, .int .u8 v1, .int .u8 v2, .int .u8 v3], .bool q]) w') ∧ Fr [] W w')
    (first | exact HS.out _ (Fr.refl _ _).drew | exact HS.out _ ((Fr.refl _ _).alloc _).drew | assumption) (fail)
  all_goals
    obtain ⟨W2, hW2⟩ : ∃ W2, (W.alloc (.cells #[.int .u8 v0, .int .u8 v1, .int .u8 v2, .int .u8 v3] 23 (0, 0))).drew = W2 := ⟨_, rfl⟩
    have hF2 : Fr [] W W2 := by rw [← hW2]; exact ((Fr.refl _ _).alloc _).drew
    have hB2 : Blk W2 W.heap.size #[.int .u8 v0, .int .u8 v1, .int .u8 v2, .int .u8 v3] 23 := by rw [← hW2]; exact (Blk.new _ _ _).drew
    have hZ2 := hF2.blk hBz (by simp)
    rw [hW2]
    obtain ⟨r, hr⟩ : ∃ r, W.heap.size = r := ⟨_, rfl⟩
    rw [hr] at hB2 ⊢
    have z0 : W2.cell? ⟨w.heap.size + 1, 0, none⟩ = some (.int .u8 0) := hZ2.c 0 _ rfl
    have z1 : W2.cell? ⟨w.heap.size + 1, 1, none⟩ = some (.int .u8 0) := hZ2.c 1 _ rfl
    have z2 : W2.cell? ⟨w.heap.size + 1, 2, none⟩ = some (.int .u8 0) := hZ2.c 2 _ rfl
    have z3 : W2.cell? ⟨w.heap.size + 1, 3, none⟩ = some (.int .u8 0) := hZ2.c 3 _ rfl
    have f0 := hZ2.fz 0
    have f1 := hZ2.fz 1
    have f2 := hZ2.fz 2
    have f3 := hZ2.fz 3
    have d0 : W2.cell? ⟨r, 0, none⟩ = some (.int .u8 v0) := hB2.c 0 _ rfl
    have d1 : W2.cell? ⟨r, 1, none⟩ = some (.int .u8 v1) := hB2.c 1 _ rfl
    have d2 : W2.cell? ⟨r, 2, none⟩ = some (.int .u8 v2) := hB2.c 2 _ rfl
    have d3 : W2.cell? ⟨r, 3, none⟩ = some (.int .u8 v3) := hB2.c 3 _ rfl
    have hB4 := (((hZ2.set 0 (.int .u8 v0)).set 1 (.int .u8 v1)).set 2 (.int .u8 v2)).set 3 (.int .u8 v3)
    have hF4 := ((((hF.trans hF2).setNew (p := ⟨w.heap.size + 1, 0, none⟩) (by simp) (.int .u8 v0)).setNew (p := ⟨w.heap.size + 1, 1, none⟩) (by simp) (.int .u8 v1)).setNew (p := ⟨w.heap.size + 1, 2, none⟩) (by simp) (.int .u8 v2)).setNew (p := ⟨w.heap.size + 1, 3, none⟩) (by simp) (.int .u8 v3)
    clear hW2 hr hF2 hB2 hZ2 HS HWs
    go_wp2_with fail
    exact ret_cell2 4 5 23 rfl (w.heap.size + 1) 23 #[.int .u8 v0, .int .u8 v1, .int .u8 v2, .int .u8 v3] _ hB4 rfl Try.underlying23 rfl (by kernel_rfl) rfl ⟨rfl, hF4⟩
end
end Go.Proofs.Ytnenmgankgadcaa
