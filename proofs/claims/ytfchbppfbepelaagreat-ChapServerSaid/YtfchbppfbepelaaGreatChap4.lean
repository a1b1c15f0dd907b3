/- chap's server: none, say, Start, Done, Tick, New. -/
import Derived.Test.YtfchbppfbepelaaGreatChap3
import Derived.Test.YtfchbppfbepelaaGreatRow
import Derived.Test.YtfchbppfbepelaaGreatTakes
import Derived.RegionTactic
import Derived.ChangeAlike
namespace Go.Proofs.YtfchbppfbepelaaGreat
open Go.RowKit
set_option linter.unusedVariables false

def csv (n : List UInt8) (r wt id : Int) (v : List UInt8) (ak ws : Bool) (t a : Int) (x y : Bool) (A : Option Addr) (sl sc : Nat) : Array Value :=
  #[.string (B n), .int .i64 r, .int .i64 wt, .int .u8 id, .string (B v), .bool ak, .bool ws, .int .i64 t, .int .i64 a, .bool x, .bool y, .slice A sl sc]
def pkt (c id : Int) (o : Value) (d : List UInt8) : Array Value := #[.int .i64 c, .int .i64 id, o, .string (B d)]
/-- a packet's cells -/
def Pk (w : World) (g : Nat) (c i : Int) (d : List UInt8) : Prop :=
  w.cell? ⟨g, 0, none⟩ = some (.int .i64 c) ∧ w.cell? ⟨g, 1, none⟩ = some (.int .i64 i) ∧ w.cell? ⟨g, 2, none⟩ = some (.slice none 0 0) ∧ w.cell? ⟨g, 3, none⟩ = some (.string (B d))
theorem Pk.of {w : World} {g : Nat} {c i : Int} {d : List UInt8} {T : Nat} (h : Blk w g (pkt c i (.slice none 0 0) d) T) : Pk w g c i d := ⟨h.c 0 _ rfl, h.c 1 _ rfl, h.c 2 _ rfl, h.c 3 _ rfl⟩
/-- .. as a list of one, with the block that holds it -/
def PkB (w : World) (g cap : Nat) (c i : Int) (d : List UInt8) : Prop := Pk w g c i d ∧ w.ownsRow 0 56 4 (.slice (some ⟨g, 0, none⟩) 1 cap) 1 [.int .i64 c, .int .i64 i, .slice none 0 0, .string (B d)]
theorem PkB.of {w : World} {g : Nat} {c i : Int} {d : List UInt8} (h : Blk w g (pkt c i (.slice none 0 0) d) 56) : PkB w g 1 c i d := ⟨Pk.of h, ⟨rfl, .inr ⟨g, 1, _, rfl, Nat.zero_le _, h, Nat.le_refl 1, by unfold maxLen; omega, rfl, rfl⟩⟩⟩
theorem PkB.row {w : World} {g cap base : Nat} {c i : Int} {d : List UInt8} (h : PkB w g cap c i d) (hb : base ≤ g) : w.ownsRow base 56 4 (.slice (some ⟨g, 0, none⟩) 1 cap) 1 [.int .i64 c, .int .i64 i, .slice none 0 0, .string (B d)] := by
  obtain ⟨_, h1, h2⟩ := h
  rcases h2 with ⟨h3, _⟩ | ⟨g', c', cur, h3, _, r⟩
  · cases h3
  · refine ⟨h1, .inr ⟨g', c', cur, h3, ?_, r⟩⟩
    injection h3 with e1 e2 e3
    injection e1 with e1
    injection e1 with e1
    omega
theorem cell_fr {w w' : World} {S : List Nat} (hF : Fr S w w') {g o : Nat} (hg : g < w.heap.size) (hn : g ∉ S) : w'.cell? ⟨g, o, none⟩ = w.cell? ⟨g, o, none⟩ := by
  simp [World.cell?, hF.block g hg hn]
theorem Pk.fr {w w' : World} {S : List Nat} {g : Nat} {c i : Int} {d : List UInt8} (h : Pk w g c i d) (hF : Fr S w w') (hg : g < w.heap.size) (hn : g ∉ S) : Pk w' g c i d :=
  ⟨by rw [cell_fr hF hg hn]; exact h.1, by rw [cell_fr hF hg hn]; exact h.2.1, by rw [cell_fr hF hg hn]; exact h.2.2.1, by rw [cell_fr hF hg hn]; exact h.2.2.2⟩
section
variable {w : World} {g : Nat} {n : List UInt8} {r wt id : Int} {v : List UInt8} {ak ws : Bool} {t a : Int} {x y : Bool} {A : Option Addr} {sl sc : Nat}
theorem csv_c {T : Nat} (h : Blk w g (csv n r wt id v ak ws t a x y A sl sc) T) : w.cell? ⟨g, 0, none⟩ = some (.string (B n)) ∧ w.cell? ⟨g, 1, none⟩ = some (.int .i64 r) ∧ w.cell? ⟨g, 2, none⟩ = some (.int .i64 wt) ∧ w.cell? ⟨g, 3, none⟩ = some (.int .u8 id) ∧ w.cell? ⟨g, 4, none⟩ = some (.string (B v)) ∧ w.cell? ⟨g, 5, none⟩ = some (.bool ak) ∧ w.cell? ⟨g, 6, none⟩ = some (.bool ws) ∧ w.cell? ⟨g, 7, none⟩ = some (.int .i64 t) ∧ w.cell? ⟨g, 8, none⟩ = some (.int .i64 a) ∧ w.cell? ⟨g, 9, none⟩ = some (.bool x) ∧ w.cell? ⟨g, 10, none⟩ = some (.bool y) ∧ w.cell? ⟨g, 11, none⟩ = some (.slice A sl sc) :=
  ⟨h.c 0 _ rfl, h.c 1 _ rfl, h.c 2 _ rfl, h.c 3 _ rfl, h.c 4 _ rfl, h.c 5 _ rfl, h.c 6 _ rfl, h.c 7 _ rfl, h.c 8 _ rfl, h.c 9 _ rfl, h.c 10 _ rfl, h.c 11 _ rfl⟩
theorem snone_any (hB : Blk w g (csv n r wt id v ak ws t a x y A sl sc) 248) :
    Calls Tryz.prog 190 #[.pointer (some ⟨g, 0, none⟩)] w fun e w' => e = .returned (.bool (wt == 0)) ∧ w = w' := by
  obtain ⟨c0, c1, c2, c3, c4, c5, c6, c7, c8, c9, c10, c11⟩ := csv_c hB
  go_enter Tryz.func190, Tryz.ntmps190
  go_wp2
  go_ret
  exact ⟨rfl, rfl⟩
theorem snone_nil : Calls Tryz.prog 190 #[.pointer none] w fun e w' => e = .returned (.bool true) ∧ w = w' := by
  go_enter Tryz.func190, Tryz.ntmps190
  go_wp2
  go_ret
  exact ⟨rfl, rfl⟩
def SSay (w : World) (g : Nat) (n : List UInt8) (r wt id : Int) (v : List UInt8) (ak ws : Bool) (a : Int) (x y : Bool) (A : Option Addr) (sl sc : Nat) (e : Ending) (w' : World) : Prop :=
  ∃ g', e = .returned (.slice (some ⟨g', 0, none⟩) 1 1) ∧ w.heap.size ≤ g' ∧ g' < w'.heap.size ∧ PkB w' g' 1 1 id (pvL v n) ∧ Blk w' g (csv n r wt id v ak ws 0 a x y A sl sc) 248 ∧ Fr [g] w w'
set_option maxHeartbeats 1000000 in
theorem ssay_any (i0 : 0 ≤ id) (i1 : id < 256) (hv : pvE v n = 0) (hB : Blk w g (csv n r wt id v ak ws t a x y A sl sc) 248) :
    Calls Tryz.prog 191 #[.pointer (some ⟨g, 0, none⟩)] w (SSay w g n r wt id v ak ws a x y A sl sc) := by
  obtain ⟨c0, c1, c2, c3, c4, c5, c6, c7, c8, c9, c10, c11⟩ := csv_c hB
  have f7 := hB.fz 7
  have hB2 : Blk (w.setCell ⟨g, 7, none⟩ (.int .i64 0)) g (csv n r wt id v ak ws 0 a x y A sl sc) 248 := by have := hB.set 7 (.int .i64 0); simpa [csv] using this
  have hF2 : Fr [g] w (w.setCell ⟨g, 7, none⟩ (.int .i64 0)) := (Fr.refl _ _).setCell (by simp) _
  have P := Lib.hid fun W => putValue_ok v n W hv
  obtain ⟨W, hW⟩ : ∃ W, w.setCell ⟨g, 7, none⟩ (.int .i64 0) = W := ⟨_, rfl⟩
  rw [hW] at hB2 hF2
  have HW := Lib.hid hW
  clear hW hv
  go_enter Tryz.func191, Tryz.ntmps191
  go_wp2_with fail
  rw [HW.out]
  clear c0 c1 c2 c3 c4 c5 c6 c7 c8 c9 c10 c11 f7
  have hG : W.drew.cell? ⟨g, 4, none⟩ = some (.string (B v)) ∧ W.drew.cell? ⟨g, 0, none⟩ = some (.string (B n)) ∧ Blk W.drew g (csv n r wt id v ak ws 0 a x y A sl sc) 248 ∧ Fr [g] w W.drew := ⟨hB2.drew.c 4 _ rfl, hB2.drew.c 0 _ rfl, hB2.drew, hF2.drew⟩
  go_region_held3 (fun w' => w'.cell? ⟨g, 4, none⟩ = some (.string (B v)) ∧ w'.cell? ⟨g, 0, none⟩ = some (.string (B n)) ∧ Blk w' g (csv n r wt id v ak ws 0 a x y A sl sc) 248 ∧ Fr [g] w w')
    (first | exact hG | assumption | exact hK3)
    (first | (go_at_call 186; refine (P.out _).mono ?_; rintro e w3 ⟨rfl, hF3⟩; have hB3 := hF3.blk hG.2.2.1 (by simp); have hF4 := hG.2.2.2.trans (hF3.mono (S' := [g]) (by simp)); have hK3 := And.intro (hB3.c 4 _ rfl) (And.intro (hB3.c 0 _ rfl) (And.intro hB3 hF4))))
  all_goals
    have hS : w3.cell? ⟨g, 4, none⟩ = some (.string (B v)) ∧ w3.cell? ⟨g, 0, none⟩ = some (.string (B n)) ∧ Blk w3 g (csv n r wt id v ak ws 0 a x y A sl sc) 248 ∧ Fr [g] w w3 := by assumption
    obtain ⟨_, _, hB4, hF4⟩ := hS
    clear hG hB2 hF2 hB
    have c3 := (csv_c hB4).2.2.2.1
    have hl4 := hF4.size
    go_wp2
    go_ret
    exact ⟨w3.heap.size, rfl, hl4, by simp, PkB.of (Blk.new _ _ _), hB4.alloc _, hF4.alloc _⟩

theorem csv_one (n : List UInt8) (r wt id : Int) (v : List UInt8) (ak ws : Bool) (t a : Int) (x y : Bool) (A : Option Addr) (sl sc : Nat) : (csv n r wt id v ak ws t a x y A sl sc).all (·.oneCell') = true := by simp [csv, Value.oneCell']
/-- what of the block stays through Start's store -/
def StS (w : World) (g : Nat) (n : List UInt8) (r wt : Int) : Prop := w.cell? ⟨g, 0, none⟩ = some (.string (B n)) ∧ w.cell? ⟨g, 1, none⟩ = some (.int .i64 r) ∧ w.cell? ⟨g, 2, none⟩ = some (.int .i64 wt)
theorem StS.mk {T : Nat} (h : Blk w g (csv n r wt id v ak ws t a x y A sl sc) T) : w.cell? ⟨g, 0, none⟩ = some (.string (B n)) ∧ w.cell? ⟨g, 1, none⟩ = some (.int .i64 r) ∧ w.cell? ⟨g, 2, none⟩ = some (.int .i64 wt) := ⟨h.c 0 _ rfl, h.c 1 _ rfl, h.c 2 _ rfl⟩

set_option maxRecDepth 100000 in
set_option maxHeartbeats 4000000 in
theorem sstart_any (i0 : 0 ≤ id) (i1 : id < 256) (u : List UInt8) (hu : pvE u n = 0) (hw : (wt == 0) = false) (hB : Blk w g (csv n r wt id v ak ws t a x y A sl sc) 248) :
    Calls Tryz.prog 36 #[.pointer (some ⟨g, 0, none⟩), .string (B u)] w (SSay w g n r wt ((id + 1) % 256) u true false 0 false false none 0 0) := by
  have hN := snone_any hB
  rw [hw] at hN
  have HN := Lib.hid hN
  have h1 : ¬ (u = [] ∨ 60 < u.length) := fun hh => by unfold pvE at hu; rw [if_pos hh] at hu; exact absurd hu (by decide)
  have hue : u.isEmpty = false := by cases u with | nil => exact absurd (Or.inl rfl) h1 | cons _ _ => rfl
  have hu1 : ¬ (60 : Int) < u.length := fun e => h1 (Or.inr (by omega))
  have hu2 : u.length ≤ 60 := by omega
  have Hu := Lib.hid hu
  have KC := Lib.hid fun W => clone_any u W (by omega)
  clear hN h1 hu
  go_enter Tryz.func36, Tryz.ntmps36
  go_wp2_with fail
  refine HN.out.mono ?_
  rintro e w1 ⟨rfl, rfl⟩
  go_wp2_with fail
  have hB1 := hB.drew
  have hF1 : Fr [g] w w.drew := (Fr.refl _ _).drew
  have c03 : w.drew.cell? ⟨g, 3, none⟩ = some (.int .u8 id) := hB1.c 3 _ rfl
  have hG := StS.mk hB1
  refine wp_region_held_drew (S := (fun w' => w'.cell? ⟨g, 0, none⟩ = some (.string (B n)) ∧ w'.cell? ⟨g, 1, none⟩ = some (.int .i64 r) ∧ w'.cell? ⟨g, 2, none⟩ = some (.int .i64 wt))) (by kernel_rfl) ?_ (fun hS0 => ?_)
  · (try dsimp only); exact hG
  refine take_yes 0 16 rfl rfl (by kernel_rfl) (by kernel_rfl) (by kernel_rfl) (fun _ _ _ h => h) (by rfl) (by assumption) (v := ?_) ?_ ?_
  rotate_left
  · intro w hSw; (try dsimp only at hSw); go_simp; (try with_reducible rfl)
  try simp only [Act.put, List.setIfInBounds_toArray, List.set_cons_zero, List.set_cons_succ]
  refine take_yes 1 17 rfl rfl (by kernel_rfl) (by kernel_rfl) (by kernel_rfl) (fun _ _ _ h => h) (by rfl) (by assumption) (v := ?_) ?_ ?_
  rotate_left
  · intro w hSw; (try dsimp only at hSw); go_simp; (try with_reducible rfl)
  try simp only [Act.put, List.setIfInBounds_toArray, List.set_cons_zero, List.set_cons_succ]
  refine take_yes 2 18 rfl rfl (by kernel_rfl) (by kernel_rfl) (by kernel_rfl) (fun _ _ _ h => h) (by rfl) (by assumption) (v := ?_) ?_ ?_
  rotate_left
  · intro w hSw; (try dsimp only at hSw); go_simp; (try with_reducible rfl)
  try simp only [Act.put, List.setIfInBounds_toArray, List.set_cons_zero, List.set_cons_succ]
  refine take_yes 3 19 rfl rfl (by kernel_rfl) (by kernel_rfl) (by kernel_rfl) (fun _ _ _ h => h) (by rfl) (by assumption) (v := ?_) ?_ ?_
  rotate_left
  · intro w hSw; (try dsimp only at hSw); go_simp; (try with_reducible rfl)
  try simp only [Act.put, List.setIfInBounds_toArray, List.set_cons_zero, List.set_cons_succ]
  refine take_yes 4 20 rfl rfl (by kernel_rfl) (by kernel_rfl) (by kernel_rfl) (fun _ _ _ h => h) (by rfl) (by assumption) (v := ?_) ?_ ?_
  rotate_left
  · intro w hSw; (try dsimp only at hSw); go_simp; (try with_reducible rfl)
  try simp only [Act.put, List.setIfInBounds_toArray, List.set_cons_zero, List.set_cons_succ]
  refine take_yes 5 21 rfl rfl (by kernel_rfl) (by kernel_rfl) (by kernel_rfl) (fun _ _ _ h => h) (by rfl) (by assumption) (v := ?_) ?_ ?_
  rotate_left
  · intro w hSw; (try dsimp only at hSw); go_simp; (try with_reducible rfl)
  try simp only [Act.put, List.setIfInBounds_toArray, List.set_cons_zero, List.set_cons_succ]
  refine take_yes 6 22 rfl rfl (by kernel_rfl) (by kernel_rfl) (by kernel_rfl) (fun _ _ _ h => h) (by rfl) (by assumption) (v := ?_) ?_ ?_
  rotate_left
  · intro w hSw; (try dsimp only at hSw); go_simp; (try with_reducible rfl)
  try simp only [Act.put, List.setIfInBounds_toArray, List.set_cons_zero, List.set_cons_succ]
  refine take_yes 7 23 rfl rfl (by kernel_rfl) (by kernel_rfl) (by kernel_rfl) (fun _ _ _ h => h) (by rfl) (by assumption) (v := ?_) ?_ ?_
  rotate_left
  · intro w hSw; (try dsimp only at hSw); go_simp; (try with_reducible rfl)
  try simp only [Act.put, List.setIfInBounds_toArray, List.set_cons_zero, List.set_cons_succ]
  refine take_yes 8 24 rfl rfl (by kernel_rfl) (by kernel_rfl) (by kernel_rfl) (fun _ _ _ h => h) (by rfl) (by assumption) (v := ?_) ?_ ?_
  rotate_left
  · intro w hSw; (try dsimp only at hSw); go_simp; (try with_reducible rfl)
  try simp only [Act.put, List.setIfInBounds_toArray, List.set_cons_zero, List.set_cons_succ]
  refine take_yes 9 25 rfl rfl (by kernel_rfl) (by kernel_rfl) (by kernel_rfl) (fun _ _ _ h => h) (by rfl) (by assumption) (v := ?_) ?_ ?_
  rotate_left
  · intro w hSw; (try dsimp only at hSw); go_simp; (try with_reducible rfl)
  try simp only [Act.put, List.setIfInBounds_toArray, List.set_cons_zero, List.set_cons_succ]
  refine take_yes 10 26 rfl rfl (by kernel_rfl) (by kernel_rfl) (by kernel_rfl) (fun _ _ _ h => h) (by rfl) (by assumption) (v := ?_) ?_ ?_
  rotate_left
  · intro w hSw; (try dsimp only at hSw); go_simp; (try with_reducible rfl)
  try simp only [Act.put, List.setIfInBounds_toArray, List.set_cons_zero, List.set_cons_succ]
  refine take_yes 11 27 rfl rfl (by kernel_rfl) (by kernel_rfl) (by kernel_rfl) (fun _ _ _ h => h) (by rfl) (by assumption) (v := ?_) ?_ ?_
  rotate_left
  · intro w hSw; (try dsimp only at hSw); go_simp; (try with_reducible rfl)
  try simp only [Act.put, List.setIfInBounds_toArray, List.set_cons_zero, List.set_cons_succ]
  refine take_yes 12 28 rfl rfl (by kernel_rfl) (by kernel_rfl) (by kernel_rfl) (fun _ _ _ h => h) (by rfl) (by assumption) (v := ?_) ?_ ?_
  rotate_left
  · intro w hSw; (try dsimp only at hSw); go_simp; (try with_reducible rfl)
  try simp only [Act.put, List.setIfInBounds_toArray, List.set_cons_zero, List.set_cons_succ]
  refine take_yes 13 29 rfl rfl (by kernel_rfl) (by kernel_rfl) (by kernel_rfl) (fun _ _ _ h => h) (by rfl) (by assumption) (v := ?_) ?_ ?_
  rotate_left
  · intro w hSw; (try dsimp only at hSw); go_simp; (try with_reducible rfl)
  try simp only [Act.put, List.setIfInBounds_toArray, List.set_cons_zero, List.set_cons_succ]
  refine take_yes 14 30 rfl rfl (by kernel_rfl) (by kernel_rfl) (by kernel_rfl) (fun _ _ _ h => h) (by rfl) (by assumption) (v := ?_) ?_ ?_
  rotate_left
  · intro w hSw; (try dsimp only at hSw); go_simp; (try with_reducible rfl)
  try simp only [Act.put, List.setIfInBounds_toArray, List.set_cons_zero, List.set_cons_succ]
  refine take_yes 15 31 rfl rfl (by kernel_rfl) (by kernel_rfl) (by kernel_rfl) (fun _ _ _ h => h) (by rfl) (by assumption) (v := ?_) ?_ ?_
  rotate_left
  · intro w hSw; (try dsimp only at hSw); go_simp; (try with_reducible rfl)
  try simp only [Act.put, List.setIfInBounds_toArray, List.set_cons_zero, List.set_cons_succ]
  refine take_yes 18 34 rfl rfl (by kernel_rfl) (by kernel_rfl) (by kernel_rfl) (fun _ _ _ h => h) (by rfl) (by assumption) (v := ?_) ?_ ?_
  rotate_left
  · intro w hSw; (try dsimp only at hSw); go_simp; (try with_reducible rfl)
  try simp only [Act.put, List.setIfInBounds_toArray, List.set_cons_zero, List.set_cons_succ]
  refine wpAnyH_ready (rs := [16, 19]) (by kernel_rfl) (by simp) ?_
  refine AllReadyH.cons (o := _) rfl (fun K hK => ?_) (AllReadyH.cons (o := _) rfl (fun K hK => ?_) AllReadyH.nil)
  · go_simp
    refine hK.out _ _ ?_ (fun hHeld => ?_)
    · (try dsimp only); assumption
    clear hK K
    try simp only [Act.put, List.setIfInBounds_toArray, List.set_cons_zero, List.set_cons_succ]
    refine take_yes 17 33 rfl rfl (by kernel_rfl) (by kernel_rfl) (by kernel_rfl) (fun _ _ _ h => h) (by rfl) (by assumption) (v := ?_) ?_ ?_
    rotate_left
    · intro w hSw; (try dsimp only at hSw); go_simp; (try with_reducible rfl)
    try simp only [Act.put, List.setIfInBounds_toArray, List.set_cons_zero, List.set_cons_succ]
    refine wpAnyH_ready (rs := [19]) (by kernel_rfl) (by simp) ?_
    refine AllReadyH.cons (o := _) rfl (fun K hK => ?_) AllReadyH.nil
    go_simp
    (with_reducible refine (KC.out _).mono ?_)
    rintro e w3 ⟨rfl, hF3⟩
    have hB3 := hF3.blk hB1 (by simp)
    have hS3 := StS.mk hB3
    have c33 : w3.cell? ⟨g, 3, none⟩ = some (.int .u8 id) := hB3.c 3 _ rfl
    refine hK.out _ _ ?_ (fun hHeld => ?_)
    · (try dsimp only); exact hS3
    clear hK K
    try simp only [Act.put, List.setIfInBounds_toArray, List.set_cons_zero, List.set_cons_succ]
    refine take_yes 20 36 rfl rfl (by kernel_rfl) (by kernel_rfl) (by kernel_rfl) (fun _ _ _ h => h) (by rfl) (by assumption) (v := ?_) ?_ ?_
    rotate_left
    · intro w hSw; (try dsimp only at hSw); go_simp; (try with_reducible rfl)
    try simp only [Act.put, List.setIfInBounds_toArray, List.set_cons_zero, List.set_cons_succ]
    refine take_yes 21 37 rfl rfl (by kernel_rfl) (by kernel_rfl) (by kernel_rfl) (fun _ _ _ h => h) (by rfl) (by assumption) (v := ?_) ?_ ?_
    rotate_left
    · intro w hSw; (try dsimp only at hSw); go_simp; (try with_reducible rfl)
    try simp only [Act.put, List.setIfInBounds_toArray, List.set_cons_zero, List.set_cons_succ]
    refine wpAnyH_ready (rs := [22]) (by kernel_rfl) (by simp) ?_
    refine AllReadyH.cons (o := _) rfl (fun K hK => ?_) AllReadyH.nil
    rw [if_pos (by rfl)]
    refine wp_store_mid 248 (.tmp 37) (.tmp 36) rfl g 0 (csv n r wt ((id + 1) % 256) u true false 0 0 false false none 0 0) rfl rfl (hB3.there _ (by exact Nat.le_refl 12)) (by kernel_rfl) (csv_one _ _ _ _ _ _ _ _ _ _ _ _ _ _) ?_
    have hB5 := hB3.setCells (csv n r wt ((id + 1) % 256) u true false 0 0 false false none 0 0) rfl
    have hF5 : Fr [g] w (w3.setCells g 0 (csv n r wt ((id + 1) % 256) u true false 0 0 false false none 0 0).toList) := ((hF1.trans (hF3.mono (S' := [g]) (by simp)))).setCells _ _ _ (Or.inr (by simp))
    obtain ⟨w5, hw5⟩ : ∃ V, w3.setCells g 0 (csv n r wt ((id + 1) % 256) u true false 0 0 false false none 0 0).toList = V := ⟨_, rfl⟩
    rw [hw5] at hB5 hF5 ⊢
    refine hK.out _ _ ?_ (fun hHeld => ?_)
    · (try dsimp only); exact StS.mk hB5
    clear hK K
    try simp only [Act.put, List.setIfInBounds_toArray, List.set_cons_zero, List.set_cons_succ]
    refine wpAnyH_done (by kernel_rfl) ?_ _
    have HS := Lib.hid (ssay_any (by omega) (by omega) Hu.out hB5)
    clear hB3 hF3 hS3 c33 hB1 hF1 hw5 HN
    go_wp2_with fail
    refine HS.out.mono ?_
    rintro e w6 ⟨g6, rfl, hg6, hgl6, hP6, hB6, hF6⟩
    have hz := hF5.size
    clear HS hB5
    go_wp2
    go_ret
    exact ⟨g6, rfl, by omega, hgl6, hP6, hB6, hF5.trans hF6⟩
  · go_simp
    (with_reducible refine (KC.out _).mono ?_)
    rintro e w3 ⟨rfl, hF3⟩
    have hB3 := hF3.blk hB1 (by simp)
    have hS3 := StS.mk hB3
    have c33 : w3.cell? ⟨g, 3, none⟩ = some (.int .u8 id) := hB3.c 3 _ rfl
    refine hK.out _ _ ?_ (fun hHeld => ?_)
    · (try dsimp only); exact hS3
    clear hK K
    try simp only [Act.put, List.setIfInBounds_toArray, List.set_cons_zero, List.set_cons_succ]
    refine wpAnyH_ready (rs := [16]) (by kernel_rfl) (by simp) ?_
    refine AllReadyH.cons (o := _) rfl (fun K hK => ?_) AllReadyH.nil
    go_simp
    refine hK.out _ _ ?_ (fun hHeld => ?_)
    · (try dsimp only); assumption
    clear hK K
    try simp only [Act.put, List.setIfInBounds_toArray, List.set_cons_zero, List.set_cons_succ]
    refine take_yes 17 33 rfl rfl (by kernel_rfl) (by kernel_rfl) (by kernel_rfl) (fun _ _ _ h => h) (by rfl) (by assumption) (v := ?_) ?_ ?_
    rotate_left
    · intro w hSw; (try dsimp only at hSw); go_simp; (try with_reducible rfl)
    try simp only [Act.put, List.setIfInBounds_toArray, List.set_cons_zero, List.set_cons_succ]
    refine take_yes 20 36 rfl rfl (by kernel_rfl) (by kernel_rfl) (by kernel_rfl) (fun _ _ _ h => h) (by rfl) (by assumption) (v := ?_) ?_ ?_
    rotate_left
    · intro w hSw; (try dsimp only at hSw); go_simp; (try with_reducible rfl)
    try simp only [Act.put, List.setIfInBounds_toArray, List.set_cons_zero, List.set_cons_succ]
    refine take_yes 21 37 rfl rfl (by kernel_rfl) (by kernel_rfl) (by kernel_rfl) (fun _ _ _ h => h) (by rfl) (by assumption) (v := ?_) ?_ ?_
    rotate_left
    · intro w hSw; (try dsimp only at hSw); go_simp; (try with_reducible rfl)
    try simp only [Act.put, List.setIfInBounds_toArray, List.set_cons_zero, List.set_cons_succ]
    refine wpAnyH_ready (rs := [22]) (by kernel_rfl) (by simp) ?_
    refine AllReadyH.cons (o := _) rfl (fun K hK => ?_) AllReadyH.nil
    rw [if_pos (by rfl)]
    refine wp_store_mid 248 (.tmp 37) (.tmp 36) rfl g 0 (csv n r wt ((id + 1) % 256) u true false 0 0 false false none 0 0) rfl rfl (hB3.there _ (by exact Nat.le_refl 12)) (by kernel_rfl) (csv_one _ _ _ _ _ _ _ _ _ _ _ _ _ _) ?_
    have hB5 := hB3.setCells (csv n r wt ((id + 1) % 256) u true false 0 0 false false none 0 0) rfl
    have hF5 : Fr [g] w (w3.setCells g 0 (csv n r wt ((id + 1) % 256) u true false 0 0 false false none 0 0).toList) := ((hF1.trans (hF3.mono (S' := [g]) (by simp)))).setCells _ _ _ (Or.inr (by simp))
    obtain ⟨w5, hw5⟩ : ∃ V, w3.setCells g 0 (csv n r wt ((id + 1) % 256) u true false 0 0 false false none 0 0).toList = V := ⟨_, rfl⟩
    rw [hw5] at hB5 hF5 ⊢
    refine hK.out _ _ ?_ (fun hHeld => ?_)
    · (try dsimp only); exact StS.mk hB5
    clear hK K
    try simp only [Act.put, List.setIfInBounds_toArray, List.set_cons_zero, List.set_cons_succ]
    refine wpAnyH_done (by kernel_rfl) ?_ _
    have HS := Lib.hid (ssay_any (by omega) (by omega) Hu.out hB5)
    clear hB3 hF3 hS3 c33 hB1 hF1 hw5 HN
    go_wp2_with fail
    refine HS.out.mono ?_
    rintro e w6 ⟨g6, rfl, hg6, hgl6, hP6, hB6, hF6⟩
    have hz := hF5.size
    clear HS hB5
    go_wp2
    go_ret
    exact ⟨g6, rfl, by omega, hgl6, hP6, hB6, hF5.trans hF6⟩
end
end Go.Proofs.YtfchbppfbepelaaGreat
