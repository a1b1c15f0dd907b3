/- the document's store: Set where a name goes, and where one comes (printed by tools/gen_dsto4.py). -/
import Derived.Test.YtpljdnocdhppmaaDSto4
namespace Go.Proofs.Ytpljdnocdhppmaa
open Go.RowKit Go.Maps
set_option linter.unusedVariables false
theorem infoKn : (Try.prog.info? 98).map (fun i => (i.zero, i.size, i.bytes)) = some (some (.agg #[.string ⟨#[]⟩, .string ⟨#[]⟩, .string ⟨#[]⟩, .int .i64 0, .int .i64 0]), 5, 64) := by kernel_rfl
theorem reads_take {w : World} {B size n : Nat} {A : Option Addr} {xs : List Value} (h : Reads w B size A n xs) {k : Nat} (hk : k ≤ n) : Reads w B size A k (xs.take (k * size)) := by
  refine ⟨by rw [List.length_take, h.1, Nat.min_eq_left (Nat.mul_le_mul_right _ hk)], fun hn => ?_⟩
  obtain ⟨ad, rfl, hb, hc⟩ := h.2 (by omega)
  refine ⟨ad, rfl, hb, fun j u hu => hc j u ?_⟩
  rw [List.getElem?_take] at hu
  split at hu
  · exact hu
  · cases hu
theorem rowF_take {α : Type} {f : α → List Value} {N : Nat} (hN : ∀ x, (f x).length = N) (l : List α) (k : Nat) (hk : k ≤ l.length) : (rowF f l).take (k * N) = rowF f (l.take k) := by
  have h1 : (rowF f (l.take k)).length = k * N := by rw [rowF_len hN, List.length_take, Nat.min_eq_left hk]
  conv => lhs; rw [← List.take_append_drop k l, rowF_append]
  rw [← h1, List.take_left']
  rfl
theorem rowF_drop {α : Type} {f : α → List Value} {N : Nat} (hN : ∀ x, (f x).length = N) (l : List α) (k : Nat) (hk : k ≤ l.length) : (rowF f l).drop (k * N) = rowF f (l.drop k) := by
  have h1 : (rowF f (l.take k)).length = k * N := by rw [rowF_len hN, List.length_take, Nat.min_eq_left hk]
  conv => lhs; rw [← List.take_append_drop k l, rowF_append]
  rw [← h1, List.drop_left']
  rfl
def DelP (w : World) (g : Nat) (lim calm : Int) (D : List DK) (i : Nat) (e : Ending) (w' : World) : Prop := e = .returned (.int .i64 0) ∧ ∃ r', DSt w' g lim calm r' (D.eraseIdx i) ∧ (∀ k, r'.ownBlock = some k → w.heap.size ≤ k) ∧ Fr [g] w w'
def NewD (w : World) (g : Nat) (lim calm : Int) (r : Value) (D : List DK) (n1 n2 s : List UInt8) (e : Ending) (w' : World) : Prop := e = .returned (.int .i64 0) ∧ ∃ r', DSt w' g lim calm r' (D ++ [((n1, n2), ⟨s, 0, 0⟩)]) ∧ (∀ k, r'.ownBlock = some k → r.ownBlock = some k ∨ w.heap.size ≤ k) ∧ Fr (g :: r.ownBlock.toList) w w'
section
variable {w : World} {g : Nat} {lim calm : Int} {r : Value} {D : List DK}
set_option maxRecDepth 100000 in
set_option maxHeartbeats 8000000 in
theorem dsset_del (f : List UInt8) (i : Nat) (k : Kn) (hf : f.length ≤ 60) (hn : dfind D (spN f, spR f) = some i) (hi : D[i]? = some ((spN f, spR f), k)) (hl : D.length ≤ 1000) (h : DSt w g lim calm r D) :
    Calls Try.prog 39 #[.pointer (some ⟨g, 0, none⟩), .string (B f), .string (B [])] w (DelP w g lim calm D i) := by
  obtain ⟨i0, hi0, hz0, hz1, hz2⟩ := info_parts infoKn
  have FD := Lib.hid (dsfind_any f (by omega) hl h)
  rw [hn, show fval (some i) = (i : Int) from rfl] at FD
  obtain ⟨A, cap, rfl⟩ := rown_slice h.row
  obtain ⟨q, rfl, hq, hcell⟩ := RAt.of_own dkL_len h.row i _ hi
  have hil : i < D.length := (List.getElem?_eq_some_iff.1 hi).1
  have hcp := rown_caps h.row
  have hiI : (i : Int) < D.length := by omega
  have hin : ¬ (i : Int) < 0 := by omega
  have hip : (0 : Int) ≤ i := by omega
  have HH := Lib.hid h
  have G2 : Hid (∀ W, Fr [] w W → W.cell? ⟨g, 2, none⟩ = some (.slice (some ⟨q, 0, none⟩) D.length cap)) := Lib.hid fun W hW => (hW.blk h.st (by simp)).c 2 _ rfl
  have h1 : ¬ (60 : Int) < f.length := by omega
  have HL := Lib.hid hl
  have HGL0 := Lib.hid h.st.lt
  have HQL0 := Lib.hid hq
  clear h hn hi hcell hf hq hl
  go_enter Try.func39, Try.ntmps39
  go_wp2_with fail
  refine FD.out.mono ?_
  rintro e w1 ⟨rfl, hF1⟩
  have x0 := G2.out _ hF1
  have HF1 := Lib.hid hF1
  have HGL : Hid (g < w1.heap.size) := Lib.hid (Nat.lt_of_lt_of_le HGL0.out hF1.size)
  have HQL : Hid (q < w1.heap.size) := Lib.hid (Nat.lt_of_lt_of_le HQL0.out hF1.size)
  have hD : DSt w1.drew g lim calm (.slice (some ⟨q, 0, none⟩) D.length cap) D := (HH.out.fr0 hF1).fr0 (Fr.refl [] w1).drew
  have hFd : Fr [g] w1 w1.drew := (Fr.refl [g] w1).drew
  have HDEL : Hid (∀ W A2 c2, Blk W g #[.int .i64 lim, .int .i64 calm, .slice A2 (i + (D.length - (i + 1))) c2] 74 → W.ownsRow 0 98 5 (.slice A2 (i + (D.length - (i + 1))) c2) (i + (D.length - (i + 1))) ((rowF dkL D).take (i * 5) ++ (rowF dkL D).drop ((i + 1) * 5)) → (∀ k, (Value.slice A2 (i + (D.length - (i + 1))) c2).ownBlock = some k → w1.heap.size ≤ k) → Fr [g] w1 W → DelP w g lim calm D i (.returned (.int .i64 0)) W) := Lib.hid fun W A2 c2 h1 h2 h3 h4 => by
    have e1 : (D.eraseIdx i).length = i + (D.length - (i + 1)) := by rw [List.length_eraseIdx, if_pos hil]; omega
    have e2 : (rowF dkL D).take (i * 5) ++ (rowF dkL D).drop ((i + 1) * 5) = rowF dkL (D.eraseIdx i) := by
      rw [rowF_take dkL_len D i (by omega), rowF_drop dkL_len D (i + 1) (by omega), ← rowF_append, List.eraseIdx_eq_take_drop_succ]
    refine ⟨rfl, _, ⟨h1, ?_⟩, fun k hk => Nat.le_trans HF1.out.size (h3 k hk), (HF1.out.mono (by simp)).trans h4⟩
    rw [e1, ← e2]
    exact h2
  obtain ⟨m, hm⟩ : ∃ m : Nat, i + 1 = m := ⟨_, rfl⟩
  rw [hm] at HDEL
  have hci : ¬ cap < i := by omega
  have hmi : IntKind.i64.wrap ((i : Int) + 1) = (m : Int) := by have := HL.out; rw [IntKind.wrap_i64]; omega
  have hm0 : (0 : Int) ≤ m := by omega
  have hm1 : (m : Int) ≤ D.length := by omega
  have hmD : m ≤ D.length := by omega
  have hmp : 0 < m := by omega
  have HM := Lib.hid hm
  clear hm
  obtain ⟨AX, hAX⟩ : ∃ x, (if cap = m then some (⟨q, 0, none⟩ : Addr) else some ⟨q, m * 5, none⟩) = x := ⟨_, rfl⟩
  clear hF1 FD G2
  go_wp2_with fail
  clear x0
  refine wp_region_held_drew (S := (fun W => Fr [g] w1 W)) (by kernel_rfl) ?_ (fun hHeld => ?_)
  · (try dsimp only); exact hFd
  obtain ⟨v0, hv⟩ : ∃ X, w1.drew = X := ⟨_, rfl⟩
  rw [hv] at hHeld hD ⊢
  clear hv hFd
  refine take_yes 0 49 rfl rfl (by kernel_rfl) (by kernel_rfl) (by kernel_rfl) (fun _ _ _ h => h) (by rfl) (by assumption) (v := ?_) ?_ ?_
  rotate_left
  · intro w hSw; (try dsimp only at hSw); go_simp; (try with_reducible rfl)
  try simp only [Act.put, List.setIfInBounds_toArray, List.set_cons_zero, List.set_cons_succ]
  refine take_yes 1 50 rfl rfl (by kernel_rfl) (by kernel_rfl) (by kernel_rfl) (fun _ _ _ h => h) (by rfl) (by assumption) (v := ?_) ?_ ?_
  rotate_left
  · intro w hSw; (try dsimp only at hSw); go_simp; (try with_reducible rfl)
  try simp only [Act.put, List.setIfInBounds_toArray, List.set_cons_zero, List.set_cons_succ]
  refine take_yes 2 51 rfl rfl (by kernel_rfl) (by kernel_rfl) (by kernel_rfl) (fun _ _ _ h => h) (by rfl) (by assumption) (v := ?_) ?_ ?_
  rotate_left
  · intro w hSw; (try dsimp only at hSw); go_simp; (try with_reducible rfl)
  try simp only [Act.put, List.setIfInBounds_toArray, List.set_cons_zero, List.set_cons_succ]
  refine take_yes 3 52 rfl rfl (by kernel_rfl) (by kernel_rfl) (by kernel_rfl) (fun _ _ _ h => h) (by rfl) (by assumption) (v := ?_) ?_ ?_
  rotate_left
  · intro w hSw; (try dsimp only at hSw); go_simp; (try with_reducible rfl)
  try simp only [Act.put, List.setIfInBounds_toArray, List.set_cons_zero, List.set_cons_succ]
  refine take_yes 5 54 rfl rfl (by kernel_rfl) (by kernel_rfl) (by kernel_rfl) (fun _ _ _ h => h) (by rfl) (by assumption) (v := ?_) ?_ ?_
  rotate_left
  · intro w hSw; (try dsimp only at hSw); go_simp; (try with_reducible rfl)
  try simp only [Act.put, List.setIfInBounds_toArray, List.set_cons_zero, List.set_cons_succ]
  refine take_yes 8 57 rfl rfl (by kernel_rfl) (by kernel_rfl) (by kernel_rfl) (fun _ _ _ h => h) (by rfl) (by assumption) (v := ?_) ?_ ?_
  rotate_left
  · intro w hSw; (try dsimp only at hSw); go_simp; (try with_reducible rfl)
  try simp only [Act.put, List.setIfInBounds_toArray, List.set_cons_zero, List.set_cons_succ]
  refine take_yes 9 58 rfl rfl (by kernel_rfl) (by kernel_rfl) (by kernel_rfl) (fun _ _ _ h => h) (by rfl) (by assumption) (v := ?_) ?_ ?_
  rotate_left
  · intro w hSw; (try dsimp only at hSw); go_simp; (try with_reducible rfl)
  try simp only [Act.put, List.setIfInBounds_toArray, List.set_cons_zero, List.set_cons_succ]
  refine take_yes 10 59 rfl rfl (by kernel_rfl) (by kernel_rfl) (by kernel_rfl) (fun _ _ _ h => h) (by rfl) (by assumption) (v := ?_) ?_ ?_
  rotate_left
  · intro w hSw; (try dsimp only at hSw); go_simp; (try with_reducible rfl)
  try simp only [Act.put, List.setIfInBounds_toArray, List.set_cons_zero, List.set_cons_succ]
  refine take_yes 12 61 rfl rfl (by kernel_rfl) (by kernel_rfl) (by kernel_rfl) (fun _ _ _ h => h) (by rfl) (by assumption) (v := ?_) ?_ ?_
  rotate_left
  · intro w hSw; (try dsimp only at hSw); go_simp; (try with_reducible rfl)
  try simp only [Act.put, List.setIfInBounds_toArray, List.set_cons_zero, List.set_cons_succ]
  refine take_yes 13 62 rfl rfl (by kernel_rfl) (by kernel_rfl) (by kernel_rfl) (fun _ _ _ h => h) (by rfl) (by assumption) (v := ?_) ?_ ?_
  rotate_left
  · intro w hSw; (try dsimp only at hSw); go_simp; (try with_reducible rfl)
  try simp only [Act.put, List.setIfInBounds_toArray, List.set_cons_zero, List.set_cons_succ]
  refine wpAnyH_ready (rs := [4, 11]) (by kernel_rfl) (by simp) ?_
  refine AllReadyH.cons (o := _) rfl (fun K hK => ?_) ?_
  · have c2 : v0.cell? ⟨g, 2, none⟩ = some (.slice (some ⟨q, 0, none⟩) D.length cap) := hD.st.c 2 _ rfl
    go_simp
    (try go_wp2_with fail)
    refine hK.out _ _ ?_ (fun hHeld1 => ?_)
    · (try dsimp only); exact hHeld
    clear hK K c2 hHeld1
    try simp only [Act.put, List.setIfInBounds_toArray, List.set_cons_zero, List.set_cons_succ]
    refine take_yes 6 55 rfl rfl (by kernel_rfl) (by kernel_rfl) (by kernel_rfl) (fun _ _ _ h => h) (by rfl) (by assumption) (v := .slice (some ⟨q, 0, none⟩) i cap) ?_ ?_
    · intro w hSw; (try dsimp only at hSw); go_simp
    try simp only [Act.put, List.setIfInBounds_toArray, List.set_cons_zero, List.set_cons_succ]
    refine wpAnyH_ready (rs := [7, 11]) (by kernel_rfl) (by simp) ?_
    refine AllReadyH.cons (o := _) rfl (fun K hK => ?_) ?_
    · rw [if_pos (by rfl)]
      (try simp only [List.getElem_toArray, List.getElem_cons_succ, List.getElem_cons_zero])
      have hrd := reads_take (Reads.of_own hD.row) (k := i) (by omega)
      refine wp_app _ 56 rfl (.const (.slice none 0 0)) (.tmp 55) 72 rfl 0 98 i0 (.agg #[.string ⟨#[]⟩, .string ⟨#[]⟩, .string ⟨#[]⟩, .int .i64 0, .int .i64 0]) 5 64 Try.underlying72 hi0 hz0 hz1 hz2 rfl (by decide) _ 0 _ (by rfl) (World.ownsRow_nil _ 0 _ _) _ _ _ _ _ (by rfl) hrd (fun u hu => rowF_one' dkL_one D u (List.mem_of_mem_take hu)) ?_ ?_ (Nat.zero_le _) ?_
      · have := HL.out; unfold maxLen; omega
      · have := HL.out; omega
      intro va v1 hownA hgrA hrowA
      rw [Nat.zero_add, List.nil_append] at hownA
      have hFg := Fr.of_row hgrA
      have hD2 : DSt v1 g lim calm (.slice (some ⟨q, 0, none⟩) D.length cap) D := hD.frS hFg (by simp [Value.ownBlock]) (fun k hk => by simp [Value.ownBlock])
      have hHeld2 : Fr [g] w1 v1 := hHeld.grown hgrA (fun k hk => by cases hk)
      have hfa : ∀ k, va.ownBlock = some k → w1.heap.size ≤ k := fun k hk => by
        rcases hrowA with h | h
        · rw [h] at hk; cases hk
        · rw [h] at hk; cases hk; exact hHeld.size
      have hqA : ∀ k, (Value.slice (some ⟨q, 0, none⟩) D.length cap).ownBlock = some k → va.ownBlock ≠ some k := fun k hk e => by
        have h1 := hfa k e
        have h2 := HQL.out
        have h3 : q = k := by simpa [Value.ownBlock] using hk
        subst h3
        omega
      have hgA : va.ownBlock ≠ some g := fun e => by
        have h1 := hfa g e
        have h2 := HGL.out
        omega
      clear hFg hgrA hrowA hrd
      refine hK.out _ _ ?_ (fun hHeld3 => ?_)
      · (try dsimp only); exact hHeld2
      clear hK K hHeld hD
      have hHeld := hHeld2
      have hD := hD2
      clear hHeld2 hHeld3 hD2
      try simp only [Act.put, List.setIfInBounds_toArray, List.set_cons_zero, List.set_cons_succ]
      refine wpAnyH_ready (rs := [11]) (by kernel_rfl) (by simp) ?_
      refine AllReadyH.cons (o := _) rfl (fun K hK => ?_) AllReadyH.nil
      have c2 : v1.cell? ⟨g, 2, none⟩ = some (.slice (some ⟨q, 0, none⟩) D.length cap) := hD.st.c 2 _ rfl
      go_simp
      (try go_wp2_with fail)
      refine hK.out _ _ ?_ (fun hHeld1 => ?_)
      · (try dsimp only); exact hHeld
      clear hK K c2 hHeld1
      try simp only [Act.put, List.setIfInBounds_toArray, List.set_cons_zero, List.set_cons_succ]
      refine take_yes 14 63 rfl rfl (by kernel_rfl) (by kernel_rfl) (by kernel_rfl) (fun _ _ _ h => h) (by rfl) (by assumption) (v := .slice AX (D.length - m) (cap - m)) ?_ ?_
      · intro w hSw; (try dsimp only at hSw); go_simp
      try simp only [Act.put, List.setIfInBounds_toArray, List.set_cons_zero, List.set_cons_succ]
      refine wpAnyH_ready (rs := [15]) (by kernel_rfl) (by simp) ?_
      refine AllReadyH.cons (o := _) rfl (fun K hK => ?_) AllReadyH.nil
      rw [if_pos (by rfl)]
      (try simp only [List.getElem_toArray, List.getElem_cons_succ, List.getElem_cons_zero])
      have hrd : Reads v1 v1.heap.size 5 AX (D.length - m) ((rowF dkL D).drop (m * 5)) := by
        rw [← hAX]
        have := (Reads.of_own hD.row).cut (k := m) (cap := cap) (by omega) hcp.1
        have hm5 : ¬ m * 5 = 0 := by omega
        simpa [Addr.add, hm5] using this
      clear hAX
      refine wp_app _ 64 rfl (.tmp 56) (.tmp 63) 72 rfl 0 98 i0 (.agg #[.string ⟨#[]⟩, .string ⟨#[]⟩, .string ⟨#[]⟩, .int .i64 0, .int .i64 0]) 5 64 Try.underlying72 hi0 hz0 hz1 hz2 rfl (by decide) _ i _ (by rfl) hownA _ _ _ _ _ (by rfl) hrd (fun u hu => rowF_one' dkL_one D u (List.mem_of_mem_drop hu)) ?_ ?_ (Nat.zero_le _) ?_
      · have := HL.out; unfold maxLen; omega
      · have := HL.out; omega
      intro vb v2 hownB hgrB hrowB
      have hFg := Fr.of_row hgrB
      have hD2 : DSt v2 g lim calm (.slice (some ⟨q, 0, none⟩) D.length cap) D := hD.frS hFg (by simpa using hgA) (fun k hk => by simpa using hqA k hk)
      have hHeld2 : Fr [g] w1 v2 := hHeld.grown hgrB (fun k hk => hfa k hk)
      have hfr : ∀ k, vb.ownBlock = some k → w1.heap.size ≤ k := fun k hk => by
        rcases hrowB with h | h
        · exact hfa k (h ▸ hk)
        · rw [h] at hk; cases hk; exact hHeld.size
      obtain ⟨A2, c2, rfl⟩ := rown_slice hownB
      clear hFg hgrB hrowB hownA hgA hqA hfa hrd
      refine hK.out _ _ ?_ (fun hHeld3 => ?_)
      · (try dsimp only); exact hHeld2
      clear hK K hHeld hD
      have hHeld := hHeld2
      have hD := hD2
      clear hHeld2 hHeld3 hD2
      try simp only [Act.put, List.setIfInBounds_toArray, List.set_cons_zero, List.set_cons_succ]
      refine take_yes 16 65 rfl rfl (by kernel_rfl) (by kernel_rfl) (by kernel_rfl) (fun _ _ _ h => h) (by rfl) (by assumption) (v := ?_) ?_ ?_
      rotate_left
      · intro w hSw; (try dsimp only at hSw); go_simp; (try with_reducible rfl)
      try simp only [Act.put, List.setIfInBounds_toArray, List.set_cons_zero, List.set_cons_succ]
      refine take_yes 17 66 rfl rfl (by kernel_rfl) (by kernel_rfl) (by kernel_rfl) (fun _ _ _ h => h) (by rfl) (by assumption) (v := ?_) ?_ ?_
      rotate_left
      · intro w hSw; (try dsimp only at hSw); go_simp; (try with_reducible rfl)
      try simp only [Act.put, List.setIfInBounds_toArray, List.set_cons_zero, List.set_cons_succ]
      have f2 := hD.st.fz 2
      have c2y : v2.cell? ⟨g, 2, none⟩ = some (.slice (some ⟨q, 0, none⟩) D.length cap) := hD.st.c 2 _ rfl
      refine wpAnyH_ready (rs := [18]) (by kernel_rfl) (by simp) ?_
      refine AllReadyH.cons (o := _) rfl (fun K hK => ?_) AllReadyH.nil
      go_simp
      (try go_wp2_with fail)
      have hSt : Blk (v2.setCell ⟨g, 2, none⟩ (.slice A2 (i + (D.length - m)) c2)) g #[.int .i64 lim, .int .i64 calm, .slice A2 (i + (D.length - m)) c2] 74 := by
        have := hD.st.set 2 (.slice A2 (i + (D.length - m)) c2)
        simpa using this
      have hFs : Fr [g] v2 (v2.setCell ⟨g, 2, none⟩ (.slice A2 (i + (D.length - m)) c2)) := (Fr.refl [g] v2).setCell (p := ⟨g, 2, none⟩) (by simp) (.slice A2 (i + (D.length - m)) c2)
      have hFZ := hHeld.trans hFs
      have hgB : ∀ k, (Value.slice A2 (i + (D.length - m)) c2).ownBlock = some k → k ≠ g := fun k hk e => by
        obtain ⟨cur, hc⟩ := rown_blk hownB k hk
        subst e
        exact hc.neT hD.st (by decide) rfl
      have HZ : Hid (DelP w g lim calm D i (.returned (.int .i64 0)) (v2.setCell ⟨g, 2, none⟩ (.slice A2 (i + (D.length - m)) c2))) := Lib.hid (HDEL.out _ _ _ hSt (rown_frS hownB hFs (fun k hk => by simpa using hgB k hk)) hfr hFZ)
      refine hK.out _ _ ?_ (fun hHeld1 => ?_)
      · (try dsimp only); exact hFZ
      clear hK K
      try simp only [Act.put, List.setIfInBounds_toArray, List.set_cons_zero, List.set_cons_succ]
      refine wpAnyH_done (by kernel_rfl) ?_ _
      clear hD hownB hSt hFs hFZ hHeld hHeld1 hgB f2 c2y hfr
      go_wp2_with fail
      go_ret
      exact HZ.out
    refine AllReadyH.cons (o := _) rfl (fun K hK => ?_) AllReadyH.nil
    have c2 : v0.cell? ⟨g, 2, none⟩ = some (.slice (some ⟨q, 0, none⟩) D.length cap) := hD.st.c 2 _ rfl
    go_simp
    (try go_wp2_with fail)
    refine hK.out _ _ ?_ (fun hHeld1 => ?_)
    · (try dsimp only); exact hHeld
    clear hK K c2 hHeld1
    try simp only [Act.put, List.setIfInBounds_toArray, List.set_cons_zero, List.set_cons_succ]
    refine take_yes 14 63 rfl rfl (by kernel_rfl) (by kernel_rfl) (by kernel_rfl) (fun _ _ _ h => h) (by rfl) (by assumption) (v := .slice AX (D.length - m) (cap - m)) ?_ ?_
    · intro w hSw; (try dsimp only at hSw); go_simp
    try simp only [Act.put, List.setIfInBounds_toArray, List.set_cons_zero, List.set_cons_succ]
    refine wpAnyH_ready (rs := [7]) (by kernel_rfl) (by simp) ?_
    refine AllReadyH.cons (o := _) rfl (fun K hK => ?_) AllReadyH.nil
    rw [if_pos (by rfl)]
    (try simp only [List.getElem_toArray, List.getElem_cons_succ, List.getElem_cons_zero])
    have hrd := reads_take (Reads.of_own hD.row) (k := i) (by omega)
    refine wp_app _ 56 rfl (.const (.slice none 0 0)) (.tmp 55) 72 rfl 0 98 i0 (.agg #[.string ⟨#[]⟩, .string ⟨#[]⟩, .string ⟨#[]⟩, .int .i64 0, .int .i64 0]) 5 64 Try.underlying72 hi0 hz0 hz1 hz2 rfl (by decide) _ 0 _ (by rfl) (World.ownsRow_nil _ 0 _ _) _ _ _ _ _ (by rfl) hrd (fun u hu => rowF_one' dkL_one D u (List.mem_of_mem_take hu)) ?_ ?_ (Nat.zero_le _) ?_
    · have := HL.out; unfold maxLen; omega
    · have := HL.out; omega
    intro va v1 hownA hgrA hrowA
    rw [Nat.zero_add, List.nil_append] at hownA
    have hFg := Fr.of_row hgrA
    have hD2 : DSt v1 g lim calm (.slice (some ⟨q, 0, none⟩) D.length cap) D := hD.frS hFg (by simp [Value.ownBlock]) (fun k hk => by simp [Value.ownBlock])
    have hHeld2 : Fr [g] w1 v1 := hHeld.grown hgrA (fun k hk => by cases hk)
    have hfa : ∀ k, va.ownBlock = some k → w1.heap.size ≤ k := fun k hk => by
      rcases hrowA with h | h
      · rw [h] at hk; cases hk
      · rw [h] at hk; cases hk; exact hHeld.size
    have hqA : ∀ k, (Value.slice (some ⟨q, 0, none⟩) D.length cap).ownBlock = some k → va.ownBlock ≠ some k := fun k hk e => by
      have h1 := hfa k e
      have h2 := HQL.out
      have h3 : q = k := by simpa [Value.ownBlock] using hk
      subst h3
      omega
    have hgA : va.ownBlock ≠ some g := fun e => by
      have h1 := hfa g e
      have h2 := HGL.out
      omega
    clear hFg hgrA hrowA hrd
    refine hK.out _ _ ?_ (fun hHeld3 => ?_)
    · (try dsimp only); exact hHeld2
    clear hK K hHeld hD
    have hHeld := hHeld2
    have hD := hD2
    clear hHeld2 hHeld3 hD2
    try simp only [Act.put, List.setIfInBounds_toArray, List.set_cons_zero, List.set_cons_succ]
    refine wpAnyH_ready (rs := [15]) (by kernel_rfl) (by simp) ?_
    refine AllReadyH.cons (o := _) rfl (fun K hK => ?_) AllReadyH.nil
    rw [if_pos (by rfl)]
    (try simp only [List.getElem_toArray, List.getElem_cons_succ, List.getElem_cons_zero])
    have hrd : Reads v1 v1.heap.size 5 AX (D.length - m) ((rowF dkL D).drop (m * 5)) := by
      rw [← hAX]
      have := (Reads.of_own hD.row).cut (k := m) (cap := cap) (by omega) hcp.1
      have hm5 : ¬ m * 5 = 0 := by omega
      simpa [Addr.add, hm5] using this
    clear hAX
    refine wp_app _ 64 rfl (.tmp 56) (.tmp 63) 72 rfl 0 98 i0 (.agg #[.string ⟨#[]⟩, .string ⟨#[]⟩, .string ⟨#[]⟩, .int .i64 0, .int .i64 0]) 5 64 Try.underlying72 hi0 hz0 hz1 hz2 rfl (by decide) _ i _ (by rfl) hownA _ _ _ _ _ (by rfl) hrd (fun u hu => rowF_one' dkL_one D u (List.mem_of_mem_drop hu)) ?_ ?_ (Nat.zero_le _) ?_
    · have := HL.out; unfold maxLen; omega
    · have := HL.out; omega
    intro vb v2 hownB hgrB hrowB
    have hFg := Fr.of_row hgrB
    have hD2 : DSt v2 g lim calm (.slice (some ⟨q, 0, none⟩) D.length cap) D := hD.frS hFg (by simpa using hgA) (fun k hk => by simpa using hqA k hk)
    have hHeld2 : Fr [g] w1 v2 := hHeld.grown hgrB (fun k hk => hfa k hk)
    have hfr : ∀ k, vb.ownBlock = some k → w1.heap.size ≤ k := fun k hk => by
      rcases hrowB with h | h
      · exact hfa k (h ▸ hk)
      · rw [h] at hk; cases hk; exact hHeld.size
    obtain ⟨A2, c2, rfl⟩ := rown_slice hownB
    clear hFg hgrB hrowB hownA hgA hqA hfa hrd
    refine hK.out _ _ ?_ (fun hHeld3 => ?_)
    · (try dsimp only); exact hHeld2
    clear hK K hHeld hD
    have hHeld := hHeld2
    have hD := hD2
    clear hHeld2 hHeld3 hD2
    try simp only [Act.put, List.setIfInBounds_toArray, List.set_cons_zero, List.set_cons_succ]
    refine take_yes 16 65 rfl rfl (by kernel_rfl) (by kernel_rfl) (by kernel_rfl) (fun _ _ _ h => h) (by rfl) (by assumption) (v := ?_) ?_ ?_
    rotate_left
    · intro w hSw; (try dsimp only at hSw); go_simp; (try with_reducible rfl)
    try simp only [Act.put, List.setIfInBounds_toArray, List.set_cons_zero, List.set_cons_succ]
    refine take_yes 17 66 rfl rfl (by kernel_rfl) (by kernel_rfl) (by kernel_rfl) (fun _ _ _ h => h) (by rfl) (by assumption) (v := ?_) ?_ ?_
    rotate_left
    · intro w hSw; (try dsimp only at hSw); go_simp; (try with_reducible rfl)
    try simp only [Act.put, List.setIfInBounds_toArray, List.set_cons_zero, List.set_cons_succ]
    have f2 := hD.st.fz 2
    have c2y : v2.cell? ⟨g, 2, none⟩ = some (.slice (some ⟨q, 0, none⟩) D.length cap) := hD.st.c 2 _ rfl
    refine wpAnyH_ready (rs := [18]) (by kernel_rfl) (by simp) ?_
    refine AllReadyH.cons (o := _) rfl (fun K hK => ?_) AllReadyH.nil
    go_simp
    (try go_wp2_with fail)
    have hSt : Blk (v2.setCell ⟨g, 2, none⟩ (.slice A2 (i + (D.length - m)) c2)) g #[.int .i64 lim, .int .i64 calm, .slice A2 (i + (D.length - m)) c2] 74 := by
      have := hD.st.set 2 (.slice A2 (i + (D.length - m)) c2)
      simpa using this
    have hFs : Fr [g] v2 (v2.setCell ⟨g, 2, none⟩ (.slice A2 (i + (D.length - m)) c2)) := (Fr.refl [g] v2).setCell (p := ⟨g, 2, none⟩) (by simp) (.slice A2 (i + (D.length - m)) c2)
    have hFZ := hHeld.trans hFs
    have hgB : ∀ k, (Value.slice A2 (i + (D.length - m)) c2).ownBlock = some k → k ≠ g := fun k hk e => by
      obtain ⟨cur, hc⟩ := rown_blk hownB k hk
      subst e
      exact hc.neT hD.st (by decide) rfl
    have HZ : Hid (DelP w g lim calm D i (.returned (.int .i64 0)) (v2.setCell ⟨g, 2, none⟩ (.slice A2 (i + (D.length - m)) c2))) := Lib.hid (HDEL.out _ _ _ hSt (rown_frS hownB hFs (fun k hk => by simpa using hgB k hk)) hfr hFZ)
    refine hK.out _ _ ?_ (fun hHeld1 => ?_)
    · (try dsimp only); exact hFZ
    clear hK K
    try simp only [Act.put, List.setIfInBounds_toArray, List.set_cons_zero, List.set_cons_succ]
    refine wpAnyH_done (by kernel_rfl) ?_ _
    clear hD hownB hSt hFs hFZ hHeld hHeld1 hgB f2 c2y hfr
    go_wp2_with fail
    go_ret
    exact HZ.out
  refine AllReadyH.cons (o := _) rfl (fun K hK => ?_) AllReadyH.nil
  have c2 : v0.cell? ⟨g, 2, none⟩ = some (.slice (some ⟨q, 0, none⟩) D.length cap) := hD.st.c 2 _ rfl
  go_simp
  (try go_wp2_with fail)
  refine hK.out _ _ ?_ (fun hHeld1 => ?_)
  · (try dsimp only); exact hHeld
  clear hK K c2 hHeld1
  try simp only [Act.put, List.setIfInBounds_toArray, List.set_cons_zero, List.set_cons_succ]
  refine take_yes 14 63 rfl rfl (by kernel_rfl) (by kernel_rfl) (by kernel_rfl) (fun _ _ _ h => h) (by rfl) (by assumption) (v := .slice AX (D.length - m) (cap - m)) ?_ ?_
  · intro w hSw; (try dsimp only at hSw); go_simp
  try simp only [Act.put, List.setIfInBounds_toArray, List.set_cons_zero, List.set_cons_succ]
  refine wpAnyH_ready (rs := [4]) (by kernel_rfl) (by simp) ?_
  refine AllReadyH.cons (o := _) rfl (fun K hK => ?_) AllReadyH.nil
  have c2 : v0.cell? ⟨g, 2, none⟩ = some (.slice (some ⟨q, 0, none⟩) D.length cap) := hD.st.c 2 _ rfl
  go_simp
  (try go_wp2_with fail)
  refine hK.out _ _ ?_ (fun hHeld1 => ?_)
  · (try dsimp only); exact hHeld
  clear hK K c2 hHeld1
  try simp only [Act.put, List.setIfInBounds_toArray, List.set_cons_zero, List.set_cons_succ]
  refine take_yes 6 55 rfl rfl (by kernel_rfl) (by kernel_rfl) (by kernel_rfl) (fun _ _ _ h => h) (by rfl) (by assumption) (v := .slice (some ⟨q, 0, none⟩) i cap) ?_ ?_
  · intro w hSw; (try dsimp only at hSw); go_simp
  try simp only [Act.put, List.setIfInBounds_toArray, List.set_cons_zero, List.set_cons_succ]
  refine wpAnyH_ready (rs := [7]) (by kernel_rfl) (by simp) ?_
  refine AllReadyH.cons (o := _) rfl (fun K hK => ?_) AllReadyH.nil
  rw [if_pos (by rfl)]
  (try simp only [List.getElem_toArray, List.getElem_cons_succ, List.getElem_cons_zero])
  have hrd := reads_take (Reads.of_own hD.row) (k := i) (by omega)
  refine wp_app _ 56 rfl (.const (.slice none 0 0)) (.tmp 55) 72 rfl 0 98 i0 (.agg #[.string ⟨#[]⟩, .string ⟨#[]⟩, .string ⟨#[]⟩, .int .i64 0, .int .i64 0]) 5 64 Try.underlying72 hi0 hz0 hz1 hz2 rfl (by decide) _ 0 _ (by rfl) (World.ownsRow_nil _ 0 _ _) _ _ _ _ _ (by rfl) hrd (fun u hu => rowF_one' dkL_one D u (List.mem_of_mem_take hu)) ?_ ?_ (Nat.zero_le _) ?_
  · have := HL.out; unfold maxLen; omega
  · have := HL.out; omega
  intro va v1 hownA hgrA hrowA
  rw [Nat.zero_add, List.nil_append] at hownA
  have hFg := Fr.of_row hgrA
  have hD2 : DSt v1 g lim calm (.slice (some ⟨q, 0, none⟩) D.length cap) D := hD.frS hFg (by simp [Value.ownBlock]) (fun k hk => by simp [Value.ownBlock])
  have hHeld2 : Fr [g] w1 v1 := hHeld.grown hgrA (fun k hk => by cases hk)
  have hfa : ∀ k, va.ownBlock = some k → w1.heap.size ≤ k := fun k hk => by
    rcases hrowA with h | h
    · rw [h] at hk; cases hk
    · rw [h] at hk; cases hk; exact hHeld.size
  have hqA : ∀ k, (Value.slice (some ⟨q, 0, none⟩) D.length cap).ownBlock = some k → va.ownBlock ≠ some k := fun k hk e => by
    have h1 := hfa k e
    have h2 := HQL.out
    have h3 : q = k := by simpa [Value.ownBlock] using hk
    subst h3
    omega
  have hgA : va.ownBlock ≠ some g := fun e => by
    have h1 := hfa g e
    have h2 := HGL.out
    omega
  clear hFg hgrA hrowA hrd
  refine hK.out _ _ ?_ (fun hHeld3 => ?_)
  · (try dsimp only); exact hHeld2
  clear hK K hHeld hD
  have hHeld := hHeld2
  have hD := hD2
  clear hHeld2 hHeld3 hD2
  try simp only [Act.put, List.setIfInBounds_toArray, List.set_cons_zero, List.set_cons_succ]
  refine wpAnyH_ready (rs := [15]) (by kernel_rfl) (by simp) ?_
  refine AllReadyH.cons (o := _) rfl (fun K hK => ?_) AllReadyH.nil
  rw [if_pos (by rfl)]
  (try simp only [List.getElem_toArray, List.getElem_cons_succ, List.getElem_cons_zero])
  have hrd : Reads v1 v1.heap.size 5 AX (D.length - m) ((rowF dkL D).drop (m * 5)) := by
    rw [← hAX]
    have := (Reads.of_own hD.row).cut (k := m) (cap := cap) (by omega) hcp.1
    have hm5 : ¬ m * 5 = 0 := by omega
    simpa [Addr.add, hm5] using this
  clear hAX
  refine wp_app _ 64 rfl (.tmp 56) (.tmp 63) 72 rfl 0 98 i0 (.agg #[.string ⟨#[]⟩, .string ⟨#[]⟩, .string ⟨#[]⟩, .int .i64 0, .int .i64 0]) 5 64 Try.underlying72 hi0 hz0 hz1 hz2 rfl (by decide) _ i _ (by rfl) hownA _ _ _ _ _ (by rfl) hrd (fun u hu => rowF_one' dkL_one D u (List.mem_of_mem_drop hu)) ?_ ?_ (Nat.zero_le _) ?_
  · have := HL.out; unfold maxLen; omega
  · have := HL.out; omega
  intro vb v2 hownB hgrB hrowB
  have hFg := Fr.of_row hgrB
  have hD2 : DSt v2 g lim calm (.slice (some ⟨q, 0, none⟩) D.length cap) D := hD.frS hFg (by simpa using hgA) (fun k hk => by simpa using hqA k hk)
  have hHeld2 : Fr [g] w1 v2 := hHeld.grown hgrB (fun k hk => hfa k hk)
  have hfr : ∀ k, vb.ownBlock = some k → w1.heap.size ≤ k := fun k hk => by
    rcases hrowB with h | h
    · exact hfa k (h ▸ hk)
    · rw [h] at hk; cases hk; exact hHeld.size
  obtain ⟨A2, c2, rfl⟩ := rown_slice hownB
  clear hFg hgrB hrowB hownA hgA hqA hfa hrd
  refine hK.out _ _ ?_ (fun hHeld3 => ?_)
  · (try dsimp only); exact hHeld2
  clear hK K hHeld hD
  have hHeld := hHeld2
  have hD := hD2
  clear hHeld2 hHeld3 hD2
  try simp only [Act.put, List.setIfInBounds_toArray, List.set_cons_zero, List.set_cons_succ]
  refine take_yes 16 65 rfl rfl (by kernel_rfl) (by kernel_rfl) (by kernel_rfl) (fun _ _ _ h => h) (by rfl) (by assumption) (v := ?_) ?_ ?_
  rotate_left
  · intro w hSw; (try dsimp only at hSw); go_simp; (try with_reducible rfl)
  try simp only [Act.put, List.setIfInBounds_toArray, List.set_cons_zero, List.set_cons_succ]
  refine take_yes 17 66 rfl rfl (by kernel_rfl) (by kernel_rfl) (by kernel_rfl) (fun _ _ _ h => h) (by rfl) (by assumption) (v := ?_) ?_ ?_
  rotate_left
  · intro w hSw; (try dsimp only at hSw); go_simp; (try with_reducible rfl)
  try simp only [Act.put, List.setIfInBounds_toArray, List.set_cons_zero, List.set_cons_succ]
  have f2 := hD.st.fz 2
  have c2y : v2.cell? ⟨g, 2, none⟩ = some (.slice (some ⟨q, 0, none⟩) D.length cap) := hD.st.c 2 _ rfl
  refine wpAnyH_ready (rs := [18]) (by kernel_rfl) (by simp) ?_
  refine AllReadyH.cons (o := _) rfl (fun K hK => ?_) AllReadyH.nil
  go_simp
  (try go_wp2_with fail)
  have hSt : Blk (v2.setCell ⟨g, 2, none⟩ (.slice A2 (i + (D.length - m)) c2)) g #[.int .i64 lim, .int .i64 calm, .slice A2 (i + (D.length - m)) c2] 74 := by
    have := hD.st.set 2 (.slice A2 (i + (D.length - m)) c2)
    simpa using this
  have hFs : Fr [g] v2 (v2.setCell ⟨g, 2, none⟩ (.slice A2 (i + (D.length - m)) c2)) := (Fr.refl [g] v2).setCell (p := ⟨g, 2, none⟩) (by simp) (.slice A2 (i + (D.length - m)) c2)
  have hFZ := hHeld.trans hFs
  have hgB : ∀ k, (Value.slice A2 (i + (D.length - m)) c2).ownBlock = some k → k ≠ g := fun k hk e => by
    obtain ⟨cur, hc⟩ := rown_blk hownB k hk
    subst e
    exact hc.neT hD.st (by decide) rfl
  have HZ : Hid (DelP w g lim calm D i (.returned (.int .i64 0)) (v2.setCell ⟨g, 2, none⟩ (.slice A2 (i + (D.length - m)) c2))) := Lib.hid (HDEL.out _ _ _ hSt (rown_frS hownB hFs (fun k hk => by simpa using hgB k hk)) hfr hFZ)
  refine hK.out _ _ ?_ (fun hHeld1 => ?_)
  · (try dsimp only); exact hFZ
  clear hK K
  try simp only [Act.put, List.setIfInBounds_toArray, List.set_cons_zero, List.set_cons_succ]
  refine wpAnyH_done (by kernel_rfl) ?_ _
  clear hD hownB hSt hFs hFZ hHeld hHeld1 hgB f2 c2y hfr
  go_wp2_with fail
  go_ret
  exact HZ.out
set_option maxRecDepth 100000 in
set_option maxHeartbeats 8000000 in
theorem dsset_new (f s : List UInt8) (hf : f.length ≤ 60) (hs : s.length ≤ 60) (s0 : s ≠ []) (hn : dfind D (spN f, spR f) = none) (hl : D.length < 100) (h : DSt w g lim calm r D) :
    Calls Try.prog 39 #[.pointer (some ⟨g, 0, none⟩), .string (B f), .string (B s)] w (NewD w g lim calm r D (spN f) (spR f) s) := by
  obtain ⟨i0, hi0, hz0, hz1, hz2⟩ := info_parts infoKn
  have FD := Lib.hid (dsfind_any f (by omega) (by omega) h)
  rw [hn, show fval none = -1 from rfl] at FD
  have SP := Lib.hid fun W => rsplit_any f W (by omega)
  unfold whoC at SP
  obtain ⟨n1, hn1⟩ : ∃ x, spN f = x := ⟨_, rfl⟩
  obtain ⟨n2, hn2⟩ : ∃ x, spR f = x := ⟨_, rfl⟩
  rw [hn1, hn2] at SP ⊢
  obtain ⟨A, cap, rfl⟩ := rown_slice h.row
  have hcp := rown_caps h.row
  have HH := Lib.hid h
  have G2 : Hid (∀ W, Fr [] w W → W.cell? ⟨g, 2, none⟩ = some (.slice A D.length cap)) := Lib.hid fun W hW => (hW.blk h.st (by simp)).c 2 _ rfl
  have h1 : ¬ (60 : Int) < f.length := by omega
  have h2 : ¬ (60 : Int) < s.length := by omega
  have h3 : ¬ (100 : Int) ≤ D.length := by omega
  have hse : s.isEmpty = false := by simpa using s0
  have hs1 := strB_ne s0
  have hs2 : (s == []) = false := by simpa using s0
  have HL := Lib.hid hl
  clear h hn hn1 hn2 hf hs hl
  go_enter Try.func39, Try.ntmps39
  go_wp2_with fail
  refine FD.out.mono ?_
  rintro e w1 ⟨rfl, hF1⟩
  have x0 := G2.out _ hF1
  have HF1 := Lib.hid hF1
  have hD : DSt w1.drew g lim calm (.slice A D.length cap) D := (HH.out.fr0 hF1).fr0 (Fr.refl [] w1).drew
  have hFd : Fr (g :: (Value.slice A D.length cap).ownBlock.toList) w1 w1.drew := (Fr.refl _ w1).drew
  have HNEW : Hid (∀ W A2 c2, Blk W g #[.int .i64 lim, .int .i64 calm, .slice A2 (D.length + 1) c2] 74 → W.ownsRow 0 98 5 (.slice A2 (D.length + 1) c2) (D.length + 1) (rowF dkL D ++ [.string (B n1), .string (B n2), .string (B s), .int .i64 0, .int .i64 0]) → (∀ k, (Value.slice A2 (D.length + 1) c2).ownBlock = some k → (Value.slice A D.length cap).ownBlock = some k ∨ w1.heap.size ≤ k) → Fr (g :: (Value.slice A D.length cap).ownBlock.toList) w1 W → NewD w g lim calm (.slice A D.length cap) D n1 n2 s (.returned (.int .i64 0)) W) := Lib.hid fun W A2 c2 h1 h2 h3 h4 => by
    have e2 : rowF dkL D ++ [.string (B n1), .string (B n2), .string (B s), .int .i64 0, .int .i64 0] = rowF dkL (D ++ [((n1, n2), (⟨s, 0, 0⟩ : Kn))]) := by rw [rowF_append, rowF_one]; rfl
    refine ⟨rfl, _, ⟨h1, ?_⟩, fun k hk => (h3 k hk).imp id (Nat.le_trans HF1.out.size), (HF1.out.mono (by simp)).trans h4⟩
    rw [List.length_append, ← e2]
    exact h2
  clear hF1 FD G2
  go_wp2_with fail
  clear x0
  refine wp_region_held_drew (S := (fun W => Fr (g :: (Value.slice A D.length cap).ownBlock.toList) w1 W)) (by kernel_rfl) ?_ (fun hHeld => ?_)
  · (try dsimp only); exact hFd
  obtain ⟨v0, hv⟩ : ∃ X, w1.drew = X := ⟨_, rfl⟩
  rw [hv] at hHeld hD ⊢
  clear hv hFd
  refine take_yes 0 29 rfl rfl (by kernel_rfl) (by kernel_rfl) (by kernel_rfl) (fun _ _ _ h => h) (by rfl) (by assumption) (v := ?_) ?_ ?_
  rotate_left
  · intro w hSw; (try dsimp only at hSw); go_simp; (try with_reducible rfl)
  try simp only [Act.put, List.setIfInBounds_toArray, List.set_cons_zero, List.set_cons_succ]
  refine take_yes 1 30 rfl rfl (by kernel_rfl) (by kernel_rfl) (by kernel_rfl) (fun _ _ _ h => h) (by rfl) (by assumption) (v := ?_) ?_ ?_
  rotate_left
  · intro w hSw; (try dsimp only at hSw); go_simp; (try with_reducible rfl)
  try simp only [Act.put, List.setIfInBounds_toArray, List.set_cons_zero, List.set_cons_succ]
  refine take_yes 2 31 rfl rfl (by kernel_rfl) (by kernel_rfl) (by kernel_rfl) (fun _ _ _ h => h) (by rfl) (by assumption) (v := ?_) ?_ ?_
  rotate_left
  · intro w hSw; (try dsimp only at hSw); go_simp; (try with_reducible rfl)
  try simp only [Act.put, List.setIfInBounds_toArray, List.set_cons_zero, List.set_cons_succ]
  refine take_yes 3 32 rfl rfl (by kernel_rfl) (by kernel_rfl) (by kernel_rfl) (fun _ _ _ h => h) (by rfl) (by assumption) (v := ?_) ?_ ?_
  rotate_left
  · intro w hSw; (try dsimp only at hSw); go_simp; (try with_reducible rfl)
  try simp only [Act.put, List.setIfInBounds_toArray, List.set_cons_zero, List.set_cons_succ]
  refine take_yes 5 34 rfl rfl (by kernel_rfl) (by kernel_rfl) (by kernel_rfl) (fun _ _ _ h => h) (by rfl) (by assumption) (v := ?_) ?_ ?_
  rotate_left
  · intro w hSw; (try dsimp only at hSw); go_simp; (try with_reducible rfl)
  try simp only [Act.put, List.setIfInBounds_toArray, List.set_cons_zero, List.set_cons_succ]
  refine take_yes 7 36 rfl rfl (by kernel_rfl) (by kernel_rfl) (by kernel_rfl) (fun _ _ _ h => h) (by rfl) (by assumption) (v := ?_) ?_ ?_
  rotate_left
  · intro w hSw; (try dsimp only at hSw); go_simp; (try with_reducible rfl)
  try simp only [Act.put, List.setIfInBounds_toArray, List.set_cons_zero, List.set_cons_succ]
  refine wpAnyH_ready (rs := [4, 6]) (by kernel_rfl) (by simp) ?_
  refine AllReadyH.cons (o := _) rfl (fun K hK => ?_) ?_
  · have c2 : v0.cell? ⟨g, 2, none⟩ = some (.slice A D.length cap) := hD.st.c 2 _ rfl
    go_simp
    (try go_wp2_with fail)
    refine hK.out _ _ ?_ (fun hHeld1 => ?_)
    · (try dsimp only); exact hHeld
    clear hK K c2 hHeld1
    try simp only [Act.put, List.setIfInBounds_toArray, List.set_cons_zero, List.set_cons_succ]
    refine wpAnyH_ready (rs := [6]) (by kernel_rfl) (by simp) ?_
    refine AllReadyH.cons (o := _) rfl (fun K hK => ?_) AllReadyH.nil
    go_simp
    refine (SP.out _).mono ?_
    rintro e v1 ⟨rfl, hFx⟩
    (try go_wp2_with fail)
    replace hD := hD.fr0 hFx
    replace hHeld := hHeld.trans (hFx.mono (by simp))
    refine hK.out _ _ ?_ (fun hHeld1 => ?_)
    · (try dsimp only); exact hHeld
    clear hK K hHeld1 hFx
    try simp only [Act.put, List.setIfInBounds_toArray, List.set_cons_zero, List.set_cons_succ]
    refine take_yes 8 37 rfl rfl (by kernel_rfl) (by kernel_rfl) (by kernel_rfl) (fun _ _ _ h => h) (by rfl) (by assumption) (v := ?_) ?_ ?_
    rotate_left
    · intro w hSw; (try dsimp only at hSw); go_simp; (try with_reducible rfl)
    try simp only [Act.put, List.setIfInBounds_toArray, List.set_cons_zero, List.set_cons_succ]
    refine wpAnyH_ready (rs := [9]) (by kernel_rfl) (by simp) ?_
    refine AllReadyH.cons (o := _) rfl (fun K hK => ?_) AllReadyH.nil
    go_simp
    (try go_wp2_with fail)
    have hFx : Fr [] v1 (v1.alloc (.cells #[.string (B n1), .string (B n2), .string (B s), .int .i64 0, .int .i64 0] 98 (0, 0))) := (Fr.refl _ _).alloc _
    have hOwnX := World.ownsRow_lit (base := 0) (e := 98) (size := 5) v1 #[.string (B n1), .string (B n2), .string (B s), .int .i64 0, .int .i64 0] 1 (Nat.zero_le _) (by unfold maxLen; omega) rfl
    obtain ⟨v2, hv⟩ : ∃ X, v1.alloc (.cells #[.string (B n1), .string (B n2), .string (B s), .int .i64 0, .int .i64 0] 98 (0, 0)) = X := ⟨_, rfl⟩
    obtain ⟨qx, hqx⟩ : ∃ X, v1.heap.size = X := ⟨_, rfl⟩
    rw [hv] at hFx hOwnX ⊢
    rw [hqx] at hOwnX ⊢
    replace hD := hD.fr0 hFx
    replace hHeld := hHeld.trans (hFx.mono (by simp))
    refine hK.out _ _ ?_ (fun hHeld1 => ?_)
    · (try dsimp only); exact hHeld
    clear hK K hHeld1 hFx hv hqx
    try simp only [Act.put, List.setIfInBounds_toArray, List.set_cons_zero, List.set_cons_succ]
    refine wpAnyH_ready (rs := [10]) (by kernel_rfl) (by simp) ?_
    refine AllReadyH.cons (o := _) rfl (fun K hK => ?_) AllReadyH.nil
    rw [if_pos (by rfl)]
    (try simp only [List.getElem_toArray, List.getElem_cons_succ, List.getElem_cons_zero])
    refine wp_app _ 39 rfl (.tmp 33) (.tmp 38) 72 rfl 0 98 i0 (.agg #[.string ⟨#[]⟩, .string ⟨#[]⟩, .string ⟨#[]⟩, .int .i64 0, .int .i64 0]) 5 64 Try.underlying72 hi0 hz0 hz1 hz2 rfl (by decide) _ D.length _ (by rfl) hD.row _ _ _ _ _ (by rfl) (Reads.of_own hOwnX) (by simp [Value.oneCell']) ?_ ?_ (Nat.zero_le _) ?_
    · have := HL.out; unfold maxLen; omega
    · have := HL.out; omega
    intro vb v3 hownB hgrB hrowB
    have hFg := Fr.of_row hgrB
    have hst2 := hFg.blk hD.st (by have := hD.ne; simp; intro e; exact this g e rfl)
    have hHeld2 : Fr (g :: (Value.slice A D.length cap).ownBlock.toList) w1 v3 := hHeld.trans (hFg.mono (fun x hx => List.mem_cons_of_mem _ hx))
    have hfr : ∀ k, vb.ownBlock = some k → (Value.slice A D.length cap).ownBlock = some k ∨ w1.heap.size ≤ k := fun k hk => by
      rcases hrowB with h | h
      · left; rw [← h]; exact hk
      · right; rw [h] at hk; cases hk; exact hHeld.size
    obtain ⟨A2, c2, rfl⟩ := rown_slice hownB
    clear hFg hgrB hrowB hOwnX
    refine hK.out _ _ ?_ (fun hHeld3 => ?_)
    · (try dsimp only); exact hHeld2
    clear hK K hHeld hD
    have hHeld := hHeld2
    clear hHeld2 hHeld3
    try simp only [Act.put, List.setIfInBounds_toArray, List.set_cons_zero, List.set_cons_succ]
    refine take_yes 11 40 rfl rfl (by kernel_rfl) (by kernel_rfl) (by kernel_rfl) (fun _ _ _ h => h) (by rfl) (by assumption) (v := ?_) ?_ ?_
    rotate_left
    · intro w hSw; (try dsimp only at hSw); go_simp; (try with_reducible rfl)
    try simp only [Act.put, List.setIfInBounds_toArray, List.set_cons_zero, List.set_cons_succ]
    refine take_yes 12 41 rfl rfl (by kernel_rfl) (by kernel_rfl) (by kernel_rfl) (fun _ _ _ h => h) (by rfl) (by assumption) (v := ?_) ?_ ?_
    rotate_left
    · intro w hSw; (try dsimp only at hSw); go_simp; (try with_reducible rfl)
    try simp only [Act.put, List.setIfInBounds_toArray, List.set_cons_zero, List.set_cons_succ]
    have f2 := hst2.fz 2
    have c2x : v3.cell? ⟨g, 2, none⟩ = some (.slice A D.length cap) := hst2.c 2 _ rfl
    refine wpAnyH_ready (rs := [13]) (by kernel_rfl) (by simp) ?_
    refine AllReadyH.cons (o := _) rfl (fun K hK => ?_) AllReadyH.nil
    go_simp
    (try go_wp2_with fail)
    have hSt : Blk (v3.setCell ⟨g, 2, none⟩ (.slice A2 (D.length + 1) c2)) g #[.int .i64 lim, .int .i64 calm, .slice A2 (D.length + 1) c2] 74 := by
      have := hst2.set 2 (.slice A2 (D.length + 1) c2)
      simpa using this
    have hFs : Fr [g] v3 (v3.setCell ⟨g, 2, none⟩ (.slice A2 (D.length + 1) c2)) := (Fr.refl [g] v3).setCell (p := ⟨g, 2, none⟩) (by simp) (.slice A2 (D.length + 1) c2)
    have hFZ := hHeld.trans (hFs.mono (S' := g :: (Value.slice A D.length cap).ownBlock.toList) (by simp))
    have hgB : ∀ k, (Value.slice A2 (D.length + 1) c2).ownBlock = some k → k ≠ g := fun k hk e => by
      obtain ⟨cur, hc⟩ := rown_blk hownB k hk
      subst e
      exact hc.neT hst2 (by decide) rfl
    have HZ : Hid (NewD w g lim calm (.slice A D.length cap) D n1 n2 s (.returned (.int .i64 0)) (v3.setCell ⟨g, 2, none⟩ (.slice A2 (D.length + 1) c2))) := Lib.hid (HNEW.out _ _ _ hSt (rown_frS hownB hFs (fun k hk => by simpa using hgB k hk)) hfr hFZ)
    refine hK.out _ _ ?_ (fun hHeld1 => ?_)
    · (try dsimp only); exact hFZ
    clear hK K
    try simp only [Act.put, List.setIfInBounds_toArray, List.set_cons_zero, List.set_cons_succ]
    refine wpAnyH_done (by kernel_rfl) ?_ _
    clear hst2 hownB hSt hFs hFZ hHeld hHeld1 hgB f2 c2x hfr
    go_wp2_with fail
    go_ret
    exact HZ.out
  refine AllReadyH.cons (o := _) rfl (fun K hK => ?_) AllReadyH.nil
  go_simp
  refine (SP.out _).mono ?_
  rintro e v1 ⟨rfl, hFx⟩
  (try go_wp2_with fail)
  replace hD := hD.fr0 hFx
  replace hHeld := hHeld.trans (hFx.mono (by simp))
  refine hK.out _ _ ?_ (fun hHeld1 => ?_)
  · (try dsimp only); exact hHeld
  clear hK K hHeld1 hFx
  try simp only [Act.put, List.setIfInBounds_toArray, List.set_cons_zero, List.set_cons_succ]
  refine take_yes 8 37 rfl rfl (by kernel_rfl) (by kernel_rfl) (by kernel_rfl) (fun _ _ _ h => h) (by rfl) (by assumption) (v := ?_) ?_ ?_
  rotate_left
  · intro w hSw; (try dsimp only at hSw); go_simp; (try with_reducible rfl)
  try simp only [Act.put, List.setIfInBounds_toArray, List.set_cons_zero, List.set_cons_succ]
  refine wpAnyH_ready (rs := [4, 9]) (by kernel_rfl) (by simp) ?_
  refine AllReadyH.cons (o := _) rfl (fun K hK => ?_) ?_
  · have c2 : v1.cell? ⟨g, 2, none⟩ = some (.slice A D.length cap) := hD.st.c 2 _ rfl
    go_simp
    (try go_wp2_with fail)
    refine hK.out _ _ ?_ (fun hHeld1 => ?_)
    · (try dsimp only); exact hHeld
    clear hK K c2 hHeld1
    try simp only [Act.put, List.setIfInBounds_toArray, List.set_cons_zero, List.set_cons_succ]
    refine wpAnyH_ready (rs := [9]) (by kernel_rfl) (by simp) ?_
    refine AllReadyH.cons (o := _) rfl (fun K hK => ?_) AllReadyH.nil
    go_simp
    (try go_wp2_with fail)
    have hFx : Fr [] v1 (v1.alloc (.cells #[.string (B n1), .string (B n2), .string (B s), .int .i64 0, .int .i64 0] 98 (0, 0))) := (Fr.refl _ _).alloc _
    have hOwnX := World.ownsRow_lit (base := 0) (e := 98) (size := 5) v1 #[.string (B n1), .string (B n2), .string (B s), .int .i64 0, .int .i64 0] 1 (Nat.zero_le _) (by unfold maxLen; omega) rfl
    obtain ⟨v2, hv⟩ : ∃ X, v1.alloc (.cells #[.string (B n1), .string (B n2), .string (B s), .int .i64 0, .int .i64 0] 98 (0, 0)) = X := ⟨_, rfl⟩
    obtain ⟨qx, hqx⟩ : ∃ X, v1.heap.size = X := ⟨_, rfl⟩
    rw [hv] at hFx hOwnX ⊢
    rw [hqx] at hOwnX ⊢
    replace hD := hD.fr0 hFx
    replace hHeld := hHeld.trans (hFx.mono (by simp))
    refine hK.out _ _ ?_ (fun hHeld1 => ?_)
    · (try dsimp only); exact hHeld
    clear hK K hHeld1 hFx hv hqx
    try simp only [Act.put, List.setIfInBounds_toArray, List.set_cons_zero, List.set_cons_succ]
    refine wpAnyH_ready (rs := [10]) (by kernel_rfl) (by simp) ?_
    refine AllReadyH.cons (o := _) rfl (fun K hK => ?_) AllReadyH.nil
    rw [if_pos (by rfl)]
    (try simp only [List.getElem_toArray, List.getElem_cons_succ, List.getElem_cons_zero])
    refine wp_app _ 39 rfl (.tmp 33) (.tmp 38) 72 rfl 0 98 i0 (.agg #[.string ⟨#[]⟩, .string ⟨#[]⟩, .string ⟨#[]⟩, .int .i64 0, .int .i64 0]) 5 64 Try.underlying72 hi0 hz0 hz1 hz2 rfl (by decide) _ D.length _ (by rfl) hD.row _ _ _ _ _ (by rfl) (Reads.of_own hOwnX) (by simp [Value.oneCell']) ?_ ?_ (Nat.zero_le _) ?_
    · have := HL.out; unfold maxLen; omega
    · have := HL.out; omega
    intro vb v3 hownB hgrB hrowB
    have hFg := Fr.of_row hgrB
    have hst2 := hFg.blk hD.st (by have := hD.ne; simp; intro e; exact this g e rfl)
    have hHeld2 : Fr (g :: (Value.slice A D.length cap).ownBlock.toList) w1 v3 := hHeld.trans (hFg.mono (fun x hx => List.mem_cons_of_mem _ hx))
    have hfr : ∀ k, vb.ownBlock = some k → (Value.slice A D.length cap).ownBlock = some k ∨ w1.heap.size ≤ k := fun k hk => by
      rcases hrowB with h | h
      · left; rw [← h]; exact hk
      · right; rw [h] at hk; cases hk; exact hHeld.size
    obtain ⟨A2, c2, rfl⟩ := rown_slice hownB
    clear hFg hgrB hrowB hOwnX
    refine hK.out _ _ ?_ (fun hHeld3 => ?_)
    · (try dsimp only); exact hHeld2
    clear hK K hHeld hD
    have hHeld := hHeld2
    clear hHeld2 hHeld3
    try simp only [Act.put, List.setIfInBounds_toArray, List.set_cons_zero, List.set_cons_succ]
    refine take_yes 11 40 rfl rfl (by kernel_rfl) (by kernel_rfl) (by kernel_rfl) (fun _ _ _ h => h) (by rfl) (by assumption) (v := ?_) ?_ ?_
    rotate_left
    · intro w hSw; (try dsimp only at hSw); go_simp; (try with_reducible rfl)
    try simp only [Act.put, List.setIfInBounds_toArray, List.set_cons_zero, List.set_cons_succ]
    refine take_yes 12 41 rfl rfl (by kernel_rfl) (by kernel_rfl) (by kernel_rfl) (fun _ _ _ h => h) (by rfl) (by assumption) (v := ?_) ?_ ?_
    rotate_left
    · intro w hSw; (try dsimp only at hSw); go_simp; (try with_reducible rfl)
    try simp only [Act.put, List.setIfInBounds_toArray, List.set_cons_zero, List.set_cons_succ]
    have f2 := hst2.fz 2
    have c2x : v3.cell? ⟨g, 2, none⟩ = some (.slice A D.length cap) := hst2.c 2 _ rfl
    refine wpAnyH_ready (rs := [13]) (by kernel_rfl) (by simp) ?_
    refine AllReadyH.cons (o := _) rfl (fun K hK => ?_) AllReadyH.nil
    go_simp
    (try go_wp2_with fail)
    have hSt : Blk (v3.setCell ⟨g, 2, none⟩ (.slice A2 (D.length + 1) c2)) g #[.int .i64 lim, .int .i64 calm, .slice A2 (D.length + 1) c2] 74 := by
      have := hst2.set 2 (.slice A2 (D.length + 1) c2)
      simpa using this
    have hFs : Fr [g] v3 (v3.setCell ⟨g, 2, none⟩ (.slice A2 (D.length + 1) c2)) := (Fr.refl [g] v3).setCell (p := ⟨g, 2, none⟩) (by simp) (.slice A2 (D.length + 1) c2)
    have hFZ := hHeld.trans (hFs.mono (S' := g :: (Value.slice A D.length cap).ownBlock.toList) (by simp))
    have hgB : ∀ k, (Value.slice A2 (D.length + 1) c2).ownBlock = some k → k ≠ g := fun k hk e => by
      obtain ⟨cur, hc⟩ := rown_blk hownB k hk
      subst e
      exact hc.neT hst2 (by decide) rfl
    have HZ : Hid (NewD w g lim calm (.slice A D.length cap) D n1 n2 s (.returned (.int .i64 0)) (v3.setCell ⟨g, 2, none⟩ (.slice A2 (D.length + 1) c2))) := Lib.hid (HNEW.out _ _ _ hSt (rown_frS hownB hFs (fun k hk => by simpa using hgB k hk)) hfr hFZ)
    refine hK.out _ _ ?_ (fun hHeld1 => ?_)
    · (try dsimp only); exact hFZ
    clear hK K
    try simp only [Act.put, List.setIfInBounds_toArray, List.set_cons_zero, List.set_cons_succ]
    refine wpAnyH_done (by kernel_rfl) ?_ _
    clear hst2 hownB hSt hFs hFZ hHeld hHeld1 hgB f2 c2x hfr
    go_wp2_with fail
    go_ret
    exact HZ.out
  refine AllReadyH.cons (o := _) rfl (fun K hK => ?_) AllReadyH.nil
  go_simp
  (try go_wp2_with fail)
  have hFx : Fr [] v1 (v1.alloc (.cells #[.string (B n1), .string (B n2), .string (B s), .int .i64 0, .int .i64 0] 98 (0, 0))) := (Fr.refl _ _).alloc _
  have hOwnX := World.ownsRow_lit (base := 0) (e := 98) (size := 5) v1 #[.string (B n1), .string (B n2), .string (B s), .int .i64 0, .int .i64 0] 1 (Nat.zero_le _) (by unfold maxLen; omega) rfl
  obtain ⟨v2, hv⟩ : ∃ X, v1.alloc (.cells #[.string (B n1), .string (B n2), .string (B s), .int .i64 0, .int .i64 0] 98 (0, 0)) = X := ⟨_, rfl⟩
  obtain ⟨qx, hqx⟩ : ∃ X, v1.heap.size = X := ⟨_, rfl⟩
  rw [hv] at hFx hOwnX ⊢
  rw [hqx] at hOwnX ⊢
  replace hD := hD.fr0 hFx
  replace hHeld := hHeld.trans (hFx.mono (by simp))
  refine hK.out _ _ ?_ (fun hHeld1 => ?_)
  · (try dsimp only); exact hHeld
  clear hK K hHeld1 hFx hv hqx
  try simp only [Act.put, List.setIfInBounds_toArray, List.set_cons_zero, List.set_cons_succ]
  refine wpAnyH_ready (rs := [4]) (by kernel_rfl) (by simp) ?_
  refine AllReadyH.cons (o := _) rfl (fun K hK => ?_) AllReadyH.nil
  have c2 : v2.cell? ⟨g, 2, none⟩ = some (.slice A D.length cap) := hD.st.c 2 _ rfl
  go_simp
  (try go_wp2_with fail)
  refine hK.out _ _ ?_ (fun hHeld1 => ?_)
  · (try dsimp only); exact hHeld
  clear hK K c2 hHeld1
  try simp only [Act.put, List.setIfInBounds_toArray, List.set_cons_zero, List.set_cons_succ]
  refine wpAnyH_ready (rs := [10]) (by kernel_rfl) (by simp) ?_
  refine AllReadyH.cons (o := _) rfl (fun K hK => ?_) AllReadyH.nil
  rw [if_pos (by rfl)]
  (try simp only [List.getElem_toArray, List.getElem_cons_succ, List.getElem_cons_zero])
  refine wp_app _ 39 rfl (.tmp 33) (.tmp 38) 72 rfl 0 98 i0 (.agg #[.string ⟨#[]⟩, .string ⟨#[]⟩, .string ⟨#[]⟩, .int .i64 0, .int .i64 0]) 5 64 Try.underlying72 hi0 hz0 hz1 hz2 rfl (by decide) _ D.length _ (by rfl) hD.row _ _ _ _ _ (by rfl) (Reads.of_own hOwnX) (by simp [Value.oneCell']) ?_ ?_ (Nat.zero_le _) ?_
  · have := HL.out; unfold maxLen; omega
  · have := HL.out; omega
  intro vb v3 hownB hgrB hrowB
  have hFg := Fr.of_row hgrB
  have hst2 := hFg.blk hD.st (by have := hD.ne; simp; intro e; exact this g e rfl)
  have hHeld2 : Fr (g :: (Value.slice A D.length cap).ownBlock.toList) w1 v3 := hHeld.trans (hFg.mono (fun x hx => List.mem_cons_of_mem _ hx))
  have hfr : ∀ k, vb.ownBlock = some k → (Value.slice A D.length cap).ownBlock = some k ∨ w1.heap.size ≤ k := fun k hk => by
    rcases hrowB with h | h
    · left; rw [← h]; exact hk
    · right; rw [h] at hk; cases hk; exact hHeld.size
  obtain ⟨A2, c2, rfl⟩ := rown_slice hownB
  clear hFg hgrB hrowB hOwnX
  refine hK.out _ _ ?_ (fun hHeld3 => ?_)
  · (try dsimp only); exact hHeld2
  clear hK K hHeld hD
  have hHeld := hHeld2
  clear hHeld2 hHeld3
  try simp only [Act.put, List.setIfInBounds_toArray, List.set_cons_zero, List.set_cons_succ]
  refine take_yes 11 40 rfl rfl (by kernel_rfl) (by kernel_rfl) (by kernel_rfl) (fun _ _ _ h => h) (by rfl) (by assumption) (v := ?_) ?_ ?_
  rotate_left
  · intro w hSw; (try dsimp only at hSw); go_simp; (try with_reducible rfl)
  try simp only [Act.put, List.setIfInBounds_toArray, List.set_cons_zero, List.set_cons_succ]
  refine take_yes 12 41 rfl rfl (by kernel_rfl) (by kernel_rfl) (by kernel_rfl) (fun _ _ _ h => h) (by rfl) (by assumption) (v := ?_) ?_ ?_
  rotate_left
  · intro w hSw; (try dsimp only at hSw); go_simp; (try with_reducible rfl)
  try simp only [Act.put, List.setIfInBounds_toArray, List.set_cons_zero, List.set_cons_succ]
  have f2 := hst2.fz 2
  have c2x : v3.cell? ⟨g, 2, none⟩ = some (.slice A D.length cap) := hst2.c 2 _ rfl
  refine wpAnyH_ready (rs := [13]) (by kernel_rfl) (by simp) ?_
  refine AllReadyH.cons (o := _) rfl (fun K hK => ?_) AllReadyH.nil
  go_simp
  (try go_wp2_with fail)
  have hSt : Blk (v3.setCell ⟨g, 2, none⟩ (.slice A2 (D.length + 1) c2)) g #[.int .i64 lim, .int .i64 calm, .slice A2 (D.length + 1) c2] 74 := by
    have := hst2.set 2 (.slice A2 (D.length + 1) c2)
    simpa using this
  have hFs : Fr [g] v3 (v3.setCell ⟨g, 2, none⟩ (.slice A2 (D.length + 1) c2)) := (Fr.refl [g] v3).setCell (p := ⟨g, 2, none⟩) (by simp) (.slice A2 (D.length + 1) c2)
  have hFZ := hHeld.trans (hFs.mono (S' := g :: (Value.slice A D.length cap).ownBlock.toList) (by simp))
  have hgB : ∀ k, (Value.slice A2 (D.length + 1) c2).ownBlock = some k → k ≠ g := fun k hk e => by
    obtain ⟨cur, hc⟩ := rown_blk hownB k hk
    subst e
    exact hc.neT hst2 (by decide) rfl
  have HZ : Hid (NewD w g lim calm (.slice A D.length cap) D n1 n2 s (.returned (.int .i64 0)) (v3.setCell ⟨g, 2, none⟩ (.slice A2 (D.length + 1) c2))) := Lib.hid (HNEW.out _ _ _ hSt (rown_frS hownB hFs (fun k hk => by simpa using hgB k hk)) hfr hFZ)
  refine hK.out _ _ ?_ (fun hHeld1 => ?_)
  · (try dsimp only); exact hFZ
  clear hK K
  try simp only [Act.put, List.setIfInBounds_toArray, List.set_cons_zero, List.set_cons_succ]
  refine wpAnyH_done (by kernel_rfl) ?_ _
  clear hst2 hownB hSt hFs hFZ hHeld hHeld1 hgB f2 c2x hfr
  go_wp2_with fail
  go_ret
  exact HZ.out
end
end Go.Proofs.Ytpljdnocdhppmaa
