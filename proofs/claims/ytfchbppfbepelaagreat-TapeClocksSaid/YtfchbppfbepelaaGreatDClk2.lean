/- the document's clock: Cancel (printed by tools/gen_dclk.py). -/
import Derived.Test.YtfchbppfbepelaaGreatDClk1
namespace Go.Proofs.YtfchbppfbepelaaGreat
open Go.RowKit
set_option linter.unusedVariables false
theorem infoTmr : (Tryz.prog.info? 151).map (fun i => (i.zero, i.size, i.bytes)) = some (some (.agg #[.int .i64 0, .int .i64 0, .int .i64 0]), 3, 24) := by kernel_rfl
theorem reads_take {w : World} {B size n : Nat} {A : Option Addr} {xs : List Value} (h : Reads w B size A n xs) {k : Nat} (hk : k ≤ n) : Reads w B size A k (xs.take (k * size)) := by
  refine ⟨by rw [List.length_take, h.1, Nat.min_eq_left (Nat.mul_le_mul_right _ hk)], fun hn => ?_⟩
  obtain ⟨ad, rfl, hb, hc⟩ := h.2 (by omega)
  refine ⟨ad, rfl, hb, fun j u hu => hc j u ?_⟩
  rw [List.getElem?_take] at hu
  split at hu
  · exact hu
  · cases hu
theorem rowF_take {α : Type} {f : α → List Value} {N : Nat} (hN : ∀ x, (f x).length = N) (l : List α) (k : Nat) (hk : k ≤ l.length) : (rowF f l).take (k * N) = rowF f (l.take k) := by
  have h1 : (rowF f (l.take k)).length = k * N := by rw [rowF_len hN, List.length_take, Nat.min_eq_left hk]
  conv => lhs; rw [← List.take_append_drop k l, rowF_append]
  rw [← h1, List.take_left']
  rfl
theorem rowF_drop {α : Type} {f : α → List Value} {N : Nat} (hN : ∀ x, (f x).length = N) (l : List α) (k : Nat) (hk : k ≤ l.length) : (rowF f l).drop (k * N) = rowF f (l.drop k) := by
  have h1 : (rowF f (l.take k)).length = k * N := by rw [rowF_len hN, List.length_take, Nat.min_eq_left hk]
  conv => lhs; rw [← List.take_append_drop k l, rowF_append]
  rw [← h1, List.drop_left']
  rfl
def CanP (w : World) (g : Nat) (n : Int) (D : List DT) (i : Nat) (e : Ending) (w' : World) : Prop := e = .returned (.bool true) ∧ ∃ r', DCk w' g n r' (D.eraseIdx i) ∧ (∀ k, r'.ownBlock = some k → w.heap.size ≤ k) ∧ Fr [g] w w'
/-- what Cancel leaves -/
def dcCut (D : List DT) (k : Ky) : List DT := match tfind D k with | some i => D.eraseIdx i | none => D
def CancP (w : World) (g : Nat) (n : Int) (r : Value) (D : List DT) (k : Ky) (e : Ending) (w' : World) : Prop := e = .returned (.bool (tHas D k)) ∧ ∃ r', DCk w' g n r' (dcCut D k) ∧ (∀ k, r'.ownBlock = some k → r.ownBlock = some k ∨ w.heap.size ≤ k) ∧ Fr [g] w w'
section
variable {w : World} {g : Nat} {n : Int} {r : Value} {D : List DT}
set_option maxRecDepth 100000 in
set_option maxHeartbeats 8000000 in
theorem dcCancel (k1 k2 : Int) (hl : D.length ≤ 1000) (h : DCk w g n r D) :
    Calls Tryz.prog 71 #[.pointer (some ⟨g, 0, none⟩), .int .i64 k1, .int .i64 k2] w (CancP w g n r D (k1, k2)) := by
  obtain ⟨i0, hi0, hz0, hz1, hz2⟩ := info_parts infoTmr
  obtain ⟨A, cap, rfl⟩ := rown_slice h.row
  have HR := Lib.hid (RAt.of_own tmF_len h.row)
  have HC : Hid (∀ W, Fr [] w W → W.cell? ⟨g, 1, none⟩ = some (.slice A D.length cap)) := Lib.hid fun W hW => (hW.blk h.st (by simp)).c 1 _ rfl
  have hcp := rown_caps h.row
  have hcp1 := hcp.1
  have hcp2 := hcp.2
  have hlI : (D.length : Int) ≤ 1000 := by omega
  have HH := Lib.hid h
  have HL := Lib.hid hl
  clear h hl
  go_enter Tryz.func71, Tryz.ntmps71
  go_wp2_with fail
  go_loopw [7] (fun iv wr => ∃ j : Nat, j ≤ D.length ∧ iv = .int .i64 j ∧ Hid (∀ i y, i < j → D[i]? = some y → y.1 ≠ (k1, k2)) ∧ Fr [] w wr) (fun iv _ => D.length - (intOf iv).toNat)
  case atStart => exact ⟨0, Nat.zero_le _, rfl, Lib.hid fun i y h => by omega, Fr.refl _ _⟩
  case round =>
    obtain ⟨i, hj, rfl, hNO, hF⟩ := hrel
    have g1 := HC.out _ hF
    by_cases hil : i < D.length
    · obtain ⟨⟨⟨a, b⟩, t⟩, hx⟩ : ∃ x, D[i]? = some x := ⟨_, List.getElem?_eq_getElem hil⟩
      obtain ⟨q, rfl, hq, hcell⟩ := HR.out i _ hx
      obtain ⟨y0, y1⟩ : wr.cell? ⟨q, i * 3, none⟩ = some (.int .i64 a) ∧ wr.cell? ⟨q, i * 3 + 1, none⟩ = some (.int .i64 b) := ⟨hcell wr hF 0 _ rfl, hcell wr hF 1 _ rfl⟩
      have HX := Lib.hid hx
      have HF := Lib.hid hF
      have HQL0 := Lib.hid hq
      clear hcell hx hq hF
      have nx : ¬ (a = k1 ∧ b = k2) → Hid (∀ i' y, i' < i + 1 → D[i']? = some y → y.1 ≠ (k1, k2)) := fun hne => Lib.hid fun i' y hi hy => by
        by_cases hij : i' < i
        · exact hNO.out i' y hij hy
        · obtain rfl : i' = i := by omega
          rw [HX.out] at hy
          cases hy
          intro e
          simp at e
          exact hne e
      by_cases ha : a = k1
      · have ha' : (a == k1) = true := by simpa using ha
        by_cases hb : b = k2
        · have hb' : (b == k2) = true := by simpa using hb
          have hT : tfind D (k1, k2) = some i := tfind_of HX.out (by rw [ha, hb]) hNO.out
          have HFIN : Hid (∀ e W, CanP w g n D i e W → CancP w g n (.slice (some ⟨q, 0, none⟩) D.length cap) D (k1, k2) e W) := Lib.hid fun e W ⟨h1, r', h2, h3, h4⟩ => ⟨by unfold tHas; rw [hT]; exact h1, r', by unfold dcCut; rw [hT]; exact h2, fun k hk => Or.inr (h3 k hk), h4⟩
          clear ha hb nx hT hNO
          obtain ⟨w1, hw1⟩ : ∃ X, wr = X := ⟨_, rfl⟩
          subst hw1
          have HF1 := HF
          have hiI : (i : Int) < D.length := by omega
          have hip : (0 : Int) ≤ i := by omega
          have HGL : Hid (g < wr.heap.size) := Lib.hid (Nat.lt_of_lt_of_le HH.out.st.lt HF1.out.size)
          have HQL : Hid (q < wr.heap.size) := Lib.hid (Nat.lt_of_lt_of_le HQL0.out HF1.out.size)
          have hD : DCk wr.drew g n (.slice (some ⟨q, 0, none⟩) D.length cap) D := (HH.out.fr0 HF1.out).fr0 (Fr.refl [] wr).drew
          have hFd : Fr [g] wr wr.drew := (Fr.refl [g] wr).drew
          have HDEL : Hid (∀ W A2 c2, Blk W g #[.int .i64 n, .slice A2 (i + (D.length - (i + 1))) c2] 134 → W.ownsRow 0 151 3 (.slice A2 (i + (D.length - (i + 1))) c2) (i + (D.length - (i + 1))) ((rowF tmF D).take (i * 3) ++ (rowF tmF D).drop ((i + 1) * 3)) → (∀ k, (Value.slice A2 (i + (D.length - (i + 1))) c2).ownBlock = some k → wr.heap.size ≤ k) → Fr [g] wr W → CanP w g n D i (.returned (.bool true)) W) := Lib.hid fun W A2 c2 h1 h2 h3 h4 => by
            have e1 : (D.eraseIdx i).length = i + (D.length - (i + 1)) := by rw [List.length_eraseIdx, if_pos hil]; omega
            have e2 : (rowF tmF D).take (i * 3) ++ (rowF tmF D).drop ((i + 1) * 3) = rowF tmF (D.eraseIdx i) := by
              rw [rowF_take tmF_len D i (by omega), rowF_drop tmF_len D (i + 1) (by omega), ← rowF_append, List.eraseIdx_eq_take_drop_succ]
            refine ⟨rfl, _, ⟨h1, ?_⟩, fun k hk => Nat.le_trans HF1.out.size (h3 k hk), (HF1.out.mono (by simp)).trans h4⟩
            rw [e1, ← e2]
            exact h2
          obtain ⟨m, hm⟩ : ∃ m : Nat, i + 1 = m := ⟨_, rfl⟩
          rw [hm] at HDEL
          have hci : ¬ cap < i := by omega
          have hmi : IntKind.i64.wrap ((i : Int) + 1) = (m : Int) := by have := HL.out; rw [IntKind.wrap_i64]; omega
          have hm0 : (0 : Int) ≤ m := by omega
          have hm1 : (m : Int) ≤ D.length := by omega
          have hmD : m ≤ D.length := by omega
          have hmp : 0 < m := by omega
          have HM := Lib.hid hm
          clear hm
          obtain ⟨AX, hAX⟩ : ∃ x, (if cap = m then some (⟨q, 0, none⟩ : Addr) else some ⟨q, m * 3, none⟩) = x := ⟨_, rfl⟩
          go_wp2_with fail
          clear g1 y0 y1
          refine wp_region_held_drew (S := (fun W => Fr [g] wr W)) (by kernel_rfl) ?_ (fun hHeld => ?_)
          · (try dsimp only); exact hFd
          obtain ⟨v0, hv⟩ : ∃ X, wr.drew = X := ⟨_, rfl⟩
          rw [hv] at hHeld hD ⊢
          clear hv hFd
          refine take_yes 0 39 rfl rfl (by kernel_rfl) (by kernel_rfl) (by kernel_rfl) (fun _ _ _ h => h) (by rfl) (by assumption) (v := ?_) ?_ ?_
          rotate_left
          · intro w hSw; (try dsimp only at hSw); go_simp; (try with_reducible rfl)
          try simp only [Act.put, List.setIfInBounds_toArray, List.set_cons_zero, List.set_cons_succ]
          refine take_yes 1 40 rfl rfl (by kernel_rfl) (by kernel_rfl) (by kernel_rfl) (fun _ _ _ h => h) (by rfl) (by assumption) (v := ?_) ?_ ?_
          rotate_left
          · intro w hSw; (try dsimp only at hSw); go_simp; (try with_reducible rfl)
          try simp only [Act.put, List.setIfInBounds_toArray, List.set_cons_zero, List.set_cons_succ]
          refine take_yes 2 41 rfl rfl (by kernel_rfl) (by kernel_rfl) (by kernel_rfl) (fun _ _ _ h => h) (by rfl) (by assumption) (v := ?_) ?_ ?_
          rotate_left
          · intro w hSw; (try dsimp only at hSw); go_simp; (try with_reducible rfl)
          try simp only [Act.put, List.setIfInBounds_toArray, List.set_cons_zero, List.set_cons_succ]
          refine take_yes 3 42 rfl rfl (by kernel_rfl) (by kernel_rfl) (by kernel_rfl) (fun _ _ _ h => h) (by rfl) (by assumption) (v := ?_) ?_ ?_
          rotate_left
          · intro w hSw; (try dsimp only at hSw); go_simp; (try with_reducible rfl)
          try simp only [Act.put, List.setIfInBounds_toArray, List.set_cons_zero, List.set_cons_succ]
          refine take_yes 5 44 rfl rfl (by kernel_rfl) (by kernel_rfl) (by kernel_rfl) (fun _ _ _ h => h) (by rfl) (by assumption) (v := ?_) ?_ ?_
          rotate_left
          · intro w hSw; (try dsimp only at hSw); go_simp; (try with_reducible rfl)
          try simp only [Act.put, List.setIfInBounds_toArray, List.set_cons_zero, List.set_cons_succ]
          refine take_yes 8 47 rfl rfl (by kernel_rfl) (by kernel_rfl) (by kernel_rfl) (fun _ _ _ h => h) (by rfl) (by assumption) (v := ?_) ?_ ?_
          rotate_left
          · intro w hSw; (try dsimp only at hSw); go_simp; (try with_reducible rfl)
          try simp only [Act.put, List.setIfInBounds_toArray, List.set_cons_zero, List.set_cons_succ]
          refine take_yes 9 48 rfl rfl (by kernel_rfl) (by kernel_rfl) (by kernel_rfl) (fun _ _ _ h => h) (by rfl) (by assumption) (v := ?_) ?_ ?_
          rotate_left
          · intro w hSw; (try dsimp only at hSw); go_simp; (try with_reducible rfl)
          try simp only [Act.put, List.setIfInBounds_toArray, List.set_cons_zero, List.set_cons_succ]
          refine take_yes 10 49 rfl rfl (by kernel_rfl) (by kernel_rfl) (by kernel_rfl) (fun _ _ _ h => h) (by rfl) (by assumption) (v := ?_) ?_ ?_
          rotate_left
          · intro w hSw; (try dsimp only at hSw); go_simp; (try with_reducible rfl)
          try simp only [Act.put, List.setIfInBounds_toArray, List.set_cons_zero, List.set_cons_succ]
          refine take_yes 12 51 rfl rfl (by kernel_rfl) (by kernel_rfl) (by kernel_rfl) (fun _ _ _ h => h) (by rfl) (by assumption) (v := ?_) ?_ ?_
          rotate_left
          · intro w hSw; (try dsimp only at hSw); go_simp; (try with_reducible rfl)
          try simp only [Act.put, List.setIfInBounds_toArray, List.set_cons_zero, List.set_cons_succ]
          refine take_yes 13 52 rfl rfl (by kernel_rfl) (by kernel_rfl) (by kernel_rfl) (fun _ _ _ h => h) (by rfl) (by assumption) (v := ?_) ?_ ?_
          rotate_left
          · intro w hSw; (try dsimp only at hSw); go_simp; (try with_reducible rfl)
          try simp only [Act.put, List.setIfInBounds_toArray, List.set_cons_zero, List.set_cons_succ]
          refine wpAnyH_ready (rs := [4, 11]) (by kernel_rfl) (by simp) ?_
          refine AllReadyH.cons (o := _) rfl (fun K hK => ?_) ?_
          · have c2 : v0.cell? ⟨g, 1, none⟩ = some (.slice (some ⟨q, 0, none⟩) D.length cap) := hD.st.c 1 _ rfl
            go_simp
            (try go_wp2_with fail)
            refine hK.out _ _ ?_ (fun hHeld1 => ?_)
            · (try dsimp only); exact hHeld
            clear hK K c2 hHeld1
            try simp only [Act.put, List.setIfInBounds_toArray, List.set_cons_zero, List.set_cons_succ]
            refine take_yes 6 45 rfl rfl (by kernel_rfl) (by kernel_rfl) (by kernel_rfl) (fun _ _ _ h => h) (by rfl) (by assumption) (v := .slice (some ⟨q, 0, none⟩) i cap) ?_ ?_
            · intro w hSw; (try dsimp only at hSw); go_simp
            try simp only [Act.put, List.setIfInBounds_toArray, List.set_cons_zero, List.set_cons_succ]
            refine wpAnyH_ready (rs := [7, 11]) (by kernel_rfl) (by simp) ?_
            refine AllReadyH.cons (o := _) rfl (fun K hK => ?_) ?_
            · rw [if_pos (by rfl)]
              (try simp only [List.getElem_toArray, List.getElem_cons_succ, List.getElem_cons_zero])
              have hrd := reads_take (Reads.of_own hD.row) (k := i) (by omega)
              refine wp_app _ 46 rfl (.const (.slice none 0 0)) (.tmp 45) 132 rfl 0 151 i0 (.agg #[.int .i64 0, .int .i64 0, .int .i64 0]) 3 24 Tryz.underlying132 hi0 hz0 hz1 hz2 rfl (by decide) _ 0 _ (by rfl) (World.ownsRow_nil _ 0 _ _) _ _ _ _ _ (by rfl) hrd (fun u hu => rowF_one' tmF_one D u (List.mem_of_mem_take hu)) ?_ ?_ (Nat.zero_le _) ?_
              · have := HL.out; unfold maxLen; omega
              · have := HL.out; omega
              intro va v1 hownA hgrA hrowA
              rw [Nat.zero_add, List.nil_append] at hownA
              have hFg := Fr.of_row hgrA
              have hD2 : DCk v1 g n (.slice (some ⟨q, 0, none⟩) D.length cap) D := hD.frS hFg (by simp [Value.ownBlock]) (fun k hk => by simp [Value.ownBlock])
              have hHeld2 : Fr [g] wr v1 := hHeld.grown hgrA (fun k hk => by cases hk)
              have hfa : ∀ k, va.ownBlock = some k → wr.heap.size ≤ k := fun k hk => by
                rcases hrowA with h | h
                · rw [h] at hk; cases hk
                · rw [h] at hk; cases hk; exact hHeld.size
              have hqA : ∀ k, (Value.slice (some ⟨q, 0, none⟩) D.length cap).ownBlock = some k → va.ownBlock ≠ some k := fun k hk e => by
                have h1 := hfa k e
                have h2 := HQL.out
                have h3 : q = k := by simpa [Value.ownBlock] using hk
                subst h3
                omega
              have hgA : va.ownBlock ≠ some g := fun e => by
                have h1 := hfa g e
                have h2 := HGL.out
                omega
              clear hFg hgrA hrowA hrd
              refine hK.out _ _ ?_ (fun hHeld3 => ?_)
              · (try dsimp only); exact hHeld2
              clear hK K hHeld hD
              have hHeld := hHeld2
              have hD := hD2
              clear hHeld2 hHeld3 hD2
              try simp only [Act.put, List.setIfInBounds_toArray, List.set_cons_zero, List.set_cons_succ]
              refine wpAnyH_ready (rs := [11]) (by kernel_rfl) (by simp) ?_
              refine AllReadyH.cons (o := _) rfl (fun K hK => ?_) AllReadyH.nil
              have c2 : v1.cell? ⟨g, 1, none⟩ = some (.slice (some ⟨q, 0, none⟩) D.length cap) := hD.st.c 1 _ rfl
              go_simp
              (try go_wp2_with fail)
              refine hK.out _ _ ?_ (fun hHeld1 => ?_)
              · (try dsimp only); exact hHeld
              clear hK K c2 hHeld1
              try simp only [Act.put, List.setIfInBounds_toArray, List.set_cons_zero, List.set_cons_succ]
              refine take_yes 14 53 rfl rfl (by kernel_rfl) (by kernel_rfl) (by kernel_rfl) (fun _ _ _ h => h) (by rfl) (by assumption) (v := .slice AX (D.length - m) (cap - m)) ?_ ?_
              · intro w hSw; (try dsimp only at hSw); go_simp
              try simp only [Act.put, List.setIfInBounds_toArray, List.set_cons_zero, List.set_cons_succ]
              refine wpAnyH_ready (rs := [15]) (by kernel_rfl) (by simp) ?_
              refine AllReadyH.cons (o := _) rfl (fun K hK => ?_) AllReadyH.nil
              rw [if_pos (by rfl)]
              (try simp only [List.getElem_toArray, List.getElem_cons_succ, List.getElem_cons_zero])
              have hrd : Reads v1 v1.heap.size 3 AX (D.length - m) ((rowF tmF D).drop (m * 3)) := by
                rw [← hAX]
                have := (Reads.of_own hD.row).cut (k := m) (cap := cap) (by omega) hcp.1
                have hm5 : ¬ m * 3 = 0 := by omega
                simpa [Addr.add, hm5] using this
              clear hAX
              refine wp_app _ 54 rfl (.tmp 46) (.tmp 53) 132 rfl 0 151 i0 (.agg #[.int .i64 0, .int .i64 0, .int .i64 0]) 3 24 Tryz.underlying132 hi0 hz0 hz1 hz2 rfl (by decide) _ i _ (by rfl) hownA _ _ _ _ _ (by rfl) hrd (fun u hu => rowF_one' tmF_one D u (List.mem_of_mem_drop hu)) ?_ ?_ (Nat.zero_le _) ?_
              · have := HL.out; unfold maxLen; omega
              · have := HL.out; omega
              intro vb v2 hownB hgrB hrowB
              have hFg := Fr.of_row hgrB
              have hD2 : DCk v2 g n (.slice (some ⟨q, 0, none⟩) D.length cap) D := hD.frS hFg (by simpa using hgA) (fun k hk => by simpa using hqA k hk)
              have hHeld2 : Fr [g] wr v2 := hHeld.grown hgrB (fun k hk => hfa k hk)
              have hfr : ∀ k, vb.ownBlock = some k → wr.heap.size ≤ k := fun k hk => by
                rcases hrowB with h | h
                · exact hfa k (h ▸ hk)
                · rw [h] at hk; cases hk; exact hHeld.size
              obtain ⟨A2, c2, rfl⟩ := rown_slice hownB
              clear hFg hgrB hrowB hownA hgA hqA hfa hrd
              refine hK.out _ _ ?_ (fun hHeld3 => ?_)
              · (try dsimp only); exact hHeld2
              clear hK K hHeld hD
              have hHeld := hHeld2
              have hD := hD2
              clear hHeld2 hHeld3 hD2
              try simp only [Act.put, List.setIfInBounds_toArray, List.set_cons_zero, List.set_cons_succ]
              refine take_yes 16 55 rfl rfl (by kernel_rfl) (by kernel_rfl) (by kernel_rfl) (fun _ _ _ h => h) (by rfl) (by assumption) (v := ?_) ?_ ?_
              rotate_left
              · intro w hSw; (try dsimp only at hSw); go_simp; (try with_reducible rfl)
              try simp only [Act.put, List.setIfInBounds_toArray, List.set_cons_zero, List.set_cons_succ]
              refine take_yes 17 56 rfl rfl (by kernel_rfl) (by kernel_rfl) (by kernel_rfl) (fun _ _ _ h => h) (by rfl) (by assumption) (v := ?_) ?_ ?_
              rotate_left
              · intro w hSw; (try dsimp only at hSw); go_simp; (try with_reducible rfl)
              try simp only [Act.put, List.setIfInBounds_toArray, List.set_cons_zero, List.set_cons_succ]
              have f2 := hD.st.fz 1
              have c2y : v2.cell? ⟨g, 1, none⟩ = some (.slice (some ⟨q, 0, none⟩) D.length cap) := hD.st.c 1 _ rfl
              refine wpAnyH_ready (rs := [18]) (by kernel_rfl) (by simp) ?_
              refine AllReadyH.cons (o := _) rfl (fun K hK => ?_) AllReadyH.nil
              go_simp
              (try go_wp2_with fail)
              have hSt : Blk (v2.setCell ⟨g, 1, none⟩ (.slice A2 (i + (D.length - m)) c2)) g #[.int .i64 n, .slice A2 (i + (D.length - m)) c2] 134 := by
                have := hD.st.set 1 (.slice A2 (i + (D.length - m)) c2)
                simpa using this
              have hFs : Fr [g] v2 (v2.setCell ⟨g, 1, none⟩ (.slice A2 (i + (D.length - m)) c2)) := (Fr.refl [g] v2).setCell (p := ⟨g, 1, none⟩) (by simp) (.slice A2 (i + (D.length - m)) c2)
              have hFZ := hHeld.trans hFs
              have hgB : ∀ k, (Value.slice A2 (i + (D.length - m)) c2).ownBlock = some k → k ≠ g := fun k hk e => by
                obtain ⟨cur, hc⟩ := rown_blk hownB k hk
                subst e
                exact hc.neT hD.st (by decide) rfl
              have HZ : Hid (CanP w g n D i (.returned (.bool true)) (v2.setCell ⟨g, 1, none⟩ (.slice A2 (i + (D.length - m)) c2))) := Lib.hid (HDEL.out _ _ _ hSt (rown_frS hownB hFs (fun k hk => by simpa using hgB k hk)) hfr hFZ)
              refine hK.out _ _ ?_ (fun hHeld1 => ?_)
              · (try dsimp only); exact hFZ
              clear hK K
              try simp only [Act.put, List.setIfInBounds_toArray, List.set_cons_zero, List.set_cons_succ]
              refine wpAnyH_done (by kernel_rfl) ?_ _
              clear hD hownB hSt hFs hFZ hHeld hHeld1 hgB f2 c2y hfr
              go_wp2_with fail
              go_ret
              exact HFIN.out _ _ HZ.out
            refine AllReadyH.cons (o := _) rfl (fun K hK => ?_) AllReadyH.nil
            have c2 : v0.cell? ⟨g, 1, none⟩ = some (.slice (some ⟨q, 0, none⟩) D.length cap) := hD.st.c 1 _ rfl
            go_simp
            (try go_wp2_with fail)
            refine hK.out _ _ ?_ (fun hHeld1 => ?_)
            · (try dsimp only); exact hHeld
            clear hK K c2 hHeld1
            try simp only [Act.put, List.setIfInBounds_toArray, List.set_cons_zero, List.set_cons_succ]
            refine take_yes 14 53 rfl rfl (by kernel_rfl) (by kernel_rfl) (by kernel_rfl) (fun _ _ _ h => h) (by rfl) (by assumption) (v := .slice AX (D.length - m) (cap - m)) ?_ ?_
            · intro w hSw; (try dsimp only at hSw); go_simp
            try simp only [Act.put, List.setIfInBounds_toArray, List.set_cons_zero, List.set_cons_succ]
            refine wpAnyH_ready (rs := [7]) (by kernel_rfl) (by simp) ?_
            refine AllReadyH.cons (o := _) rfl (fun K hK => ?_) AllReadyH.nil
            rw [if_pos (by rfl)]
            (try simp only [List.getElem_toArray, List.getElem_cons_succ, List.getElem_cons_zero])
            have hrd := reads_take (Reads.of_own hD.row) (k := i) (by omega)
            refine wp_app _ 46 rfl (.const (.slice none 0 0)) (.tmp 45) 132 rfl 0 151 i0 (.agg #[.int .i64 0, .int .i64 0, .int .i64 0]) 3 24 Tryz.underlying132 hi0 hz0 hz1 hz2 rfl (by decide) _ 0 _ (by rfl) (World.ownsRow_nil _ 0 _ _) _ _ _ _ _ (by rfl) hrd (fun u hu => rowF_one' tmF_one D u (List.mem_of_mem_take hu)) ?_ ?_ (Nat.zero_le _) ?_
            · have := HL.out; unfold maxLen; omega
            · have := HL.out; omega
            intro va v1 hownA hgrA hrowA
            rw [Nat.zero_add, List.nil_append] at hownA
            have hFg := Fr.of_row hgrA
            have hD2 : DCk v1 g n (.slice (some ⟨q, 0, none⟩) D.length cap) D := hD.frS hFg (by simp [Value.ownBlock]) (fun k hk => by simp [Value.ownBlock])
            have hHeld2 : Fr [g] wr v1 := hHeld.grown hgrA (fun k hk => by cases hk)
            have hfa : ∀ k, va.ownBlock = some k → wr.heap.size ≤ k := fun k hk => by
              rcases hrowA with h | h
              · rw [h] at hk; cases hk
              · rw [h] at hk; cases hk; exact hHeld.size
            have hqA : ∀ k, (Value.slice (some ⟨q, 0, none⟩) D.length cap).ownBlock = some k → va.ownBlock ≠ some k := fun k hk e => by
              have h1 := hfa k e
              have h2 := HQL.out
              have h3 : q = k := by simpa [Value.ownBlock] using hk
              subst h3
              omega
            have hgA : va.ownBlock ≠ some g := fun e => by
              have h1 := hfa g e
              have h2 := HGL.out
              omega
            clear hFg hgrA hrowA hrd
            refine hK.out _ _ ?_ (fun hHeld3 => ?_)
            · (try dsimp only); exact hHeld2
            clear hK K hHeld hD
            have hHeld := hHeld2
            have hD := hD2
            clear hHeld2 hHeld3 hD2
            try simp only [Act.put, List.setIfInBounds_toArray, List.set_cons_zero, List.set_cons_succ]
            refine wpAnyH_ready (rs := [15]) (by kernel_rfl) (by simp) ?_
            refine AllReadyH.cons (o := _) rfl (fun K hK => ?_) AllReadyH.nil
            rw [if_pos (by rfl)]
            (try simp only [List.getElem_toArray, List.getElem_cons_succ, List.getElem_cons_zero])
            have hrd : Reads v1 v1.heap.size 3 AX (D.length - m) ((rowF tmF D).drop (m * 3)) := by
              rw [← hAX]
              have := (Reads.of_own hD.row).cut (k := m) (cap := cap) (by omega) hcp.1
              have hm5 : ¬ m * 3 = 0 := by omega
              simpa [Addr.add, hm5] using this
            clear hAX
            refine wp_app _ 54 rfl (.tmp 46) (.tmp 53) 132 rfl 0 151 i0 (.agg #[.int .i64 0, .int .i64 0, .int .i64 0]) 3 24 Tryz.underlying132 hi0 hz0 hz1 hz2 rfl (by decide) _ i _ (by rfl) hownA _ _ _ _ _ (by rfl) hrd (fun u hu => rowF_one' tmF_one D u (List.mem_of_mem_drop hu)) ?_ ?_ (Nat.zero_le _) ?_
            · have := HL.out; unfold maxLen; omega
            · have := HL.out; omega
            intro vb v2 hownB hgrB hrowB
            have hFg := Fr.of_row hgrB
            have hD2 : DCk v2 g n (.slice (some ⟨q, 0, none⟩) D.length cap) D := hD.frS hFg (by simpa using hgA) (fun k hk => by simpa using hqA k hk)
            have hHeld2 : Fr [g] wr v2 := hHeld.grown hgrB (fun k hk => hfa k hk)
            have hfr : ∀ k, vb.ownBlock = some k → wr.heap.size ≤ k := fun k hk => by
              rcases hrowB with h | h
              · exact hfa k (h ▸ hk)
              · rw [h] at hk; cases hk; exact hHeld.size
            obtain ⟨A2, c2, rfl⟩ := rown_slice hownB
            clear hFg hgrB hrowB hownA hgA hqA hfa hrd
            refine hK.out _ _ ?_ (fun hHeld3 => ?_)
            · (try dsimp only); exact hHeld2
            clear hK K hHeld hD
            have hHeld := hHeld2
            have hD := hD2
            clear hHeld2 hHeld3 hD2
            try simp only [Act.put, List.setIfInBounds_toArray, List.set_cons_zero, List.set_cons_succ]
            refine take_yes 16 55 rfl rfl (by kernel_rfl) (by kernel_rfl) (by kernel_rfl) (fun _ _ _ h => h) (by rfl) (by assumption) (v := ?_) ?_ ?_
            rotate_left
            · intro w hSw; (try dsimp only at hSw); go_simp; (try with_reducible rfl)
            try simp only [Act.put, List.setIfInBounds_toArray, List.set_cons_zero, List.set_cons_succ]
            refine take_yes 17 56 rfl rfl (by kernel_rfl) (by kernel_rfl) (by kernel_rfl) (fun _ _ _ h => h) (by rfl) (by assumption) (v := ?_) ?_ ?_
            rotate_left
            · intro w hSw; (try dsimp only at hSw); go_simp; (try with_reducible rfl)
            try simp only [Act.put, List.setIfInBounds_toArray, List.set_cons_zero, List.set_cons_succ]
            have f2 := hD.st.fz 1
            have c2y : v2.cell? ⟨g, 1, none⟩ = some (.slice (some ⟨q, 0, none⟩) D.length cap) := hD.st.c 1 _ rfl
            refine wpAnyH_ready (rs := [18]) (by kernel_rfl) (by simp) ?_
            refine AllReadyH.cons (o := _) rfl (fun K hK => ?_) AllReadyH.nil
            go_simp
            (try go_wp2_with fail)
            have hSt : Blk (v2.setCell ⟨g, 1, none⟩ (.slice A2 (i + (D.length - m)) c2)) g #[.int .i64 n, .slice A2 (i + (D.length - m)) c2] 134 := by
              have := hD.st.set 1 (.slice A2 (i + (D.length - m)) c2)
              simpa using this
            have hFs : Fr [g] v2 (v2.setCell ⟨g, 1, none⟩ (.slice A2 (i + (D.length - m)) c2)) := (Fr.refl [g] v2).setCell (p := ⟨g, 1, none⟩) (by simp) (.slice A2 (i + (D.length - m)) c2)
            have hFZ := hHeld.trans hFs
            have hgB : ∀ k, (Value.slice A2 (i + (D.length - m)) c2).ownBlock = some k → k ≠ g := fun k hk e => by
              obtain ⟨cur, hc⟩ := rown_blk hownB k hk
              subst e
              exact hc.neT hD.st (by decide) rfl
            have HZ : Hid (CanP w g n D i (.returned (.bool true)) (v2.setCell ⟨g, 1, none⟩ (.slice A2 (i + (D.length - m)) c2))) := Lib.hid (HDEL.out _ _ _ hSt (rown_frS hownB hFs (fun k hk => by simpa using hgB k hk)) hfr hFZ)
            refine hK.out _ _ ?_ (fun hHeld1 => ?_)
            · (try dsimp only); exact hFZ
            clear hK K
            try simp only [Act.put, List.setIfInBounds_toArray, List.set_cons_zero, List.set_cons_succ]
            refine wpAnyH_done (by kernel_rfl) ?_ _
            clear hD hownB hSt hFs hFZ hHeld hHeld1 hgB f2 c2y hfr
            go_wp2_with fail
            go_ret
            exact HFIN.out _ _ HZ.out
          refine AllReadyH.cons (o := _) rfl (fun K hK => ?_) AllReadyH.nil
          have c2 : v0.cell? ⟨g, 1, none⟩ = some (.slice (some ⟨q, 0, none⟩) D.length cap) := hD.st.c 1 _ rfl
          go_simp
          (try go_wp2_with fail)
          refine hK.out _ _ ?_ (fun hHeld1 => ?_)
          · (try dsimp only); exact hHeld
          clear hK K c2 hHeld1
          try simp only [Act.put, List.setIfInBounds_toArray, List.set_cons_zero, List.set_cons_succ]
          refine take_yes 14 53 rfl rfl (by kernel_rfl) (by kernel_rfl) (by kernel_rfl) (fun _ _ _ h => h) (by rfl) (by assumption) (v := .slice AX (D.length - m) (cap - m)) ?_ ?_
          · intro w hSw; (try dsimp only at hSw); go_simp
          try simp only [Act.put, List.setIfInBounds_toArray, List.set_cons_zero, List.set_cons_succ]
          refine wpAnyH_ready (rs := [4]) (by kernel_rfl) (by simp) ?_
          refine AllReadyH.cons (o := _) rfl (fun K hK => ?_) AllReadyH.nil
          have c2 : v0.cell? ⟨g, 1, none⟩ = some (.slice (some ⟨q, 0, none⟩) D.length cap) := hD.st.c 1 _ rfl
          go_simp
          (try go_wp2_with fail)
          refine hK.out _ _ ?_ (fun hHeld1 => ?_)
          · (try dsimp only); exact hHeld
          clear hK K c2 hHeld1
          try simp only [Act.put, List.setIfInBounds_toArray, List.set_cons_zero, List.set_cons_succ]
          refine take_yes 6 45 rfl rfl (by kernel_rfl) (by kernel_rfl) (by kernel_rfl) (fun _ _ _ h => h) (by rfl) (by assumption) (v := .slice (some ⟨q, 0, none⟩) i cap) ?_ ?_
          · intro w hSw; (try dsimp only at hSw); go_simp
          try simp only [Act.put, List.setIfInBounds_toArray, List.set_cons_zero, List.set_cons_succ]
          refine wpAnyH_ready (rs := [7]) (by kernel_rfl) (by simp) ?_
          refine AllReadyH.cons (o := _) rfl (fun K hK => ?_) AllReadyH.nil
          rw [if_pos (by rfl)]
          (try simp only [List.getElem_toArray, List.getElem_cons_succ, List.getElem_cons_zero])
          have hrd := reads_take (Reads.of_own hD.row) (k := i) (by omega)
          refine wp_app _ 46 rfl (.const (.slice none 0 0)) (.tmp 45) 132 rfl 0 151 i0 (.agg #[.int .i64 0, .int .i64 0, .int .i64 0]) 3 24 Tryz.underlying132 hi0 hz0 hz1 hz2 rfl (by decide) _ 0 _ (by rfl) (World.ownsRow_nil _ 0 _ _) _ _ _ _ _ (by rfl) hrd (fun u hu => rowF_one' tmF_one D u (List.mem_of_mem_take hu)) ?_ ?_ (Nat.zero_le _) ?_
          · have := HL.out; unfold maxLen; omega
          · have := HL.out; omega
          intro va v1 hownA hgrA hrowA
          rw [Nat.zero_add, List.nil_append] at hownA
          have hFg := Fr.of_row hgrA
          have hD2 : DCk v1 g n (.slice (some ⟨q, 0, none⟩) D.length cap) D := hD.frS hFg (by simp [Value.ownBlock]) (fun k hk => by simp [Value.ownBlock])
          have hHeld2 : Fr [g] wr v1 := hHeld.grown hgrA (fun k hk => by cases hk)
          have hfa : ∀ k, va.ownBlock = some k → wr.heap.size ≤ k := fun k hk => by
            rcases hrowA with h | h
            · rw [h] at hk; cases hk
            · rw [h] at hk; cases hk; exact hHeld.size
          have hqA : ∀ k, (Value.slice (some ⟨q, 0, none⟩) D.length cap).ownBlock = some k → va.ownBlock ≠ some k := fun k hk e => by
            have h1 := hfa k e
            have h2 := HQL.out
            have h3 : q = k := by simpa [Value.ownBlock] using hk
            subst h3
            omega
          have hgA : va.ownBlock ≠ some g := fun e => by
            have h1 := hfa g e
            have h2 := HGL.out
            omega
          clear hFg hgrA hrowA hrd
          refine hK.out _ _ ?_ (fun hHeld3 => ?_)
          · (try dsimp only); exact hHeld2
          clear hK K hHeld hD
          have hHeld := hHeld2
          have hD := hD2
          clear hHeld2 hHeld3 hD2
          try simp only [Act.put, List.setIfInBounds_toArray, List.set_cons_zero, List.set_cons_succ]
          refine wpAnyH_ready (rs := [15]) (by kernel_rfl) (by simp) ?_
          refine AllReadyH.cons (o := _) rfl (fun K hK => ?_) AllReadyH.nil
          rw [if_pos (by rfl)]
          (try simp only [List.getElem_toArray, List.getElem_cons_succ, List.getElem_cons_zero])
          have hrd : Reads v1 v1.heap.size 3 AX (D.length - m) ((rowF tmF D).drop (m * 3)) := by
            rw [← hAX]
            have := (Reads.of_own hD.row).cut (k := m) (cap := cap) (by omega) hcp.1
            have hm5 : ¬ m * 3 = 0 := by omega
            simpa [Addr.add, hm5] using this
          clear hAX
          refine wp_app _ 54 rfl (.tmp 46) (.tmp 53) 132 rfl 0 151 i0 (.agg #[.int .i64 0, .int .i64 0, .int .i64 0]) 3 24 Tryz.underlying132 hi0 hz0 hz1 hz2 rfl (by decide) _ i _ (by rfl) hownA _ _ _ _ _ (by rfl) hrd (fun u hu => rowF_one' tmF_one D u (List.mem_of_mem_drop hu)) ?_ ?_ (Nat.zero_le _) ?_
          · have := HL.out; unfold maxLen; omega
          · have := HL.out; omega
          intro vb v2 hownB hgrB hrowB
          have hFg := Fr.of_row hgrB
          have hD2 : DCk v2 g n (.slice (some ⟨q, 0, none⟩) D.length cap) D := hD.frS hFg (by simpa using hgA) (fun k hk => by simpa using hqA k hk)
          have hHeld2 : Fr [g] wr v2 := hHeld.grown hgrB (fun k hk => hfa k hk)
          have hfr : ∀ k, vb.ownBlock = some k → wr.heap.size ≤ k := fun k hk => by
            rcases hrowB with h | h
            · exact hfa k (h ▸ hk)
            · rw [h] at hk; cases hk; exact hHeld.size
          obtain ⟨A2, c2, rfl⟩ := rown_slice hownB
          clear hFg hgrB hrowB hownA hgA hqA hfa hrd
          refine hK.out _ _ ?_ (fun hHeld3 => ?_)
          · (try dsimp only); exact hHeld2
          clear hK K hHeld hD
          have hHeld := hHeld2
          have hD := hD2
          clear hHeld2 hHeld3 hD2
          try simp only [Act.put, List.setIfInBounds_toArray, List.set_cons_zero, List.set_cons_succ]
          refine take_yes 16 55 rfl rfl (by kernel_rfl) (by kernel_rfl) (by kernel_rfl) (fun _ _ _ h => h) (by rfl) (by assumption) (v := ?_) ?_ ?_
          rotate_left
          · intro w hSw; (try dsimp only at hSw); go_simp; (try with_reducible rfl)
          try simp only [Act.put, List.setIfInBounds_toArray, List.set_cons_zero, List.set_cons_succ]
          refine take_yes 17 56 rfl rfl (by kernel_rfl) (by kernel_rfl) (by kernel_rfl) (fun _ _ _ h => h) (by rfl) (by assumption) (v := ?_) ?_ ?_
          rotate_left
          · intro w hSw; (try dsimp only at hSw); go_simp; (try with_reducible rfl)
          try simp only [Act.put, List.setIfInBounds_toArray, List.set_cons_zero, List.set_cons_succ]
          have f2 := hD.st.fz 1
          have c2y : v2.cell? ⟨g, 1, none⟩ = some (.slice (some ⟨q, 0, none⟩) D.length cap) := hD.st.c 1 _ rfl
          refine wpAnyH_ready (rs := [18]) (by kernel_rfl) (by simp) ?_
          refine AllReadyH.cons (o := _) rfl (fun K hK => ?_) AllReadyH.nil
          go_simp
          (try go_wp2_with fail)
          have hSt : Blk (v2.setCell ⟨g, 1, none⟩ (.slice A2 (i + (D.length - m)) c2)) g #[.int .i64 n, .slice A2 (i + (D.length - m)) c2] 134 := by
            have := hD.st.set 1 (.slice A2 (i + (D.length - m)) c2)
            simpa using this
          have hFs : Fr [g] v2 (v2.setCell ⟨g, 1, none⟩ (.slice A2 (i + (D.length - m)) c2)) := (Fr.refl [g] v2).setCell (p := ⟨g, 1, none⟩) (by simp) (.slice A2 (i + (D.length - m)) c2)
          have hFZ := hHeld.trans hFs
          have hgB : ∀ k, (Value.slice A2 (i + (D.length - m)) c2).ownBlock = some k → k ≠ g := fun k hk e => by
            obtain ⟨cur, hc⟩ := rown_blk hownB k hk
            subst e
            exact hc.neT hD.st (by decide) rfl
          have HZ : Hid (CanP w g n D i (.returned (.bool true)) (v2.setCell ⟨g, 1, none⟩ (.slice A2 (i + (D.length - m)) c2))) := Lib.hid (HDEL.out _ _ _ hSt (rown_frS hownB hFs (fun k hk => by simpa using hgB k hk)) hfr hFZ)
          refine hK.out _ _ ?_ (fun hHeld1 => ?_)
          · (try dsimp only); exact hFZ
          clear hK K
          try simp only [Act.put, List.setIfInBounds_toArray, List.set_cons_zero, List.set_cons_succ]
          refine wpAnyH_done (by kernel_rfl) ?_ _
          clear hD hownB hSt hFs hFZ hHeld hHeld1 hgB f2 c2y hfr
          go_wp2_with fail
          go_ret
          exact HFIN.out _ _ HZ.out
        · have hb' : (b == k2) = false := by simpa using hb
          have NX := nx (fun h => hb h.2)
          clear ha hb nx
          go_wp2_with fail
          go_roundw
          case rel => exact ⟨i + 1, by omega, by go_num, NX, HF.out⟩
          case measure => (simp [intOf]) <;> omega
      · have ha' : (a == k1) = false := by simpa using ha
        have NX := nx (fun h => ha h.1)
        clear ha nx
        go_wp2_with fail
        go_roundw
        case rel => exact ⟨i + 1, by omega, by go_num, NX, HF.out⟩
        case measure => (simp [intOf]) <;> omega
    · obtain rfl : i = D.length := by omega
      have hT : tfind D (k1, k2) = none := tfind_none_of fun i y hy => hNO.out i y (List.getElem?_eq_some_iff.1 hy).1 hy
      have HEND : Hid (CancP w g n (.slice A D.length cap) D (k1, k2) (.returned (.bool false)) wr) := Lib.hid ⟨by unfold tHas; rw [hT]; rfl, _, by unfold dcCut; rw [hT]; exact HH.out.fr0 hF, fun k hk => Or.inl hk, hF.mono (by simp)⟩
      clear hT hF
      go_wp2_with fail
      go_ret
      exact HEND.out
end
end Go.Proofs.YtfchbppfbepelaaGreat
