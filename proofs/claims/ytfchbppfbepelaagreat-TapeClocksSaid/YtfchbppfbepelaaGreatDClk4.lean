/- the document's clock: Tick (printed by tools/gen_dclk4.py). -/
import Derived.Test.YtfchbppfbepelaaGreatDClk3
import Derived.Deep.DeepCutAuto
namespace Go.Proofs.YtfchbppfbepelaaGreat
open Go.RowKit
set_option linter.unusedVariables false
/-- where a timer goes: behind those of its time and of an earlier time -/
def tpos (l : List DT) (t : Int) : Nat → Nat
  | 0 => 0
  | k + 1 => if t < (l.getD k ((0, 0), 0)).2 then tpos l t k else k + 1
def tins (l : List DT) (x : DT) : List DT := l.take (tpos l x.2 l.length) ++ x :: l.drop (tpos l x.2 l.length)
def tst (N : Int) (s : List DT × List DT) (x : DT) : List DT × List DT := if N < x.2 then (s.1, s.2 ++ [x]) else (tins s.1 x, s.2)
def tfold (N : Int) (l : List DT) : List DT × List DT := l.foldl (tst N) ([], [])
def tlater (n a : Int) : Int := min (n + a) 1152921504606846976
theorem tpos_le (l : List DT) (t : Int) : ∀ k, tpos l t k ≤ k
  | 0 => Nat.le_refl _
  | k + 1 => by
    unfold tpos
    split
    · exact Nat.le_succ_of_le (tpos_le l t k)
    · exact Nat.le_refl _
theorem tins_len (l : List DT) (x : DT) : (tins l x).length = l.length + 1 := by
  have := tpos_le l x.2 l.length
  unfold tins
  simp
  omega
theorem tfold_snoc (N : Int) (l : List DT) (x : DT) : tfold N (l ++ [x]) = tst N (tfold N l) x := by unfold tfold; rw [List.foldl_append]; rfl
theorem tst_len (N : Int) (s : List DT × List DT) (x : DT) : (tst N s x).1.length + (tst N s x).2.length = s.1.length + s.2.length + 1 := by
  unfold tst
  split
  · simp; omega
  · simp [tins_len]; omega
theorem tfold_len (N : Int) : ∀ l, (tfold N l).1.length + (tfold N l).2.length = l.length := fun l => by
  have : ∀ (l : List DT) (s : List DT × List DT), (l.foldl (tst N) s).1.length + (l.foldl (tst N) s).2.length = s.1.length + s.2.length + l.length := by
    intro l
    induction l with
    | nil => intro s; rfl
    | cons x l ih => intro s; rw [List.foldl_cons, ih, tst_len]; simp; omega
  have := this l ([], [])
  simpa [tfold] using this
theorem tfold_take (N : Int) (D : List DT) (i : Nat) (x : DT) (h : D[i]? = some x) : tfold N (D.take (i + 1)) = tst N (tfold N (D.take i)) x := by
  obtain ⟨hi, hg⟩ := List.getElem?_eq_some_iff.1 h
  rw [List.take_succ_eq_append_getElem hi, hg, tfold_snoc]
theorem own_ge {w : World} {base n : Nat} {e sz : Nat} {v : Value} {ys : List Value} (h : w.ownsRow base e sz v n ys) {k : Nat} (hk : v.ownBlock = some k) : base ≤ k := by
  rcases h.2 with ⟨h1, _⟩ | ⟨g', cap', cur, h1, h2, h3⟩
  · subst h1; cases hk
  · subst h1; cases hk; exact h2
theorem own_low {w : World} {b1 b2 n : Nat} {e sz : Nat} {v : Value} {ys : List Value} (h : w.ownsRow b1 e sz v n ys) (hb : b2 ≤ b1) : w.ownsRow b2 e sz v n ys := by
  refine ⟨h.1, ?_⟩
  rcases h.2 with h1 | ⟨g', cap', cur, h1, h2, h3⟩
  · exact Or.inl h1
  · exact Or.inr ⟨g', cap', cur, h1, Nat.le_trans hb h2, h3⟩
/-- a round's state -/
structure TkI (w : World) (g : Nat) (N : Int) (r : Value) (D : List DT) (O L : List DT) (ov lv : Value) (wr : World) : Prop where
  ck : DCk wr g N r D
  out : wr.ownsRow w.heap.size 151 3 ov O.length (rowF tmF O)
  left : wr.ownsRow w.heap.size 151 3 lv L.length (rowF tmF L)
  no : O = [] → ov = .slice none 0 0
  sep : ∀ k, ov.ownBlock = some k → lv.ownBlock ≠ some k
  fr : Fr [] w wr
theorem TkI.fr0 {w wr w' : World} {g : Nat} {N : Int} {r : Value} {D O L : List DT} {ov lv : Value} (h : TkI w g N r D O L ov lv wr) (hF : Fr [] wr w') : TkI w g N r D O L ov lv w' :=
  ⟨h.ck.fr0 hF, rown_frS h.out hF (by simp), rown_frS h.left hF (by simp), h.no, h.sep, h.fr.trans hF⟩
theorem rown_lt {w : World} {base n : Nat} {e sz : Nat} {v : Value} {ys : List Value} (h : w.ownsRow base e sz v n ys) {k : Nat} (hk : v.ownBlock = some k) : k < w.heap.size := by
  obtain ⟨cur, hc⟩ := rown_blk h k hk
  exact hc.lt
/-- the answer -/
def TickD (w : World) (g : Nat) (N : Int) (D : List DT) (e : Ending) (w' : World) : Prop := ∃ ov lv, e = .returned ov ∧ w'.ownsRow w.heap.size 151 3 ov (tfold N D).1.length (rowF tmF (tfold N D).1) ∧ DCk w' g N lv (tfold N D).2 ∧ (∀ k, lv.ownBlock = some k → w.heap.size ≤ k) ∧ (∀ k, ov.ownBlock = some k → lv.ownBlock ≠ some k) ∧ Fr [g] w w'
section
variable {w : World} {g : Nat} {n : Int} {r : Value} {D : List DT}
theorem dcTick_bad (a : Int) (ha : a < 1 ∨ 1000000 < a) : Calls Tryz.prog 73 #[.pointer (some ⟨g, 0, none⟩), .int .i64 a] w fun e w' => e = .returned (.slice none 0 0) ∧ Fr [] w w' := by
  have hX : a < 1 ∨ ¬ a < 1 ∧ 1000000 < a := by omega
  clear ha
  rcases hX with h1 | ⟨h1, h2⟩
  all_goals
    go_enter Tryz.func73, Tryz.ntmps73
    go_wp2_with fail
    go_ret
    exact ⟨rfl, by first | exact Fr.refl _ _ | exact (Fr.refl _ _).alloc _⟩
set_option maxRecDepth 100000 in
set_option maxHeartbeats 16000000 in
theorem dcTick_ok (a : Int) (a0 : 1 ≤ a) (a1 : a ≤ 1000000) (n0 : 0 ≤ n) (n1 : n ≤ 1152921504606846976) (hl : D.length ≤ 1000) (h : DCk w g n r D) :
    Calls Tryz.prog 73 #[.pointer (some ⟨g, 0, none⟩), .int .i64 a] w (TickD w g (tlater n a) D) := by
  obtain ⟨i0, hi0, hz0, hz1, hz2⟩ := info_parts infoTmr
  have hnw : IntKind.i64.wrap (n + a) = n + a := by rw [IntKind.wrap_i64]; omega
  have hnw2 : wrap64 (n + a) = n + a := by unfold wrap64; omega
  have ha1 : ¬ a < 1 := by omega
  have ha2 : ¬ 1000000 < a := by omega
  have c0 : w.cell? ⟨g, 0, none⟩ = some (.int .i64 n) := h.st.c 0 _ rfl
  have f0 := h.st.fz 0
  have HH := Lib.hid h
  have HL := Lib.hid hl
  obtain ⟨N, hN⟩ : ∃ N, tlater n a = N := ⟨_, rfl⟩
  have HN := Lib.hid hN
  rw [hN]
  clear h hl hN
  go_enter Tryz.func73, Tryz.ntmps73
  go_upto_if 28 with fail
  have hs1 : ∀ m : Int, Blk (w.setCell ⟨g, 0, none⟩ (.int .i64 m)) g #[.int .i64 m, r] 134 := fun m => by
    have := HH.out.st.set 0 (.int .i64 m)
    simpa using this
  have hf1 : ∀ m : Int, Fr [g] w (w.setCell ⟨g, 0, none⟩ (.int .i64 m)) := fun m => (Fr.refl [g] w).setCell (p := ⟨g, 0, none⟩) (by simp) (.int .i64 m)
  have hck : ∀ m : Int, DCk (w.setCell ⟨g, 0, none⟩ (.int .i64 m)) g m r D := fun m => ⟨hs1 m, rown_frS HH.out.row (hf1 m) (fun k hk => by simpa using HH.out.ne k hk)⟩
  have hck2 : ∀ m1 m : Int, DCk ((w.setCell ⟨g, 0, none⟩ (.int .i64 m1)).setCell ⟨g, 0, none⟩ (.int .i64 m)) g m r D := fun m1 m => by
    have hs2 : Blk ((w.setCell ⟨g, 0, none⟩ (.int .i64 m1)).setCell ⟨g, 0, none⟩ (.int .i64 m)) g #[.int .i64 m, r] 134 := by
      have := (hs1 m1).set 0 (.int .i64 m)
      simpa using this
    exact ⟨hs2, rown_frS (hck m1).row ((Fr.refl [g] _).setCell (p := ⟨g, 0, none⟩) (by simp) (.int .i64 m)) (fun k hk => by simpa using HH.out.ne k hk)⟩
  have hf2 : ∀ m1 m : Int, Fr [g] w ((w.setCell ⟨g, 0, none⟩ (.int .i64 m1)).setCell ⟨g, 0, none⟩ (.int .i64 m)) := fun m1 m => (hf1 m1).setCell (p := ⟨g, 0, none⟩) (by simp) (.int .i64 m)
  go_cut [] (fun wx => DCk wx g N r D ∧ Fr [g] w wx)
  case first =>
    have z0 := (hs1 (n + a)).c 0 _ rfl
    have z1 := (hs1 (n + a)).fz 0
    by_cases hm : 1152921504606846976 < n + a
    · have hNe : N = 1152921504606846976 := by rw [← HN.out]; unfold tlater; omega
      subst hNe
      go_wp2_with fail
      go_meet
      first | exact ⟨hck2 _ _, hf2 _ _⟩ | (refine ⟨?_, ?_⟩ <;> simp)
    · have hNe : N = n + a := by rw [← HN.out]; unfold tlater; omega
      subst hNe
      go_wp2_with fail
      go_meet
      exact ⟨hck _, hf1 _⟩
  case rest =>
    obtain ⟨hcx, hfx⟩ := hcut
    clear hs1 hf1 hck hck2 hf2 hnw hnw2 c0 f0
    have HFX := Lib.hid hfx
    obtain ⟨w1, hw1⟩ : ∃ X, wc = X := ⟨_, rfl⟩
    subst hw1
    have HCX := Lib.hid hcx
    obtain ⟨A, cap, rfl⟩ := rown_slice hcx.row
    have hcp := rown_caps hcx.row
    have hcp1 := hcp.1
    have hcp2 := hcp.2
    have HR := Lib.hid (RAt.of_own tmF_len hcx.row)
    have HC : Hid (∀ W, Fr [] wc W → W.cell? ⟨g, 1, none⟩ = some (.slice A D.length cap) ∧ W.cell? ⟨g, 0, none⟩ = some (.int .i64 N)) := Lib.hid fun W hW => ⟨(hW.blk hcx.st (by simp)).c 1 _ rfl, (hW.blk hcx.st (by simp)).c 0 _ rfl⟩
    have hlI : (D.length : Int) ≤ 1000 := by have := HL.out; omega
    clear hcx hfx hcp
    go_wp2_with fail
    go_loopw [5, 6, 7] (fun ov lv iv wr => ∃ (i : Nat) (O L : List DT) (oy ly : Value), i ≤ D.length ∧ iv = .int .i64 i ∧ oy = ov ∧ ly = lv ∧ tfold N (D.take i) = (O, L) ∧ TkI wc g N (.slice A D.length cap) D O L oy ly wr) (fun _ _ iv _ => D.length - (intOf iv).toNat)
    case atStart => exact ⟨0, [], [], _, _, Nat.zero_le _, rfl, rfl, rfl, rfl, HCX.out, World.ownsRow_nil _ _ _ _, World.ownsRow_nil _ _ _ _, fun _ => rfl, (fun k hk => by cases hk), Fr.refl _ _⟩
    case round =>
      obtain ⟨i, O, L, ov, lv, hj, rfl, rfl, rfl, hOL, hI⟩ := hrel
      obtain ⟨g1, g0⟩ := HC.out _ hI.fr
      have HI := Lib.hid hI
      have HOLE := Lib.hid hOL
      have hlen : O.length + L.length = i := by
        have := tfold_len N (D.take i)
        rw [hOL, List.length_take, Nat.min_eq_left hj] at this
        exact this
      have HLEN := Lib.hid hlen
      by_cases hil : i < D.length
      · obtain ⟨⟨⟨k1, k2⟩, t⟩, hx⟩ : ∃ x, D[i]? = some x := ⟨_, List.getElem?_eq_getElem hil⟩
        obtain ⟨qL, rfl, hq, hcell⟩ := HR.out i _ hx
        have hcl3 : ∀ W, Fr [] wc W → W.cell? ⟨qL, i * 3, none⟩ = some (.int .i64 k1) ∧ W.cell? ⟨qL, i * 3 + 1, none⟩ = some (.int .i64 k2) ∧ W.cell? ⟨qL, i * 3 + 2, none⟩ = some (.int .i64 t) := fun W hW => ⟨hcell W hW 0 _ rfl, hcell W hW 1 _ rfl, hcell W hW 2 _ rfl⟩
        have HCL3 := Lib.hid hcl3
        obtain ⟨y0, y1, y2⟩ := hcl3 _ hI.fr
        have hst := tfold_take N D i _ hx
        rw [hOL] at hst
        have HST := Lib.hid hst
        clear hcell hcl3 hx hst hOL hlen
        by_cases hNt : N < t
        · have hst2 : tfold N (D.take (i + 1)) = (O, L ++ [((k1, k2), t)]) := by rw [HST.out]; unfold tst; rw [if_pos hNt]
          have HS2 := Lib.hid hst2
          clear hst2 hI
          go_wp2_with fail
          go_quiet (fail)
          obtain ⟨w2, hw2⟩ : ∃ X, wr.drewN nq = X := ⟨_, rfl⟩
          have hI2 : TkI wc g N (.slice (some ⟨qL, 0, none⟩) D.length cap) D O L ov lv w2 := by rw [← hw2]; exact HI.out.fr0 ((Fr.refl [] wr).drewN nq)
          rw [hw2]
          clear hw2 y0 y1 y2 g1 g0
          obtain ⟨g1, g0⟩ := HC.out _ hI2.fr
          obtain ⟨y0, y1, y2⟩ := HCL3.out _ hI2.fr
          have HI2 := Lib.hid hI2
          clear hI2
          go_wp2_with (at_builtin; refine wpList_append_any _ rfl _ _ 132 rfl wc.heap.size 151 i0 (.agg #[.int .i64 0, .int .i64 0, .int .i64 0]) 3 24 Tryz.underlying132 hi0 hz0 hz1 hz2 rfl (by decide) _ L.length (rowF tmF L) rfl (rown_frS HI2.out.left ((Fr.refl [] w2).alloc _) (by simp)) _ (some ⟨w2.heap.size, 0, none⟩) 1 1 [.int .i64 k1, .int .i64 k2, .int .i64 t] rfl (Reads.of_own (World.ownsRow_lit (base := 0) (e := 151) (size := 3) w2 #[.int .i64 k1, .int .i64 k2, .int .i64 t] 1 (Nat.zero_le _) (by unfold maxLen; omega) rfl)) (by simp [Value.oneCell']) ?c3 ?c4 ?c5 ?_)
          case c3 => have := HLEN.out; have := HL.out; unfold maxLen; omega
          case c4 => have := HLEN.out; have := HL.out; omega
          case c5 => have := HI2.out.fr.size; simp; omega
          intro lv2 w3 hownL hgrL hrowL
          have hFa : Fr [] wc (w2.alloc (.cells #[.int .i64 k1, .int .i64 k2, .int .i64 t] 151 (0, 0))) := HI2.out.fr.alloc _
          have hF3 : Fr [] wc w3 := hFa.grown hgrL (fun k hk => own_ge HI2.out.left hk)
          have hI3 : TkI wc g N (.slice (some ⟨qL, 0, none⟩) D.length cap) D O (L ++ [((k1, k2), t)]) ov lv2 w3 := by
            have hIa := HI2.out.fr0 ((Fr.refl [] w2).alloc (.cells #[.int .i64 k1, .int .i64 k2, .int .i64 t] 151 (0, 0)))
            have hsp : ∀ k, ov.ownBlock = some k → lv.ownBlock ≠ some k := HI2.out.sep
            refine ⟨HCX.out.fr0 hF3, rown_frS hIa.out (Fr.of_row hgrL) (fun k hk => by simpa using fun e => hsp k hk e), ?_, HI2.out.no, fun k hk e => ?_, hF3⟩
            · rw [List.length_append, rowF_append, rowF_one]
              exact hownL
            · rcases hrowL with h | h
              · exact hsp k hk (h ▸ e)
              · have h1 := rown_lt HI2.out.out hk
                rw [h] at e
                simp at e
                omega
          have HI3 := Lib.hid hI3
          clear hownL hgrL hrowL hFa hF3 hI3 g0 g1 y0 y1 y2
          go_wp2_with fail
          go_roundw
          case rel => exact ⟨i + 1, _, _, _, _, by omega, by go_num, rfl, rfl, HS2.out, HI3.out⟩
          case measure => (simp [intOf]) <;> omega
        · have hst2 : tfold N (D.take (i + 1)) = (tins O ((k1, k2), t), L) := by rw [HST.out]; unfold tst; rw [if_neg hNt]
          have HS2 := Lib.hid hst2
          clear hst2 hI
          obtain ⟨AO, cO, rfl⟩ := rown_slice HI.out.out
          go_wp2_with fail
          go_quiet (fail)
          obtain ⟨wa, hw2⟩ : ∃ X, wr.drewN nq = X := ⟨_, rfl⟩
          have hI2 : TkI wc g N (.slice (some ⟨qL, 0, none⟩) D.length cap) D O L (.slice AO O.length cO) lv wa := by rw [← hw2]; exact HI.out.fr0 ((Fr.refl [] wr).drewN nq)
          rw [hw2]
          clear hw2 y0 y1 y2 g1 g0 HI
          have HI := Lib.hid hI2
          have HRO := Lib.hid (RAt.of_own tmF_len hI2.out)
          have hcO := (rown_caps hI2.out).1
          have hcO2 := (rown_caps hI2.out).2
          have hOl : O.length ≤ 1000 := by have := HLEN.out; have := HL.out; omega
          have hOlI : (O.length : Int) ≤ 1000 := by omega
          have HOL := Lib.hid hOl
          have HTE : Hid (∀ w2 K xs1 xs2 W vc, tpos O t O.length = K → xs1 = rowF tmF (O.take K) → xs2 = rowF tmF (O.drop K) → TkI wc g N (.slice (some ⟨qL, 0, none⟩) D.length cap) D O L (.slice AO O.length cO) lv w2 → W.ownsRow w2.heap.size 151 3 vc (K + 1 + (O.length - K)) (xs1 ++ [.int .i64 k1, .int .i64 k2, .int .i64 t] ++ xs2) → Fr [] w2 W → TkI wc g N (.slice (some ⟨qL, 0, none⟩) D.length cap) D (tins O ((k1, k2), t)) L vc lv W) := Lib.hid fun w2 K xs1 xs2 W vc hp h1 h2 hT hO hF => by
            have hK : K ≤ O.length := by rw [← hp]; exact tpos_le _ _ _
            have e1 : (tins O ((k1, k2), t)).length = K + 1 + (O.length - K) := by rw [tins_len]; omega
            have e2 : rowF tmF (tins O ((k1, k2), t)) = xs1 ++ [.int .i64 k1, .int .i64 k2, .int .i64 t] ++ xs2 := by
              unfold tins
              simp only [hp]
              rw [show O.take K ++ ((k1, k2), t) :: O.drop K = O.take K ++ [((k1, k2), t)] ++ O.drop K from by simp, rowF_append, rowF_append, rowF_one, h1, h2]
              rfl
            refine ⟨hT.ck.fr0 hF, ?_, rown_frS hT.left hF (by simp), fun e => ?_, fun k hk e => ?_, hT.fr.trans hF⟩
            · rw [e1, e2]
              exact own_low hO hT.fr.size
            · rw [e, List.length_nil] at e1
              omega
            · have q1 := own_ge hO hk
              have q2 := rown_lt hT.left e
              omega
          clear hI2
          go_wp2_with fail
          rcases Nat.eq_zero_or_pos O.length with hO0 | hO0
          · obtain rfl : O = [] := List.length_eq_zero_iff.1 hO0
            have hno := HI.out.no rfl
            cases hno
            clear hO0
            go_loopw [8] (fun kv wr' => kv = .int .i64 0 ∧ Fr [] wa wr') (fun _ _ => 0)
            case atStart => exact ⟨rfl, Fr.refl _ _⟩
            case round =>
              obtain ⟨rfl, hF3⟩ := hrel
              have HF3 := Lib.hid hF3
              clear hF3
              go_wp2_with fail
              go_quiet (fail)
              obtain ⟨w2, hw2⟩ : ∃ X, wr.drewN nq = X := ⟨_, rfl⟩
              have hI2 : TkI wc g N (.slice (some ⟨qL, 0, none⟩) D.length cap) D [] L (.slice none 0 0) lv w2 := by rw [← hw2]; exact HI.out.fr0 (HF3.out.drewN nq)
              rw [hw2]
              clear hw2 HF3
              have hFd : Fr [] w2 w2.drew := (Fr.refl [] w2).drew
              have HCL : Hid (∀ W, Fr [] w2 W → W.cell? ⟨g, 1, none⟩ = some (.slice (some ⟨qL, 0, none⟩) D.length cap) ∧ W.cell? ⟨qL, i * 3, none⟩ = some (.int .i64 k1) ∧ W.cell? ⟨qL, i * 3 + 1, none⟩ = some (.int .i64 k2) ∧ W.cell? ⟨qL, i * 3 + 2, none⟩ = some (.int .i64 t)) := Lib.hid fun W hW => ⟨(HC.out _ (hI2.fr.trans hW)).1, HCL3.out _ (hI2.fr.trans hW)⟩
              have HEND : Hid (∀ W vc, W.ownsRow w2.heap.size 151 3 vc (0 + 1 + 0) ([] ++ [.int .i64 k1, .int .i64 k2, .int .i64 t] ++ []) → Fr [] w2 W → TkI wc g N (.slice (some ⟨qL, 0, none⟩) D.length cap) D (tins [] ((k1, k2), t)) L vc lv W) := Lib.hid fun W vc => HTE.out w2 0 [] [] W vc rfl rfl rfl hI2
              have HRD1 : Hid (∀ W, Fr [] w2 W → Reads W W.heap.size 3 none 0 []) := Lib.hid fun W _ => ⟨rfl, fun h => absurd h (by omega)⟩
              have HRD2 := HRD1
              have HO1 : Hid (∀ u : Value, u ∈ ([] : List Value) → u.oneCell' = true) := Lib.hid fun u hu => by cases hu
              have HO2 := HO1
              have HKL : Hid (0 ≤ 1) := Lib.hid (by omega)
              clear hI2
              go_wp2_with fail
              refine wp_region_held_drew (S := (fun W => Fr [] w2 W)) (by kernel_rfl) ?_ (fun hHeld => ?_)
              · (try dsimp only); exact hFd
              obtain ⟨v0, hv⟩ : ∃ X, w2.drew = X := ⟨_, rfl⟩
              rw [hv] at hHeld ⊢
              clear hv hFd
              refine take_yes 0 87 rfl rfl (by kernel_rfl) (by kernel_rfl) (by kernel_rfl) (fun _ _ _ h => h) (by rfl) (by assumption) (v := ?_) ?_ ?_
              rotate_left
              · intro w hSw; (try dsimp only at hSw); go_simp; (try with_reducible rfl)
              try simp only [Act.put, List.setIfInBounds_toArray, List.set_cons_zero, List.set_cons_succ]
              refine take_yes 1 88 rfl rfl (by kernel_rfl) (by kernel_rfl) (by kernel_rfl) (fun _ _ _ h => h) (by rfl) (by assumption) (v := ?_) ?_ ?_
              rotate_left
              · intro w hSw; (try dsimp only at hSw); go_simp; (try with_reducible rfl)
              try simp only [Act.put, List.setIfInBounds_toArray, List.set_cons_zero, List.set_cons_succ]
              refine take_yes 2 89 rfl rfl (by kernel_rfl) (by kernel_rfl) (by kernel_rfl) (fun _ _ _ h => h) (by rfl) (by assumption) (v := .slice none 0 0) ?_ ?_
              · intro w hSw; (try dsimp only at hSw); go_simp
              try simp only [Act.put, List.setIfInBounds_toArray, List.set_cons_zero, List.set_cons_succ]
              refine take_yes 4 91 rfl rfl (by kernel_rfl) (by kernel_rfl) (by kernel_rfl) (fun _ _ _ h => h) (by rfl) (by assumption) (v := ?_) ?_ ?_
              rotate_left
              · intro w hSw; (try dsimp only at hSw); go_simp; (try with_reducible rfl)
              try simp only [Act.put, List.setIfInBounds_toArray, List.set_cons_zero, List.set_cons_succ]
              refine take_yes 5 92 rfl rfl (by kernel_rfl) (by kernel_rfl) (by kernel_rfl) (fun _ _ _ h => h) (by rfl) (by assumption) (v := ?_) ?_ ?_
              rotate_left
              · intro w hSw; (try dsimp only at hSw); go_simp; (try with_reducible rfl)
              try simp only [Act.put, List.setIfInBounds_toArray, List.set_cons_zero, List.set_cons_succ]
              refine take_yes 6 93 rfl rfl (by kernel_rfl) (by kernel_rfl) (by kernel_rfl) (fun _ _ _ h => h) (by rfl) (by assumption) (v := ?_) ?_ ?_
              rotate_left
              · intro w hSw; (try dsimp only at hSw); go_simp; (try with_reducible rfl)
              try simp only [Act.put, List.setIfInBounds_toArray, List.set_cons_zero, List.set_cons_succ]
              refine take_yes 7 94 rfl rfl (by kernel_rfl) (by kernel_rfl) (by kernel_rfl) (fun _ _ _ h => h) (by rfl) (by assumption) (v := .slice (some ⟨qL, 0, none⟩) D.length cap) ?_ ?_
              · intro w hSw; (try dsimp only at hSw); obtain ⟨z1, z2, z3, z4⟩ := HCL.out w hSw; go_simp; (try with_reducible rfl)
              try simp only [Act.put, List.setIfInBounds_toArray, List.set_cons_zero, List.set_cons_succ]
              refine take_yes 8 95 rfl rfl (by kernel_rfl) (by kernel_rfl) (by kernel_rfl) (fun _ _ _ h => h) (by rfl) (by assumption) (v := ?_) ?_ ?_
              rotate_left
              · intro w hSw; (try dsimp only at hSw); go_simp; (try with_reducible rfl)
              try simp only [Act.put, List.setIfInBounds_toArray, List.set_cons_zero, List.set_cons_succ]
              refine take_yes 9 96 rfl rfl (by kernel_rfl) (by kernel_rfl) (by kernel_rfl) (fun _ _ _ h => h) (by rfl) (by assumption) (v := ?_) ?_ ?_
              rotate_left
              · intro w hSw; (try dsimp only at hSw); go_simp; (try with_reducible rfl)
              try simp only [Act.put, List.setIfInBounds_toArray, List.set_cons_zero, List.set_cons_succ]
              refine take_yes 10 97 rfl rfl (by kernel_rfl) (by kernel_rfl) (by kernel_rfl) (fun _ _ _ h => h) (by rfl) (by assumption) (v := .agg #[.int .i64 k1, .int .i64 k2, .int .i64 t]) ?_ ?_
              · intro w hSw; (try dsimp only at hSw); obtain ⟨z1, z2, z3, z4⟩ := HCL.out w hSw; go_simp; (try with_reducible rfl)
              try simp only [Act.put, List.setIfInBounds_toArray, List.set_cons_zero, List.set_cons_succ]
              refine take_yes 13 100 rfl rfl (by kernel_rfl) (by kernel_rfl) (by kernel_rfl) (fun _ _ _ h => h) (by rfl) (by assumption) (v := ?_) ?_ ?_
              rotate_left
              · intro w hSw; (try dsimp only at hSw); go_simp; (try with_reducible rfl)
              try simp only [Act.put, List.setIfInBounds_toArray, List.set_cons_zero, List.set_cons_succ]
              refine take_yes 14 101 rfl rfl (by kernel_rfl) (by kernel_rfl) (by kernel_rfl) (fun _ _ _ h => h) (by rfl) (by assumption) (v := ?_) ?_ ?_
              rotate_left
              · intro w hSw; (try dsimp only at hSw); go_simp; (try with_reducible rfl)
              try simp only [Act.put, List.setIfInBounds_toArray, List.set_cons_zero, List.set_cons_succ]
              refine take_yes 15 102 rfl rfl (by kernel_rfl) (by kernel_rfl) (by kernel_rfl) (fun _ _ _ h => h) (by rfl) (by assumption) (v := .slice none 0 0) ?_ ?_
              · intro w hSw; (try dsimp only at hSw); go_simp
              try simp only [Act.put, List.setIfInBounds_toArray, List.set_cons_zero, List.set_cons_succ]
              refine wpAnyH_ready (rs := [3, 11]) (by kernel_rfl) (by simp) ?_
              refine AllReadyH.cons (o := _) rfl (fun K hK => ?_) ?_
              · rw [if_pos (by rfl)]
                (try simp only [List.getElem_toArray, List.getElem_cons_succ, List.getElem_cons_zero])
                refine wp_app _ 90 rfl (.const (.slice none 0 0)) (.tmp 89) 132 rfl w2.heap.size 151 i0 (.agg #[.int .i64 0, .int .i64 0, .int .i64 0]) 3 24 Tryz.underlying132 hi0 hz0 hz1 hz2 rfl (by decide) _ 0 _ (by rfl) (World.ownsRow_nil _ w2.heap.size _ _) _ _ _ _ _ (by rfl) (HRD1.out _ hHeld) (HO1.out) ?_ ?_ hHeld.size ?_
                · have := HOL.out; have := HKL.out; unfold maxLen; omega
                · have := HOL.out; have := HKL.out; omega
                intro va v1 hownA hgrA hrowA
                rw [Nat.zero_add, List.nil_append] at hownA
                have hFg := Fr.of_row hgrA
                have hHeld2 : Fr [] w2 v1 := hHeld.grown hgrA (fun k hk => by cases hk)
                refine hK.out _ _ ?_ (fun hHeld3 => ?_)
                · (try dsimp only); exact hHeld2
                clear hK K hHeld hFg hgrA hrowA
                have hHeld := hHeld2
                clear hHeld2 hHeld3
                try simp only [Act.put, List.setIfInBounds_toArray, List.set_cons_zero, List.set_cons_succ]
                refine wpAnyH_ready (rs := [11]) (by kernel_rfl) (by simp) ?_
                refine AllReadyH.cons (o := _) rfl (fun K hK => ?_) AllReadyH.nil
                go_simp
                (try go_wp2_with fail)
                have hFx : Fr [] v1 (v1.alloc (.cells #[.int .i64 k1, .int .i64 k2, .int .i64 t] 151 (0, 0))) := (Fr.refl _ _).alloc _
                have hOwnX := World.ownsRow_lit (base := 0) (e := 151) (size := 3) v1 #[.int .i64 k1, .int .i64 k2, .int .i64 t] 1 (Nat.zero_le _) (by unfold maxLen; omega) rfl
                obtain ⟨v2, hv⟩ : ∃ X, v1.alloc (.cells #[.int .i64 k1, .int .i64 k2, .int .i64 t] 151 (0, 0)) = X := ⟨_, rfl⟩
                obtain ⟨qx, hqx⟩ : ∃ X, v1.heap.size = X := ⟨_, rfl⟩
                rw [hv] at hFx hOwnX ⊢
                rw [hqx] at hOwnX ⊢
                have hHeld2 : Fr [] w2 v2 := hHeld.trans hFx
                replace hownA := rown_frS hownA hFx (by simp)
                refine hK.out _ _ ?_ (fun hHeld3 => ?_)
                · (try dsimp only); exact hHeld2
                clear hK K hHeld hFx hv hqx
                have hHeld := hHeld2
                clear hHeld2 hHeld3
                try simp only [Act.put, List.setIfInBounds_toArray, List.set_cons_zero, List.set_cons_succ]
                refine wpAnyH_ready (rs := [12]) (by kernel_rfl) (by simp) ?_
                refine AllReadyH.cons (o := _) rfl (fun K hK => ?_) AllReadyH.nil
                rw [if_pos (by rfl)]
                (try simp only [List.getElem_toArray, List.getElem_cons_succ, List.getElem_cons_zero])
                refine wp_app _ 99 rfl (.tmp 90) (.tmp 98) 132 rfl w2.heap.size 151 i0 (.agg #[.int .i64 0, .int .i64 0, .int .i64 0]) 3 24 Tryz.underlying132 hi0 hz0 hz1 hz2 rfl (by decide) _ 0 _ (by rfl) hownA _ _ _ _ _ (by rfl) (Reads.of_own hOwnX) (by simp [Value.oneCell']) ?_ ?_ hHeld.size ?_
                · have := HOL.out; have := HKL.out; unfold maxLen; omega
                · have := HOL.out; have := HKL.out; omega
                intro vb v3 hownB hgrB hrowB
                have hHeld2 : Fr [] w2 v3 := hHeld.grown hgrB (fun k hk => own_ge hownA hk)
                refine hK.out _ _ ?_ (fun hHeld3 => ?_)
                · (try dsimp only); exact hHeld2
                clear hK K hHeld hownA hOwnX hgrB hrowB
                have hHeld := hHeld2
                clear hHeld2 hHeld3
                try simp only [Act.put, List.setIfInBounds_toArray, List.set_cons_zero, List.set_cons_succ]
                refine wpAnyH_ready (rs := [16]) (by kernel_rfl) (by simp) ?_
                refine AllReadyH.cons (o := _) rfl (fun K hK => ?_) AllReadyH.nil
                rw [if_pos (by rfl)]
                (try simp only [List.getElem_toArray, List.getElem_cons_succ, List.getElem_cons_zero])
                refine wp_app _ 103 rfl (.tmp 99) (.tmp 102) 132 rfl w2.heap.size 151 i0 (.agg #[.int .i64 0, .int .i64 0, .int .i64 0]) 3 24 Tryz.underlying132 hi0 hz0 hz1 hz2 rfl (by decide) _ (0 + 1) _ (by rfl) hownB _ _ _ _ _ (by rfl) (HRD2.out _ hHeld) (HO2.out) ?_ ?_ hHeld.size ?_
                · have := HOL.out; have := HKL.out; unfold maxLen; omega
                · have := HOL.out; have := HKL.out; omega
                intro vc v4 hownC hgrC hrowC
                have hHeld2 : Fr [] w2 v4 := hHeld.grown hgrC (fun k hk => own_ge hownB hk)
                have HZ := Lib.hid (HEND.out _ _ hownC hHeld2)
                refine hK.out _ _ ?_ (fun hHeld3 => ?_)
                · (try dsimp only); exact hHeld2
                clear hK K hHeld hownB hownC hgrC hrowC hHeld2
                try simp only [Act.put, List.setIfInBounds_toArray, List.set_cons_zero, List.set_cons_succ]
                refine take_yes 17 5 rfl rfl (by kernel_rfl) (by kernel_rfl) (by kernel_rfl) (fun _ _ _ h => h) (by rfl) (by assumption) (v := ?_) ?_ ?_
                rotate_left
                · intro w hSw; (try dsimp only at hSw); go_simp; (try with_reducible rfl)
                try simp only [Act.put, List.setIfInBounds_toArray, List.set_cons_zero, List.set_cons_succ]
                refine wpAnyH_done (by kernel_rfl) ?_ _
                clear hHeld3
                go_wp2_with fail
                go_roundw
                case rel => exact ⟨i + 1, _, _, _, _, by omega, by go_num, rfl, rfl, HS2.out, HZ.out⟩
                case measure => (simp [intOf]) <;> omega
              refine AllReadyH.cons (o := _) rfl (fun K hK => ?_) AllReadyH.nil
              go_simp
              (try go_wp2_with fail)
              have hFx : Fr [] v0 (v0.alloc (.cells #[.int .i64 k1, .int .i64 k2, .int .i64 t] 151 (0, 0))) := (Fr.refl _ _).alloc _
              have hOwnX := World.ownsRow_lit (base := 0) (e := 151) (size := 3) v0 #[.int .i64 k1, .int .i64 k2, .int .i64 t] 1 (Nat.zero_le _) (by unfold maxLen; omega) rfl
              obtain ⟨v1, hv⟩ : ∃ X, v0.alloc (.cells #[.int .i64 k1, .int .i64 k2, .int .i64 t] 151 (0, 0)) = X := ⟨_, rfl⟩
              obtain ⟨qx, hqx⟩ : ∃ X, v0.heap.size = X := ⟨_, rfl⟩
              rw [hv] at hFx hOwnX ⊢
              rw [hqx] at hOwnX ⊢
              have hHeld2 : Fr [] w2 v1 := hHeld.trans hFx
              refine hK.out _ _ ?_ (fun hHeld3 => ?_)
              · (try dsimp only); exact hHeld2
              clear hK K hHeld hFx hv hqx
              have hHeld := hHeld2
              clear hHeld2 hHeld3
              try simp only [Act.put, List.setIfInBounds_toArray, List.set_cons_zero, List.set_cons_succ]
              refine wpAnyH_ready (rs := [3]) (by kernel_rfl) (by simp) ?_
              refine AllReadyH.cons (o := _) rfl (fun K hK => ?_) AllReadyH.nil
              rw [if_pos (by rfl)]
              (try simp only [List.getElem_toArray, List.getElem_cons_succ, List.getElem_cons_zero])
              refine wp_app _ 90 rfl (.const (.slice none 0 0)) (.tmp 89) 132 rfl w2.heap.size 151 i0 (.agg #[.int .i64 0, .int .i64 0, .int .i64 0]) 3 24 Tryz.underlying132 hi0 hz0 hz1 hz2 rfl (by decide) _ 0 _ (by rfl) (World.ownsRow_nil _ w2.heap.size _ _) _ _ _ _ _ (by rfl) (HRD1.out _ hHeld) (HO1.out) ?_ ?_ hHeld.size ?_
              · have := HOL.out; have := HKL.out; unfold maxLen; omega
              · have := HOL.out; have := HKL.out; omega
              intro va v2 hownA hgrA hrowA
              rw [Nat.zero_add, List.nil_append] at hownA
              have hFg := Fr.of_row hgrA
              have hHeld2 : Fr [] w2 v2 := hHeld.grown hgrA (fun k hk => by cases hk)
              replace hOwnX := rown_frS hOwnX hFg (by simp [Value.ownBlock])
              refine hK.out _ _ ?_ (fun hHeld3 => ?_)
              · (try dsimp only); exact hHeld2
              clear hK K hHeld hFg hgrA hrowA
              have hHeld := hHeld2
              clear hHeld2 hHeld3
              try simp only [Act.put, List.setIfInBounds_toArray, List.set_cons_zero, List.set_cons_succ]
              refine wpAnyH_ready (rs := [12]) (by kernel_rfl) (by simp) ?_
              refine AllReadyH.cons (o := _) rfl (fun K hK => ?_) AllReadyH.nil
              rw [if_pos (by rfl)]
              (try simp only [List.getElem_toArray, List.getElem_cons_succ, List.getElem_cons_zero])
              refine wp_app _ 99 rfl (.tmp 90) (.tmp 98) 132 rfl w2.heap.size 151 i0 (.agg #[.int .i64 0, .int .i64 0, .int .i64 0]) 3 24 Tryz.underlying132 hi0 hz0 hz1 hz2 rfl (by decide) _ 0 _ (by rfl) hownA _ _ _ _ _ (by rfl) (Reads.of_own hOwnX) (by simp [Value.oneCell']) ?_ ?_ hHeld.size ?_
              · have := HOL.out; have := HKL.out; unfold maxLen; omega
              · have := HOL.out; have := HKL.out; omega
              intro vb v3 hownB hgrB hrowB
              have hHeld2 : Fr [] w2 v3 := hHeld.grown hgrB (fun k hk => own_ge hownA hk)
              refine hK.out _ _ ?_ (fun hHeld3 => ?_)
              · (try dsimp only); exact hHeld2
              clear hK K hHeld hownA hOwnX hgrB hrowB
              have hHeld := hHeld2
              clear hHeld2 hHeld3
              try simp only [Act.put, List.setIfInBounds_toArray, List.set_cons_zero, List.set_cons_succ]
              refine wpAnyH_ready (rs := [16]) (by kernel_rfl) (by simp) ?_
              refine AllReadyH.cons (o := _) rfl (fun K hK => ?_) AllReadyH.nil
              rw [if_pos (by rfl)]
              (try simp only [List.getElem_toArray, List.getElem_cons_succ, List.getElem_cons_zero])
              refine wp_app _ 103 rfl (.tmp 99) (.tmp 102) 132 rfl w2.heap.size 151 i0 (.agg #[.int .i64 0, .int .i64 0, .int .i64 0]) 3 24 Tryz.underlying132 hi0 hz0 hz1 hz2 rfl (by decide) _ (0 + 1) _ (by rfl) hownB _ _ _ _ _ (by rfl) (HRD2.out _ hHeld) (HO2.out) ?_ ?_ hHeld.size ?_
              · have := HOL.out; have := HKL.out; unfold maxLen; omega
              · have := HOL.out; have := HKL.out; omega
              intro vc v4 hownC hgrC hrowC
              have hHeld2 : Fr [] w2 v4 := hHeld.grown hgrC (fun k hk => own_ge hownB hk)
              have HZ := Lib.hid (HEND.out _ _ hownC hHeld2)
              refine hK.out _ _ ?_ (fun hHeld3 => ?_)
              · (try dsimp only); exact hHeld2
              clear hK K hHeld hownB hownC hgrC hrowC hHeld2
              try simp only [Act.put, List.setIfInBounds_toArray, List.set_cons_zero, List.set_cons_succ]
              refine take_yes 17 5 rfl rfl (by kernel_rfl) (by kernel_rfl) (by kernel_rfl) (fun _ _ _ h => h) (by rfl) (by assumption) (v := ?_) ?_ ?_
              rotate_left
              · intro w hSw; (try dsimp only at hSw); go_simp; (try with_reducible rfl)
              try simp only [Act.put, List.setIfInBounds_toArray, List.set_cons_zero, List.set_cons_succ]
              refine wpAnyH_done (by kernel_rfl) ?_ _
              clear hHeld3
              go_wp2_with fail
              go_roundw
              case rel => exact ⟨i + 1, _, _, _, _, by omega, by go_num, rfl, rfl, HS2.out, HZ.out⟩
              case measure => (simp [intOf]) <;> omega
          · obtain ⟨y00, h00⟩ : ∃ x, O[0]? = some x := ⟨_, List.getElem?_eq_getElem hO0⟩
            obtain ⟨q, rfl, hqlt, _⟩ := HRO.out 0 _ h00
            clear h00 hqlt
            go_loopw [8] (fun kv wr' => ∃ k : Nat, k ≤ O.length ∧ kv = .int .i64 k ∧ tpos O t O.length = tpos O t k ∧ Fr [] wa wr') (fun kv _ => (intOf kv).toNat)
            case atStart => exact ⟨O.length, Nat.le_refl _, rfl, rfl, Fr.refl _ _⟩
            case round =>
              obtain ⟨k, hkO, rfl, hpk, hF3⟩ := hrel
              have HF3 := Lib.hid hF3
              have HPK := Lib.hid hpk
              clear hF3 hpk
              obtain ⟨g1, g0⟩ := HC.out _ (HI.out.fr.trans HF3.out)
              obtain ⟨y0, y1, y2⟩ := HCL3.out _ (HI.out.fr.trans HF3.out)
              rcases Nat.eq_zero_or_pos k with hk0 | hk0
              · subst hk0
                have HPK2 : Hid (tpos O t O.length = 0) := Lib.hid HPK.out
                go_wp2_with fail
                go_quiet (fail)
                obtain ⟨w2, hw2⟩ : ∃ X, wr.drewN nq = X := ⟨_, rfl⟩
                have hI2 : TkI wc g N (.slice (some ⟨qL, 0, none⟩) D.length cap) D O L (.slice (some ⟨q, 0, none⟩) O.length cO) lv w2 := by rw [← hw2]; exact HI.out.fr0 (HF3.out.drewN nq)
                rw [hw2]
                clear hw2 HF3 g0 g1 y0 y1 y2
                have hFd : Fr [] w2 w2.drew := (Fr.refl [] w2).drew
                have HCL : Hid (∀ W, Fr [] w2 W → W.cell? ⟨g, 1, none⟩ = some (.slice (some ⟨qL, 0, none⟩) D.length cap) ∧ W.cell? ⟨qL, i * 3, none⟩ = some (.int .i64 k1) ∧ W.cell? ⟨qL, i * 3 + 1, none⟩ = some (.int .i64 k2) ∧ W.cell? ⟨qL, i * 3 + 2, none⟩ = some (.int .i64 t)) := Lib.hid fun W hW => ⟨(HC.out _ (hI2.fr.trans hW)).1, HCL3.out _ (hI2.fr.trans hW)⟩
                have HEND : Hid (∀ W vc, W.ownsRow w2.heap.size 151 3 vc (0 + 1 + O.length) ([] ++ [.int .i64 k1, .int .i64 k2, .int .i64 t] ++ rowF tmF O) → Fr [] w2 W → TkI wc g N (.slice (some ⟨qL, 0, none⟩) D.length cap) D (tins O ((k1, k2), t)) L vc lv W) := Lib.hid fun W vc => HTE.out w2 0 [] (rowF tmF O) W vc HPK2.out rfl rfl hI2
                have HRD1 : Hid (∀ W, Fr [] w2 W → Reads W W.heap.size 3 (some ⟨q, 0, none⟩) 0 []) := Lib.hid fun W _ => ⟨rfl, fun h => absurd h (by omega)⟩
                have HRD2 : Hid (∀ W, Fr [] w2 W → Reads W W.heap.size 3 (some ⟨q, 0, none⟩) O.length (rowF tmF O)) := Lib.hid fun W hW => Reads.of_own (rown_frS hI2.out hW (by simp))
                have HO1 : Hid (∀ u : Value, u ∈ ([] : List Value) → u.oneCell' = true) := Lib.hid fun u hu => by cases hu
                have HO2 : Hid (∀ u : Value, u ∈ rowF tmF O → u.oneCell' = true) := Lib.hid (rowF_one' tmF_one O)
                have HKL : Hid (0 ≤ 1) := Lib.hid (by omega)
                clear hI2
                go_wp2_with fail
                refine wp_region_held_drew (S := (fun W => Fr [] w2 W)) (by kernel_rfl) ?_ (fun hHeld => ?_)
                · (try dsimp only); exact hFd
                obtain ⟨v0, hv⟩ : ∃ X, w2.drew = X := ⟨_, rfl⟩
                rw [hv] at hHeld ⊢
                clear hv hFd
                refine take_yes 0 87 rfl rfl (by kernel_rfl) (by kernel_rfl) (by kernel_rfl) (fun _ _ _ h => h) (by rfl) (by assumption) (v := ?_) ?_ ?_
                rotate_left
                · intro w hSw; (try dsimp only at hSw); go_simp; (try with_reducible rfl)
                try simp only [Act.put, List.setIfInBounds_toArray, List.set_cons_zero, List.set_cons_succ]
                refine take_yes 1 88 rfl rfl (by kernel_rfl) (by kernel_rfl) (by kernel_rfl) (fun _ _ _ h => h) (by rfl) (by assumption) (v := ?_) ?_ ?_
                rotate_left
                · intro w hSw; (try dsimp only at hSw); go_simp; (try with_reducible rfl)
                try simp only [Act.put, List.setIfInBounds_toArray, List.set_cons_zero, List.set_cons_succ]
                refine take_yes 2 89 rfl rfl (by kernel_rfl) (by kernel_rfl) (by kernel_rfl) (fun _ _ _ h => h) (by rfl) (by assumption) (v := .slice (some ⟨q, 0, none⟩) 0 cO) ?_ ?_
                · intro w hSw; (try dsimp only at hSw); go_simp
                try simp only [Act.put, List.setIfInBounds_toArray, List.set_cons_zero, List.set_cons_succ]
                refine take_yes 4 91 rfl rfl (by kernel_rfl) (by kernel_rfl) (by kernel_rfl) (fun _ _ _ h => h) (by rfl) (by assumption) (v := ?_) ?_ ?_
                rotate_left
                · intro w hSw; (try dsimp only at hSw); go_simp; (try with_reducible rfl)
                try simp only [Act.put, List.setIfInBounds_toArray, List.set_cons_zero, List.set_cons_succ]
                refine take_yes 5 92 rfl rfl (by kernel_rfl) (by kernel_rfl) (by kernel_rfl) (fun _ _ _ h => h) (by rfl) (by assumption) (v := ?_) ?_ ?_
                rotate_left
                · intro w hSw; (try dsimp only at hSw); go_simp; (try with_reducible rfl)
                try simp only [Act.put, List.setIfInBounds_toArray, List.set_cons_zero, List.set_cons_succ]
                refine take_yes 6 93 rfl rfl (by kernel_rfl) (by kernel_rfl) (by kernel_rfl) (fun _ _ _ h => h) (by rfl) (by assumption) (v := ?_) ?_ ?_
                rotate_left
                · intro w hSw; (try dsimp only at hSw); go_simp; (try with_reducible rfl)
                try simp only [Act.put, List.setIfInBounds_toArray, List.set_cons_zero, List.set_cons_succ]
                refine take_yes 7 94 rfl rfl (by kernel_rfl) (by kernel_rfl) (by kernel_rfl) (fun _ _ _ h => h) (by rfl) (by assumption) (v := .slice (some ⟨qL, 0, none⟩) D.length cap) ?_ ?_
                · intro w hSw; (try dsimp only at hSw); obtain ⟨z1, z2, z3, z4⟩ := HCL.out w hSw; go_simp; (try with_reducible rfl)
                try simp only [Act.put, List.setIfInBounds_toArray, List.set_cons_zero, List.set_cons_succ]
                refine take_yes 8 95 rfl rfl (by kernel_rfl) (by kernel_rfl) (by kernel_rfl) (fun _ _ _ h => h) (by rfl) (by assumption) (v := ?_) ?_ ?_
                rotate_left
                · intro w hSw; (try dsimp only at hSw); go_simp; (try with_reducible rfl)
                try simp only [Act.put, List.setIfInBounds_toArray, List.set_cons_zero, List.set_cons_succ]
                refine take_yes 9 96 rfl rfl (by kernel_rfl) (by kernel_rfl) (by kernel_rfl) (fun _ _ _ h => h) (by rfl) (by assumption) (v := ?_) ?_ ?_
                rotate_left
                · intro w hSw; (try dsimp only at hSw); go_simp; (try with_reducible rfl)
                try simp only [Act.put, List.setIfInBounds_toArray, List.set_cons_zero, List.set_cons_succ]
                refine take_yes 10 97 rfl rfl (by kernel_rfl) (by kernel_rfl) (by kernel_rfl) (fun _ _ _ h => h) (by rfl) (by assumption) (v := .agg #[.int .i64 k1, .int .i64 k2, .int .i64 t]) ?_ ?_
                · intro w hSw; (try dsimp only at hSw); obtain ⟨z1, z2, z3, z4⟩ := HCL.out w hSw; go_simp; (try with_reducible rfl)
                try simp only [Act.put, List.setIfInBounds_toArray, List.set_cons_zero, List.set_cons_succ]
                refine take_yes 13 100 rfl rfl (by kernel_rfl) (by kernel_rfl) (by kernel_rfl) (fun _ _ _ h => h) (by rfl) (by assumption) (v := ?_) ?_ ?_
                rotate_left
                · intro w hSw; (try dsimp only at hSw); go_simp; (try with_reducible rfl)
                try simp only [Act.put, List.setIfInBounds_toArray, List.set_cons_zero, List.set_cons_succ]
                refine take_yes 14 101 rfl rfl (by kernel_rfl) (by kernel_rfl) (by kernel_rfl) (fun _ _ _ h => h) (by rfl) (by assumption) (v := ?_) ?_ ?_
                rotate_left
                · intro w hSw; (try dsimp only at hSw); go_simp; (try with_reducible rfl)
                try simp only [Act.put, List.setIfInBounds_toArray, List.set_cons_zero, List.set_cons_succ]
                refine take_yes 15 102 rfl rfl (by kernel_rfl) (by kernel_rfl) (by kernel_rfl) (fun _ _ _ h => h) (by rfl) (by assumption) (v := .slice (some ⟨q, 0, none⟩) O.length cO) ?_ ?_
                · intro w hSw; (try dsimp only at hSw); go_simp
                try simp only [Act.put, List.setIfInBounds_toArray, List.set_cons_zero, List.set_cons_succ]
                refine wpAnyH_ready (rs := [3, 11]) (by kernel_rfl) (by simp) ?_
                refine AllReadyH.cons (o := _) rfl (fun K hK => ?_) ?_
                · rw [if_pos (by rfl)]
                  (try simp only [List.getElem_toArray, List.getElem_cons_succ, List.getElem_cons_zero])
                  refine wp_app _ 90 rfl (.const (.slice none 0 0)) (.tmp 89) 132 rfl w2.heap.size 151 i0 (.agg #[.int .i64 0, .int .i64 0, .int .i64 0]) 3 24 Tryz.underlying132 hi0 hz0 hz1 hz2 rfl (by decide) _ 0 _ (by rfl) (World.ownsRow_nil _ w2.heap.size _ _) _ _ _ _ _ (by rfl) (HRD1.out _ hHeld) (HO1.out) ?_ ?_ hHeld.size ?_
                  · have := HOL.out; have := HKL.out; unfold maxLen; omega
                  · have := HOL.out; have := HKL.out; omega
                  intro va v1 hownA hgrA hrowA
                  rw [Nat.zero_add, List.nil_append] at hownA
                  have hFg := Fr.of_row hgrA
                  have hHeld2 : Fr [] w2 v1 := hHeld.grown hgrA (fun k hk => by cases hk)
                  refine hK.out _ _ ?_ (fun hHeld3 => ?_)
                  · (try dsimp only); exact hHeld2
                  clear hK K hHeld hFg hgrA hrowA
                  have hHeld := hHeld2
                  clear hHeld2 hHeld3
                  try simp only [Act.put, List.setIfInBounds_toArray, List.set_cons_zero, List.set_cons_succ]
                  refine wpAnyH_ready (rs := [11]) (by kernel_rfl) (by simp) ?_
                  refine AllReadyH.cons (o := _) rfl (fun K hK => ?_) AllReadyH.nil
                  go_simp
                  (try go_wp2_with fail)
                  have hFx : Fr [] v1 (v1.alloc (.cells #[.int .i64 k1, .int .i64 k2, .int .i64 t] 151 (0, 0))) := (Fr.refl _ _).alloc _
                  have hOwnX := World.ownsRow_lit (base := 0) (e := 151) (size := 3) v1 #[.int .i64 k1, .int .i64 k2, .int .i64 t] 1 (Nat.zero_le _) (by unfold maxLen; omega) rfl
                  obtain ⟨v2, hv⟩ : ∃ X, v1.alloc (.cells #[.int .i64 k1, .int .i64 k2, .int .i64 t] 151 (0, 0)) = X := ⟨_, rfl⟩
                  obtain ⟨qx, hqx⟩ : ∃ X, v1.heap.size = X := ⟨_, rfl⟩
                  rw [hv] at hFx hOwnX ⊢
                  rw [hqx] at hOwnX ⊢
                  have hHeld2 : Fr [] w2 v2 := hHeld.trans hFx
                  replace hownA := rown_frS hownA hFx (by simp)
                  refine hK.out _ _ ?_ (fun hHeld3 => ?_)
                  · (try dsimp only); exact hHeld2
                  clear hK K hHeld hFx hv hqx
                  have hHeld := hHeld2
                  clear hHeld2 hHeld3
                  try simp only [Act.put, List.setIfInBounds_toArray, List.set_cons_zero, List.set_cons_succ]
                  refine wpAnyH_ready (rs := [12]) (by kernel_rfl) (by simp) ?_
                  refine AllReadyH.cons (o := _) rfl (fun K hK => ?_) AllReadyH.nil
                  rw [if_pos (by rfl)]
                  (try simp only [List.getElem_toArray, List.getElem_cons_succ, List.getElem_cons_zero])
                  refine wp_app _ 99 rfl (.tmp 90) (.tmp 98) 132 rfl w2.heap.size 151 i0 (.agg #[.int .i64 0, .int .i64 0, .int .i64 0]) 3 24 Tryz.underlying132 hi0 hz0 hz1 hz2 rfl (by decide) _ 0 _ (by rfl) hownA _ _ _ _ _ (by rfl) (Reads.of_own hOwnX) (by simp [Value.oneCell']) ?_ ?_ hHeld.size ?_
                  · have := HOL.out; have := HKL.out; unfold maxLen; omega
                  · have := HOL.out; have := HKL.out; omega
                  intro vb v3 hownB hgrB hrowB
                  have hHeld2 : Fr [] w2 v3 := hHeld.grown hgrB (fun k hk => own_ge hownA hk)
                  refine hK.out _ _ ?_ (fun hHeld3 => ?_)
                  · (try dsimp only); exact hHeld2
                  clear hK K hHeld hownA hOwnX hgrB hrowB
                  have hHeld := hHeld2
                  clear hHeld2 hHeld3
                  try simp only [Act.put, List.setIfInBounds_toArray, List.set_cons_zero, List.set_cons_succ]
                  refine wpAnyH_ready (rs := [16]) (by kernel_rfl) (by simp) ?_
                  refine AllReadyH.cons (o := _) rfl (fun K hK => ?_) AllReadyH.nil
                  rw [if_pos (by rfl)]
                  (try simp only [List.getElem_toArray, List.getElem_cons_succ, List.getElem_cons_zero])
                  refine wp_app _ 103 rfl (.tmp 99) (.tmp 102) 132 rfl w2.heap.size 151 i0 (.agg #[.int .i64 0, .int .i64 0, .int .i64 0]) 3 24 Tryz.underlying132 hi0 hz0 hz1 hz2 rfl (by decide) _ (0 + 1) _ (by rfl) hownB _ _ _ _ _ (by rfl) (HRD2.out _ hHeld) (HO2.out) ?_ ?_ hHeld.size ?_
                  · have := HOL.out; have := HKL.out; unfold maxLen; omega
                  · have := HOL.out; have := HKL.out; omega
                  intro vc v4 hownC hgrC hrowC
                  have hHeld2 : Fr [] w2 v4 := hHeld.grown hgrC (fun k hk => own_ge hownB hk)
                  have HZ := Lib.hid (HEND.out _ _ hownC hHeld2)
                  refine hK.out _ _ ?_ (fun hHeld3 => ?_)
                  · (try dsimp only); exact hHeld2
                  clear hK K hHeld hownB hownC hgrC hrowC hHeld2
                  try simp only [Act.put, List.setIfInBounds_toArray, List.set_cons_zero, List.set_cons_succ]
                  refine take_yes 17 5 rfl rfl (by kernel_rfl) (by kernel_rfl) (by kernel_rfl) (fun _ _ _ h => h) (by rfl) (by assumption) (v := ?_) ?_ ?_
                  rotate_left
                  · intro w hSw; (try dsimp only at hSw); go_simp; (try with_reducible rfl)
                  try simp only [Act.put, List.setIfInBounds_toArray, List.set_cons_zero, List.set_cons_succ]
                  refine wpAnyH_done (by kernel_rfl) ?_ _
                  clear hHeld3
                  go_wp2_with fail
                  go_roundw
                  case rel => exact ⟨i + 1, _, _, _, _, by omega, by go_num, rfl, rfl, HS2.out, HZ.out⟩
                  case measure => (simp [intOf]) <;> omega
                refine AllReadyH.cons (o := _) rfl (fun K hK => ?_) AllReadyH.nil
                go_simp
                (try go_wp2_with fail)
                have hFx : Fr [] v0 (v0.alloc (.cells #[.int .i64 k1, .int .i64 k2, .int .i64 t] 151 (0, 0))) := (Fr.refl _ _).alloc _
                have hOwnX := World.ownsRow_lit (base := 0) (e := 151) (size := 3) v0 #[.int .i64 k1, .int .i64 k2, .int .i64 t] 1 (Nat.zero_le _) (by unfold maxLen; omega) rfl
                obtain ⟨v1, hv⟩ : ∃ X, v0.alloc (.cells #[.int .i64 k1, .int .i64 k2, .int .i64 t] 151 (0, 0)) = X := ⟨_, rfl⟩
                obtain ⟨qx, hqx⟩ : ∃ X, v0.heap.size = X := ⟨_, rfl⟩
                rw [hv] at hFx hOwnX ⊢
                rw [hqx] at hOwnX ⊢
                have hHeld2 : Fr [] w2 v1 := hHeld.trans hFx
                refine hK.out _ _ ?_ (fun hHeld3 => ?_)
                · (try dsimp only); exact hHeld2
                clear hK K hHeld hFx hv hqx
                have hHeld := hHeld2
                clear hHeld2 hHeld3
                try simp only [Act.put, List.setIfInBounds_toArray, List.set_cons_zero, List.set_cons_succ]
                refine wpAnyH_ready (rs := [3]) (by kernel_rfl) (by simp) ?_
                refine AllReadyH.cons (o := _) rfl (fun K hK => ?_) AllReadyH.nil
                rw [if_pos (by rfl)]
                (try simp only [List.getElem_toArray, List.getElem_cons_succ, List.getElem_cons_zero])
                refine wp_app _ 90 rfl (.const (.slice none 0 0)) (.tmp 89) 132 rfl w2.heap.size 151 i0 (.agg #[.int .i64 0, .int .i64 0, .int .i64 0]) 3 24 Tryz.underlying132 hi0 hz0 hz1 hz2 rfl (by decide) _ 0 _ (by rfl) (World.ownsRow_nil _ w2.heap.size _ _) _ _ _ _ _ (by rfl) (HRD1.out _ hHeld) (HO1.out) ?_ ?_ hHeld.size ?_
                · have := HOL.out; have := HKL.out; unfold maxLen; omega
                · have := HOL.out; have := HKL.out; omega
                intro va v2 hownA hgrA hrowA
                rw [Nat.zero_add, List.nil_append] at hownA
                have hFg := Fr.of_row hgrA
                have hHeld2 : Fr [] w2 v2 := hHeld.grown hgrA (fun k hk => by cases hk)
                replace hOwnX := rown_frS hOwnX hFg (by simp [Value.ownBlock])
                refine hK.out _ _ ?_ (fun hHeld3 => ?_)
                · (try dsimp only); exact hHeld2
                clear hK K hHeld hFg hgrA hrowA
                have hHeld := hHeld2
                clear hHeld2 hHeld3
                try simp only [Act.put, List.setIfInBounds_toArray, List.set_cons_zero, List.set_cons_succ]
                refine wpAnyH_ready (rs := [12]) (by kernel_rfl) (by simp) ?_
                refine AllReadyH.cons (o := _) rfl (fun K hK => ?_) AllReadyH.nil
                rw [if_pos (by rfl)]
                (try simp only [List.getElem_toArray, List.getElem_cons_succ, List.getElem_cons_zero])
                refine wp_app _ 99 rfl (.tmp 90) (.tmp 98) 132 rfl w2.heap.size 151 i0 (.agg #[.int .i64 0, .int .i64 0, .int .i64 0]) 3 24 Tryz.underlying132 hi0 hz0 hz1 hz2 rfl (by decide) _ 0 _ (by rfl) hownA _ _ _ _ _ (by rfl) (Reads.of_own hOwnX) (by simp [Value.oneCell']) ?_ ?_ hHeld.size ?_
                · have := HOL.out; have := HKL.out; unfold maxLen; omega
                · have := HOL.out; have := HKL.out; omega
                intro vb v3 hownB hgrB hrowB
                have hHeld2 : Fr [] w2 v3 := hHeld.grown hgrB (fun k hk => own_ge hownA hk)
                refine hK.out _ _ ?_ (fun hHeld3 => ?_)
                · (try dsimp only); exact hHeld2
                clear hK K hHeld hownA hOwnX hgrB hrowB
                have hHeld := hHeld2
                clear hHeld2 hHeld3
                try simp only [Act.put, List.setIfInBounds_toArray, List.set_cons_zero, List.set_cons_succ]
                refine wpAnyH_ready (rs := [16]) (by kernel_rfl) (by simp) ?_
                refine AllReadyH.cons (o := _) rfl (fun K hK => ?_) AllReadyH.nil
                rw [if_pos (by rfl)]
                (try simp only [List.getElem_toArray, List.getElem_cons_succ, List.getElem_cons_zero])
                refine wp_app _ 103 rfl (.tmp 99) (.tmp 102) 132 rfl w2.heap.size 151 i0 (.agg #[.int .i64 0, .int .i64 0, .int .i64 0]) 3 24 Tryz.underlying132 hi0 hz0 hz1 hz2 rfl (by decide) _ (0 + 1) _ (by rfl) hownB _ _ _ _ _ (by rfl) (HRD2.out _ hHeld) (HO2.out) ?_ ?_ hHeld.size ?_
                · have := HOL.out; have := HKL.out; unfold maxLen; omega
                · have := HOL.out; have := HKL.out; omega
                intro vc v4 hownC hgrC hrowC
                have hHeld2 : Fr [] w2 v4 := hHeld.grown hgrC (fun k hk => own_ge hownB hk)
                have HZ := Lib.hid (HEND.out _ _ hownC hHeld2)
                refine hK.out _ _ ?_ (fun hHeld3 => ?_)
                · (try dsimp only); exact hHeld2
                clear hK K hHeld hownB hownC hgrC hrowC hHeld2
                try simp only [Act.put, List.setIfInBounds_toArray, List.set_cons_zero, List.set_cons_succ]
                refine take_yes 17 5 rfl rfl (by kernel_rfl) (by kernel_rfl) (by kernel_rfl) (fun _ _ _ h => h) (by rfl) (by assumption) (v := ?_) ?_ ?_
                rotate_left
                · intro w hSw; (try dsimp only at hSw); go_simp; (try with_reducible rfl)
                try simp only [Act.put, List.setIfInBounds_toArray, List.set_cons_zero, List.set_cons_succ]
                refine wpAnyH_done (by kernel_rfl) ?_ _
                clear hHeld3
                go_wp2_with fail
                go_roundw
                case rel => exact ⟨i + 1, _, _, _, _, by omega, by go_num, rfl, rfl, HS2.out, HZ.out⟩
                case measure => (simp [intOf]) <;> omega
              · obtain ⟨j, hj2⟩ : ∃ j, k = j + 1 := ⟨k - 1, by omega⟩
                obtain ⟨⟨⟨b1, b2⟩, bt⟩, hy⟩ : ∃ y, O[j]? = some y := ⟨_, List.getElem?_eq_getElem (by omega)⟩
                have hstep : tpos O t k = if t < bt then tpos O t j else k := by
                  rw [hj2]
                  show (if t < (O.getD j ((0, 0), 0)).2 then tpos O t j else j + 1) = _
                  rw [List.getD_eq_getElem?_getD, hy]
                  rfl
                have HSTEP := Lib.hid hstep
                obtain ⟨q', hqq, _, hcell⟩ := HRO.out j _ hy
                cases hqq
                have b2c : wr.cell? ⟨q, j * 3 + 2, none⟩ = some (.int .i64 bt) := hcell wr HF3.out 2 _ rfl
                have hkj : IntKind.i64.wrap ((k : Int) - 1) = (j : Int) := by rw [IntKind.wrap_i64]; omega
                have hkj2 : wrap64 ((k : Int) - 1) = (j : Int) := by unfold wrap64; omega
                have hjO : (j : Int) < O.length := by omega
                have hj0 : (0 : Int) ≤ j := by omega
                have hkp : (0 : Int) < k := by omega
                have HJ := Lib.hid hj2
                clear hstep hcell hy
                by_cases hb : t < bt
                · have HP2 : Hid (tpos O t O.length = tpos O t j) := Lib.hid (by rw [HPK.out, HSTEP.out, if_pos hb])
                  clear hj2
                  go_wp2_with fail
                  go_quiet (fail)
                  go_wp2_with fail
                  go_roundw
                  case rel => exact ⟨j, by omega, by first | rfl | go_num, HP2.out, HF3.out.drewN _⟩
                  case measure => have := HJ.out; (simp [intOf]) <;> omega
                · have HP2 : Hid (tpos O t O.length = k) := Lib.hid (by rw [HPK.out, HSTEP.out, if_neg hb])
                  clear hj2
                  go_wp2_with fail
                  go_quiet (fail)
                  obtain ⟨w2, hw2⟩ : ∃ X, wr.drewN nq = X := ⟨_, rfl⟩
                  have hI2 : TkI wc g N (.slice (some ⟨qL, 0, none⟩) D.length cap) D O L (.slice (some ⟨q, 0, none⟩) O.length cO) lv w2 := by rw [← hw2]; exact HI.out.fr0 (HF3.out.drewN nq)
                  rw [hw2]
                  clear hw2 HF3 g0 g1 y0 y1 y2 b2c
                  have hFd : Fr [] w2 w2.drew := (Fr.refl [] w2).drew
                  have HCL : Hid (∀ W, Fr [] w2 W → W.cell? ⟨g, 1, none⟩ = some (.slice (some ⟨qL, 0, none⟩) D.length cap) ∧ W.cell? ⟨qL, i * 3, none⟩ = some (.int .i64 k1) ∧ W.cell? ⟨qL, i * 3 + 1, none⟩ = some (.int .i64 k2) ∧ W.cell? ⟨qL, i * 3 + 2, none⟩ = some (.int .i64 t)) := Lib.hid fun W hW => ⟨(HC.out _ (hI2.fr.trans hW)).1, HCL3.out _ (hI2.fr.trans hW)⟩
                  have HEND : Hid (∀ W vc, W.ownsRow w2.heap.size 151 3 vc (k + 1 + (O.length - k)) ((rowF tmF O).take (k * 3) ++ [.int .i64 k1, .int .i64 k2, .int .i64 t] ++ (rowF tmF O).drop (k * 3)) → Fr [] w2 W → TkI wc g N (.slice (some ⟨qL, 0, none⟩) D.length cap) D (tins O ((k1, k2), t)) L vc lv W) := Lib.hid fun W vc => HTE.out w2 k _ _ W vc HP2.out (rowF_take tmF_len O k hkO) (rowF_drop tmF_len O k hkO) hI2
                  have HRD1 : Hid (∀ W, Fr [] w2 W → Reads W W.heap.size 3 (some ⟨q, 0, none⟩) k ((rowF tmF O).take (k * 3))) := Lib.hid fun W hW => reads_take (Reads.of_own (rown_frS hI2.out hW (by simp))) hkO
                  obtain ⟨AX, hAX⟩ : ∃ x, (if cO = k then some (⟨q, 0, none⟩ : Addr) else some ⟨q, k * 3, none⟩) = x := ⟨_, rfl⟩
                  have hk3 : ¬ k * 3 = 0 := by omega
                  have HRD2 : Hid (∀ W, Fr [] w2 W → Reads W W.heap.size 3 AX (O.length - k) ((rowF tmF O).drop (k * 3))) := Lib.hid fun W hW => by
                    have := (Reads.of_own (rown_frS hI2.out hW (by simp))).cut (k := k) (cap := cO) hkO hcO
                    rw [← hAX]
                    simpa [Addr.add, hk3] using this
                  have HO1 : Hid (∀ u : Value, u ∈ (rowF tmF O).take (k * 3) → u.oneCell' = true) := Lib.hid fun u hu => rowF_one' tmF_one O u (List.mem_of_mem_take hu)
                  have HO2 : Hid (∀ u : Value, u ∈ (rowF tmF O).drop (k * 3) → u.oneCell' = true) := Lib.hid fun u hu => rowF_one' tmF_one O u (List.mem_of_mem_drop hu)
                  have HKL : Hid (k ≤ O.length) := Lib.hid hkO
                  have hck : ¬ cO < k := by omega
                  have hkI : (k : Int) ≤ O.length := by omega
                  clear hI2
                  go_wp2_with fail
                  refine wp_region_held_drew (S := (fun W => Fr [] w2 W)) (by kernel_rfl) ?_ (fun hHeld => ?_)
                  · (try dsimp only); exact hFd
                  obtain ⟨v0, hv⟩ : ∃ X, w2.drew = X := ⟨_, rfl⟩
                  rw [hv] at hHeld ⊢
                  clear hv hFd
                  refine take_yes 0 87 rfl rfl (by kernel_rfl) (by kernel_rfl) (by kernel_rfl) (fun _ _ _ h => h) (by rfl) (by assumption) (v := ?_) ?_ ?_
                  rotate_left
                  · intro w hSw; (try dsimp only at hSw); go_simp; (try with_reducible rfl)
                  try simp only [Act.put, List.setIfInBounds_toArray, List.set_cons_zero, List.set_cons_succ]
                  refine take_yes 1 88 rfl rfl (by kernel_rfl) (by kernel_rfl) (by kernel_rfl) (fun _ _ _ h => h) (by rfl) (by assumption) (v := ?_) ?_ ?_
                  rotate_left
                  · intro w hSw; (try dsimp only at hSw); go_simp; (try with_reducible rfl)
                  try simp only [Act.put, List.setIfInBounds_toArray, List.set_cons_zero, List.set_cons_succ]
                  refine take_yes 2 89 rfl rfl (by kernel_rfl) (by kernel_rfl) (by kernel_rfl) (fun _ _ _ h => h) (by rfl) (by assumption) (v := .slice (some ⟨q, 0, none⟩) k cO) ?_ ?_
                  · intro w hSw; (try dsimp only at hSw); go_simp
                  try simp only [Act.put, List.setIfInBounds_toArray, List.set_cons_zero, List.set_cons_succ]
                  refine take_yes 4 91 rfl rfl (by kernel_rfl) (by kernel_rfl) (by kernel_rfl) (fun _ _ _ h => h) (by rfl) (by assumption) (v := ?_) ?_ ?_
                  rotate_left
                  · intro w hSw; (try dsimp only at hSw); go_simp; (try with_reducible rfl)
                  try simp only [Act.put, List.setIfInBounds_toArray, List.set_cons_zero, List.set_cons_succ]
                  refine take_yes 5 92 rfl rfl (by kernel_rfl) (by kernel_rfl) (by kernel_rfl) (fun _ _ _ h => h) (by rfl) (by assumption) (v := ?_) ?_ ?_
                  rotate_left
                  · intro w hSw; (try dsimp only at hSw); go_simp; (try with_reducible rfl)
                  try simp only [Act.put, List.setIfInBounds_toArray, List.set_cons_zero, List.set_cons_succ]
                  refine take_yes 6 93 rfl rfl (by kernel_rfl) (by kernel_rfl) (by kernel_rfl) (fun _ _ _ h => h) (by rfl) (by assumption) (v := ?_) ?_ ?_
                  rotate_left
                  · intro w hSw; (try dsimp only at hSw); go_simp; (try with_reducible rfl)
                  try simp only [Act.put, List.setIfInBounds_toArray, List.set_cons_zero, List.set_cons_succ]
                  refine take_yes 7 94 rfl rfl (by kernel_rfl) (by kernel_rfl) (by kernel_rfl) (fun _ _ _ h => h) (by rfl) (by assumption) (v := .slice (some ⟨qL, 0, none⟩) D.length cap) ?_ ?_
                  · intro w hSw; (try dsimp only at hSw); obtain ⟨z1, z2, z3, z4⟩ := HCL.out w hSw; go_simp; (try with_reducible rfl)
                  try simp only [Act.put, List.setIfInBounds_toArray, List.set_cons_zero, List.set_cons_succ]
                  refine take_yes 8 95 rfl rfl (by kernel_rfl) (by kernel_rfl) (by kernel_rfl) (fun _ _ _ h => h) (by rfl) (by assumption) (v := ?_) ?_ ?_
                  rotate_left
                  · intro w hSw; (try dsimp only at hSw); go_simp; (try with_reducible rfl)
                  try simp only [Act.put, List.setIfInBounds_toArray, List.set_cons_zero, List.set_cons_succ]
                  refine take_yes 9 96 rfl rfl (by kernel_rfl) (by kernel_rfl) (by kernel_rfl) (fun _ _ _ h => h) (by rfl) (by assumption) (v := ?_) ?_ ?_
                  rotate_left
                  · intro w hSw; (try dsimp only at hSw); go_simp; (try with_reducible rfl)
                  try simp only [Act.put, List.setIfInBounds_toArray, List.set_cons_zero, List.set_cons_succ]
                  refine take_yes 10 97 rfl rfl (by kernel_rfl) (by kernel_rfl) (by kernel_rfl) (fun _ _ _ h => h) (by rfl) (by assumption) (v := .agg #[.int .i64 k1, .int .i64 k2, .int .i64 t]) ?_ ?_
                  · intro w hSw; (try dsimp only at hSw); obtain ⟨z1, z2, z3, z4⟩ := HCL.out w hSw; go_simp; (try with_reducible rfl)
                  try simp only [Act.put, List.setIfInBounds_toArray, List.set_cons_zero, List.set_cons_succ]
                  refine take_yes 13 100 rfl rfl (by kernel_rfl) (by kernel_rfl) (by kernel_rfl) (fun _ _ _ h => h) (by rfl) (by assumption) (v := ?_) ?_ ?_
                  rotate_left
                  · intro w hSw; (try dsimp only at hSw); go_simp; (try with_reducible rfl)
                  try simp only [Act.put, List.setIfInBounds_toArray, List.set_cons_zero, List.set_cons_succ]
                  refine take_yes 14 101 rfl rfl (by kernel_rfl) (by kernel_rfl) (by kernel_rfl) (fun _ _ _ h => h) (by rfl) (by assumption) (v := ?_) ?_ ?_
                  rotate_left
                  · intro w hSw; (try dsimp only at hSw); go_simp; (try with_reducible rfl)
                  try simp only [Act.put, List.setIfInBounds_toArray, List.set_cons_zero, List.set_cons_succ]
                  refine take_yes 15 102 rfl rfl (by kernel_rfl) (by kernel_rfl) (by kernel_rfl) (fun _ _ _ h => h) (by rfl) (by assumption) (v := .slice AX (O.length - k) (cO - k)) ?_ ?_
                  · intro w hSw; (try dsimp only at hSw); go_simp
                  try simp only [Act.put, List.setIfInBounds_toArray, List.set_cons_zero, List.set_cons_succ]
                  refine wpAnyH_ready (rs := [3, 11]) (by kernel_rfl) (by simp) ?_
                  refine AllReadyH.cons (o := _) rfl (fun K hK => ?_) ?_
                  · rw [if_pos (by rfl)]
                    (try simp only [List.getElem_toArray, List.getElem_cons_succ, List.getElem_cons_zero])
                    refine wp_app _ 90 rfl (.const (.slice none 0 0)) (.tmp 89) 132 rfl w2.heap.size 151 i0 (.agg #[.int .i64 0, .int .i64 0, .int .i64 0]) 3 24 Tryz.underlying132 hi0 hz0 hz1 hz2 rfl (by decide) _ 0 _ (by rfl) (World.ownsRow_nil _ w2.heap.size _ _) _ _ _ _ _ (by rfl) (HRD1.out _ hHeld) (HO1.out) ?_ ?_ hHeld.size ?_
                    · have := HOL.out; have := HKL.out; unfold maxLen; omega
                    · have := HOL.out; have := HKL.out; omega
                    intro va v1 hownA hgrA hrowA
                    rw [Nat.zero_add, List.nil_append] at hownA
                    have hFg := Fr.of_row hgrA
                    have hHeld2 : Fr [] w2 v1 := hHeld.grown hgrA (fun k hk => by cases hk)
                    refine hK.out _ _ ?_ (fun hHeld3 => ?_)
                    · (try dsimp only); exact hHeld2
                    clear hK K hHeld hFg hgrA hrowA
                    have hHeld := hHeld2
                    clear hHeld2 hHeld3
                    try simp only [Act.put, List.setIfInBounds_toArray, List.set_cons_zero, List.set_cons_succ]
                    refine wpAnyH_ready (rs := [11]) (by kernel_rfl) (by simp) ?_
                    refine AllReadyH.cons (o := _) rfl (fun K hK => ?_) AllReadyH.nil
                    go_simp
                    (try go_wp2_with fail)
                    have hFx : Fr [] v1 (v1.alloc (.cells #[.int .i64 k1, .int .i64 k2, .int .i64 t] 151 (0, 0))) := (Fr.refl _ _).alloc _
                    have hOwnX := World.ownsRow_lit (base := 0) (e := 151) (size := 3) v1 #[.int .i64 k1, .int .i64 k2, .int .i64 t] 1 (Nat.zero_le _) (by unfold maxLen; omega) rfl
                    obtain ⟨v2, hv⟩ : ∃ X, v1.alloc (.cells #[.int .i64 k1, .int .i64 k2, .int .i64 t] 151 (0, 0)) = X := ⟨_, rfl⟩
                    obtain ⟨qx, hqx⟩ : ∃ X, v1.heap.size = X := ⟨_, rfl⟩
                    rw [hv] at hFx hOwnX ⊢
                    rw [hqx] at hOwnX ⊢
                    have hHeld2 : Fr [] w2 v2 := hHeld.trans hFx
                    replace hownA := rown_frS hownA hFx (by simp)
                    refine hK.out _ _ ?_ (fun hHeld3 => ?_)
                    · (try dsimp only); exact hHeld2
                    clear hK K hHeld hFx hv hqx
                    have hHeld := hHeld2
                    clear hHeld2 hHeld3
                    try simp only [Act.put, List.setIfInBounds_toArray, List.set_cons_zero, List.set_cons_succ]
                    refine wpAnyH_ready (rs := [12]) (by kernel_rfl) (by simp) ?_
                    refine AllReadyH.cons (o := _) rfl (fun K hK => ?_) AllReadyH.nil
                    rw [if_pos (by rfl)]
                    (try simp only [List.getElem_toArray, List.getElem_cons_succ, List.getElem_cons_zero])
                    refine wp_app _ 99 rfl (.tmp 90) (.tmp 98) 132 rfl w2.heap.size 151 i0 (.agg #[.int .i64 0, .int .i64 0, .int .i64 0]) 3 24 Tryz.underlying132 hi0 hz0 hz1 hz2 rfl (by decide) _ k _ (by rfl) hownA _ _ _ _ _ (by rfl) (Reads.of_own hOwnX) (by simp [Value.oneCell']) ?_ ?_ hHeld.size ?_
                    · have := HOL.out; have := HKL.out; unfold maxLen; omega
                    · have := HOL.out; have := HKL.out; omega
                    intro vb v3 hownB hgrB hrowB
                    have hHeld2 : Fr [] w2 v3 := hHeld.grown hgrB (fun k hk => own_ge hownA hk)
                    refine hK.out _ _ ?_ (fun hHeld3 => ?_)
                    · (try dsimp only); exact hHeld2
                    clear hK K hHeld hownA hOwnX hgrB hrowB
                    have hHeld := hHeld2
                    clear hHeld2 hHeld3
                    try simp only [Act.put, List.setIfInBounds_toArray, List.set_cons_zero, List.set_cons_succ]
                    refine wpAnyH_ready (rs := [16]) (by kernel_rfl) (by simp) ?_
                    refine AllReadyH.cons (o := _) rfl (fun K hK => ?_) AllReadyH.nil
                    rw [if_pos (by rfl)]
                    (try simp only [List.getElem_toArray, List.getElem_cons_succ, List.getElem_cons_zero])
                    refine wp_app _ 103 rfl (.tmp 99) (.tmp 102) 132 rfl w2.heap.size 151 i0 (.agg #[.int .i64 0, .int .i64 0, .int .i64 0]) 3 24 Tryz.underlying132 hi0 hz0 hz1 hz2 rfl (by decide) _ (k + 1) _ (by rfl) hownB _ _ _ _ _ (by rfl) (HRD2.out _ hHeld) (HO2.out) ?_ ?_ hHeld.size ?_
                    · have := HOL.out; have := HKL.out; unfold maxLen; omega
                    · have := HOL.out; have := HKL.out; omega
                    intro vc v4 hownC hgrC hrowC
                    have hHeld2 : Fr [] w2 v4 := hHeld.grown hgrC (fun k hk => own_ge hownB hk)
                    have HZ := Lib.hid (HEND.out _ _ hownC hHeld2)
                    refine hK.out _ _ ?_ (fun hHeld3 => ?_)
                    · (try dsimp only); exact hHeld2
                    clear hK K hHeld hownB hownC hgrC hrowC hHeld2
                    try simp only [Act.put, List.setIfInBounds_toArray, List.set_cons_zero, List.set_cons_succ]
                    refine take_yes 17 5 rfl rfl (by kernel_rfl) (by kernel_rfl) (by kernel_rfl) (fun _ _ _ h => h) (by rfl) (by assumption) (v := ?_) ?_ ?_
                    rotate_left
                    · intro w hSw; (try dsimp only at hSw); go_simp; (try with_reducible rfl)
                    try simp only [Act.put, List.setIfInBounds_toArray, List.set_cons_zero, List.set_cons_succ]
                    refine wpAnyH_done (by kernel_rfl) ?_ _
                    clear hHeld3
                    go_wp2_with fail
                    go_roundw
                    case rel => exact ⟨i + 1, _, _, _, _, by omega, by go_num, rfl, rfl, HS2.out, HZ.out⟩
                    case measure => (simp [intOf]) <;> omega
                  refine AllReadyH.cons (o := _) rfl (fun K hK => ?_) AllReadyH.nil
                  go_simp
                  (try go_wp2_with fail)
                  have hFx : Fr [] v0 (v0.alloc (.cells #[.int .i64 k1, .int .i64 k2, .int .i64 t] 151 (0, 0))) := (Fr.refl _ _).alloc _
                  have hOwnX := World.ownsRow_lit (base := 0) (e := 151) (size := 3) v0 #[.int .i64 k1, .int .i64 k2, .int .i64 t] 1 (Nat.zero_le _) (by unfold maxLen; omega) rfl
                  obtain ⟨v1, hv⟩ : ∃ X, v0.alloc (.cells #[.int .i64 k1, .int .i64 k2, .int .i64 t] 151 (0, 0)) = X := ⟨_, rfl⟩
                  obtain ⟨qx, hqx⟩ : ∃ X, v0.heap.size = X := ⟨_, rfl⟩
                  rw [hv] at hFx hOwnX ⊢
                  rw [hqx] at hOwnX ⊢
                  have hHeld2 : Fr [] w2 v1 := hHeld.trans hFx
                  refine hK.out _ _ ?_ (fun hHeld3 => ?_)
                  · (try dsimp only); exact hHeld2
                  clear hK K hHeld hFx hv hqx
                  have hHeld := hHeld2
                  clear hHeld2 hHeld3
                  try simp only [Act.put, List.setIfInBounds_toArray, List.set_cons_zero, List.set_cons_succ]
                  refine wpAnyH_ready (rs := [3]) (by kernel_rfl) (by simp) ?_
                  refine AllReadyH.cons (o := _) rfl (fun K hK => ?_) AllReadyH.nil
                  rw [if_pos (by rfl)]
                  (try simp only [List.getElem_toArray, List.getElem_cons_succ, List.getElem_cons_zero])
                  refine wp_app _ 90 rfl (.const (.slice none 0 0)) (.tmp 89) 132 rfl w2.heap.size 151 i0 (.agg #[.int .i64 0, .int .i64 0, .int .i64 0]) 3 24 Tryz.underlying132 hi0 hz0 hz1 hz2 rfl (by decide) _ 0 _ (by rfl) (World.ownsRow_nil _ w2.heap.size _ _) _ _ _ _ _ (by rfl) (HRD1.out _ hHeld) (HO1.out) ?_ ?_ hHeld.size ?_
                  · have := HOL.out; have := HKL.out; unfold maxLen; omega
                  · have := HOL.out; have := HKL.out; omega
                  intro va v2 hownA hgrA hrowA
                  rw [Nat.zero_add, List.nil_append] at hownA
                  have hFg := Fr.of_row hgrA
                  have hHeld2 : Fr [] w2 v2 := hHeld.grown hgrA (fun k hk => by cases hk)
                  replace hOwnX := rown_frS hOwnX hFg (by simp [Value.ownBlock])
                  refine hK.out _ _ ?_ (fun hHeld3 => ?_)
                  · (try dsimp only); exact hHeld2
                  clear hK K hHeld hFg hgrA hrowA
                  have hHeld := hHeld2
                  clear hHeld2 hHeld3
                  try simp only [Act.put, List.setIfInBounds_toArray, List.set_cons_zero, List.set_cons_succ]
                  refine wpAnyH_ready (rs := [12]) (by kernel_rfl) (by simp) ?_
                  refine AllReadyH.cons (o := _) rfl (fun K hK => ?_) AllReadyH.nil
                  rw [if_pos (by rfl)]
                  (try simp only [List.getElem_toArray, List.getElem_cons_succ, List.getElem_cons_zero])
                  refine wp_app _ 99 rfl (.tmp 90) (.tmp 98) 132 rfl w2.heap.size 151 i0 (.agg #[.int .i64 0, .int .i64 0, .int .i64 0]) 3 24 Tryz.underlying132 hi0 hz0 hz1 hz2 rfl (by decide) _ k _ (by rfl) hownA _ _ _ _ _ (by rfl) (Reads.of_own hOwnX) (by simp [Value.oneCell']) ?_ ?_ hHeld.size ?_
                  · have := HOL.out; have := HKL.out; unfold maxLen; omega
                  · have := HOL.out; have := HKL.out; omega
                  intro vb v3 hownB hgrB hrowB
                  have hHeld2 : Fr [] w2 v3 := hHeld.grown hgrB (fun k hk => own_ge hownA hk)
                  refine hK.out _ _ ?_ (fun hHeld3 => ?_)
                  · (try dsimp only); exact hHeld2
                  clear hK K hHeld hownA hOwnX hgrB hrowB
                  have hHeld := hHeld2
                  clear hHeld2 hHeld3
                  try simp only [Act.put, List.setIfInBounds_toArray, List.set_cons_zero, List.set_cons_succ]
                  refine wpAnyH_ready (rs := [16]) (by kernel_rfl) (by simp) ?_
                  refine AllReadyH.cons (o := _) rfl (fun K hK => ?_) AllReadyH.nil
                  rw [if_pos (by rfl)]
                  (try simp only [List.getElem_toArray, List.getElem_cons_succ, List.getElem_cons_zero])
                  refine wp_app _ 103 rfl (.tmp 99) (.tmp 102) 132 rfl w2.heap.size 151 i0 (.agg #[.int .i64 0, .int .i64 0, .int .i64 0]) 3 24 Tryz.underlying132 hi0 hz0 hz1 hz2 rfl (by decide) _ (k + 1) _ (by rfl) hownB _ _ _ _ _ (by rfl) (HRD2.out _ hHeld) (HO2.out) ?_ ?_ hHeld.size ?_
                  · have := HOL.out; have := HKL.out; unfold maxLen; omega
                  · have := HOL.out; have := HKL.out; omega
                  intro vc v4 hownC hgrC hrowC
                  have hHeld2 : Fr [] w2 v4 := hHeld.grown hgrC (fun k hk => own_ge hownB hk)
                  have HZ := Lib.hid (HEND.out _ _ hownC hHeld2)
                  refine hK.out _ _ ?_ (fun hHeld3 => ?_)
                  · (try dsimp only); exact hHeld2
                  clear hK K hHeld hownB hownC hgrC hrowC hHeld2
                  try simp only [Act.put, List.setIfInBounds_toArray, List.set_cons_zero, List.set_cons_succ]
                  refine take_yes 17 5 rfl rfl (by kernel_rfl) (by kernel_rfl) (by kernel_rfl) (fun _ _ _ h => h) (by rfl) (by assumption) (v := ?_) ?_ ?_
                  rotate_left
                  · intro w hSw; (try dsimp only at hSw); go_simp; (try with_reducible rfl)
                  try simp only [Act.put, List.setIfInBounds_toArray, List.set_cons_zero, List.set_cons_succ]
                  refine wpAnyH_done (by kernel_rfl) ?_ _
                  clear hHeld3
                  go_wp2_with fail
                  go_roundw
                  case rel => exact ⟨i + 1, _, _, _, _, by omega, by go_num, rfl, rfl, HS2.out, HZ.out⟩
                  case measure => (simp [intOf]) <;> omega
      · obtain rfl : i = D.length := by omega
        rw [List.take_length] at hOL
        obtain ⟨AL, cL, rfl⟩ := rown_slice hI.left
        have HEND : Hid (TickD w g N D (.returned ov) (wr.setCell ⟨g, 1, none⟩ (.slice AL L.length cL))) := Lib.hid <| by
          have hT := HI.out
          have hlt : g < wc.heap.size := HCX.out.st.lt
          have hFs : Fr [g] wr (wr.setCell ⟨g, 1, none⟩ (.slice AL L.length cL)) := (Fr.refl [g] wr).setCell (p := ⟨g, 1, none⟩) (by simp) (.slice AL L.length cL)
          have hst : Blk (wr.setCell ⟨g, 1, none⟩ (.slice AL L.length cL)) g #[.int .i64 N, .slice AL L.length cL] 134 := by
            have := hT.ck.st.set 1 (.slice AL L.length cL)
            simpa using this
          refine ⟨ov, _, rfl, ?_, ⟨hst, ?_⟩, fun k hk => Nat.le_trans HFX.out.size (own_ge hT.left hk), hT.sep, (HFX.out.trans (hT.fr.mono (by simp))).trans hFs⟩
          · rw [hOL]
            refine own_low (rown_frS hT.out hFs (fun k hk => ?_)) HFX.out.size
            have := own_ge hT.out hk
            simp
            omega
          · rw [hOL]
            refine own_low (rown_frS hT.left hFs (fun k hk => ?_)) (Nat.zero_le _)
            have := own_ge hT.left hk
            simp
            omega
        have f1 := hI.ck.st.fz 1
        clear hI hOL hlen
        go_wp2_with fail
        go_ret
        exact HEND.out
end
end Go.Proofs.YtfchbppfbepelaaGreat
