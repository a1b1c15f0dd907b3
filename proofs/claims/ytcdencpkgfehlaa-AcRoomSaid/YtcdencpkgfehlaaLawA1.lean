/- AcRoom (printed by tools/gen_room.py). -/
import Derived.Test.YtcdencpkgfehlaaRoom
import Derived.Test.YtcdencpkgfehlaaAsked
import Derived.Test.YtcdencpkgfehlaaAcW
import Derived.Test.YtcdencpkgfehlaaRowsAt
import Derived.Below
import Derived.Deep.DeepCutAuto
namespace Go.Proofs.Ytcdencpkgfehlaa
open Go.ChangeShapes Go.WideShapes Go.ChangeAt Go.RowKit Go.Deep Go.Maps
set_option linter.unusedVariables false
def intL (x : Int) : List Value := [.int .i64 x]
section
variable {H : Type} {enc : TypeId × Value → H} {w : World} {base : Nat} {spare : Nat → Bool} {held : Bool}
theorem dec_int (n : Nat) (cs : List Value) (x : DataW H × List MemPlace) (h : DataW.trod enc Try.prog w base spare held n 3 cs = some x) : ∃ r, cs = intL r ∧ True := by
  obtain ⟨m, rfl, _, _⟩ := DataW.trod_int Try.underlying3 h
  exact ⟨m, rfl, trivial⟩
theorem open_intsR {a : Option Addr} {len cap : Nat} {d : DataW H} {ps : List MemPlace} (h : DataW.Trod enc Try.prog w base spare held 47 (.slice a len cap) d ps) :
    ∃ l, RowsAt w a len cap 1 intL (fun _ => True) l := rows_of Try.underlying47 int_cells (by decide) (fun n cs x hx => dec_int n cs x hx) h
end
theorem and7 (n : Int) : bits .and .i64 n 7 = n % 8 := by
  show IntKind.i64.wrap ((BitVec.ofInt 64 n &&& BitVec.ofInt 64 7).toNat : Int) = _
  have h7 : (BitVec.ofInt 64 7).toNat = 2 ^ 3 - 1 := by decide
  rw [BitVec.toNat_and, h7, Nat.and_two_pow_sub_one_eq_mod, BitVec.toNat_ofInt, IntKind.wrap_i64]
  simp only [Nat.reducePow]
  omega
/-- how many of the first k are of a card -/
def ownT (L : List Ses) (k : Nat) (m : Mc) : Nat := ofCard (L.take k) m
theorem ownT_succ (L : List Ses) (k : Nat) (m : Mc) (s : Ses) (h : L[k]? = some s) : ownT L (k + 1) m = ownT L k m + (if s.m = m then 1 else 0) := by
  unfold ownT
  rw [List.take_add_one, h]
  exact ofCard_snoc _ _ _
theorem ownT_le (L : List Ses) (k : Nat) (m : Mc) : ownT L k m ≤ ofCard L m := by
  unfold ownT ofCard
  exact List.Sublist.length_le (List.Sublist.filter _ (List.take_sublist _ _))
theorem ofCard_perm {L S : List Ses} (h : L.Perm S) (m : Mc) : ofCard L m = ofCard S m := (h.filter _).length_eq
theorem nums_ne {L : List Ses} (h : L.Pairwise fun a b => a.n < b.n) {i j : Nat} {s t : Ses} (hi : L[i]? = some s) (hj : L[j]? = some t) (hne : j ≠ i) : t.n ≠ s.n := by
  rw [List.pairwise_iff_getElem] at h
  obtain ⟨hi1, rfl⟩ := List.getElem?_eq_some_iff.1 hi
  obtain ⟨hj1, rfl⟩ := List.getElem?_eq_some_iff.1 hj
  rcases Nat.lt_or_gt_of_ne hne with h1 | h1
  · have := h j i hj1 hi1 h1; omega
  · have := h i j hi1 hj1 h1; omega
set_option maxRecDepth 100000 in
set_option maxHeartbeats 16000000 in
theorem acRoom_walk (w : World) (most : Int) (m0 : -9223372036854775808 ≤ most) (m1 : most ≤ 9223372036854775807) (a : Option Addr) (len cap : Nat) (l : List Int) (hR : RowsAt w a len cap 1 intL (fun _ => True) l) :
    Calls Try.prog 7 #[.int .i64 most, .slice a len cap] w fun e w' => e = .returned (.bool true) ∧ Below w.heap.size w w' := by
  have AL := Lib.hid fun W => alive7 W
  have HR := Lib.hid hR
  have hlm : len ≤ maxLen := Nat.le_trans hR.2.1 hR.2.2.1
  unfold maxLen at hlm
  have hF0 := (Fr.refl [] w).alloc (.cells #[.int .u8 9, .int .u8 0, .int .u8 0, .int .u8 0, .int .u8 0, .int .u8 0] 28 (0, 0))
  have hN0 := Blk.new w #[.int .u8 9, .int .u8 0, .int .u8 0, .int .u8 0, .int .u8 0, .int .u8 0] 28
  have HF0 := Lib.hid hF0
  have HN0 := Lib.hid hN0
  have HSZ0 : Hid ((w.alloc (.cells #[.int .u8 9, .int .u8 0, .int .u8 0, .int .u8 0, .int .u8 0, .int .u8 0] 28 (0, 0))).heap.size = w.heap.size + 1) := Lib.hid (by simp)
  clear hR hF0 hN0
  by_cases hb : 1 ≤ most ∧ most ≤ 60
  · obtain ⟨hb0, hb1⟩ := hb
    have NW := Lib.hid fun W => cnew_ok (w := W) mc9 most hb0 hb1
    unfold mcL B at NW
    rw [show mc9 = ⟨9, 0, 0, 0, 0, 0⟩ from rfl] at NW
    simp only at NW
    by_cases hl2 : (200 : Int) < len
    · go_enter Try.func7, Try.ntmps7
      go_wp2_with fail
      refine (NW.out _).mono ?_
      rintro e w1 ⟨g, xa, xb, rfl, hg, hxa, hxb, hC, hF1⟩
      have HF1 := Lib.hid (HF0.out.trans hF1)
      clear hg hxa hxb hC hF1 NW
      go_wp2_with fail
      refine (AL.out _).mono ?_
      rintro e w2 ⟨rfl, hF2⟩
      have HF2 := Lib.hid (HF1.out.trans hF2)
      clear hF2
      go_wp2_with fail
      go_ret
      exact ⟨rfl, HF2.out.below (Nat.le_refl _) (by simp)⟩
    · have hl3 : len ≤ 200 := by omega
      have HL3 := Lib.hid hl3
      have HB1 := Lib.hid hb1
      go_enter Try.func7, Try.ntmps7
      go_wp2_with fail
      refine (NW.out _).mono ?_
      rintro e w1 ⟨g, xa, xb, rfl, hg, hxa, hxb, hC, hF1⟩
      have hRm : Room most g xa xb (w.heap.size + 1) w1.heap.size 0 w1 := ⟨[], [], 0, .slice none 0 0, hC, by simp; omega, (fun m => by simp [ofCard]), by simp, by simp, (fun x hx => by
        rw [HSZ0.out] at hg hxa hxb
        have h1 := hC.st.lt
        have h2 := hC.hM.lt
        have h3 := hC.tM.lt
        simp [Value.ownBlock] at hx h2 h3
        rcases hx with rfl | rfl | rfl <;> omega)⟩
      have bm := hF1.blk HN0.out (by simp)
      have hFw := HF0.out.trans hF1
      obtain ⟨qm, hqm⟩ : ∃ q, w.heap.size = q := ⟨_, rfl⟩
      obtain ⟨b, hbq⟩ : ∃ q, qm + 1 = q := ⟨_, rfl⟩
      rw [hqm] at bm hRm ⊢
      rw [hbq] at hRm
      have HQB : Hid (w.heap.size = qm ∧ qm + 1 = b) := Lib.hid ⟨hqm, hbq⟩
      clear hg hxa hxb hC hF1 hqm hbq NW
      go_wp2_with fail
      go_loopw [8] (fun iv wr => ∃ j : Nat, j ≤ len ∧ iv = .int .i64 j ∧ Room most g xa xb b wr.heap.size j wr ∧ Blk wr qm #[.int .u8 9, .int .u8 0, .int .u8 0, .int .u8 0, .int .u8 0, .int .u8 0] 28 ∧ Fr [] w wr) (fun iv _ => len - (intOf iv).toNat)
      case atStart => exact ⟨0, by omega, rfl, hRm, bm, hFw⟩
      case round =>
        clear hRm bm hFw
        obtain ⟨j, hj, rfl, hRm, bm, hF⟩ := hrel
        have HRM := Lib.hid hRm
        have HBM := Lib.hid bm
        have HF := Lib.hid hF
        clear hRm bm hF
        have hjb : (j : Int) ≤ 200 := by omega
        by_cases hjl : j < len
        · obtain ⟨bb, off, x, rfl, hbb, hx, _, hcell⟩ := HR.out.at_ j hjl
          have HCX : Hid (∀ W, Fr [] w W → W.cell? ⟨bb, off + j, none⟩ = some (.int .i64 x)) := Lib.hid fun W hW => by simpa using hcell W hW 0 _ rfl
          have x0 := HCX.out _ HF.out
          obtain ⟨hb, hhb⟩ : ∃ y, x % 8 = y := ⟨_, rfl⟩
          have hb8 : 0 ≤ hb ∧ hb ≤ 7 := by omega
          have ha7 := and7 x
          rw [hhb] at ha7
          have hwr : IntKind.u8.wrap hb = hb := by rw [IntKind.wrap_u8]; omega
          have HHB := Lib.hid hb8
          have HJ := Lib.hid hjl
          clear hcell hx hbb hhb hb8
          obtain ⟨n, hn⟩ : ∃ n, wr.heap.size = n := ⟨_, rfl⟩
          have hNH := Blk.new wr #[.int .u8 hb, .int .u8 0, .int .u8 0, .int .u8 0, .int .u8 0, .int .u8 0] 28
          have hFH := (Fr.refl [] wr).alloc (.cells #[.int .u8 hb, .int .u8 0, .int .u8 0, .int .u8 0, .int .u8 0, .int .u8 0] 28 (0, 0))
          have x1 : (wr.alloc (.cells #[.int .u8 hb, .int .u8 0, .int .u8 0, .int .u8 0, .int .u8 0, .int .u8 0] 28 (0, 0))).cell? ⟨bb, off + j, none⟩ = some (.int .i64 x) := HCX.out _ (HF.out.trans hFH)
          have hNQ := hFH.blk HBM.out (by simp)
          have hqb : qm < b := by have := HQB.out; omega
          have hwb : w.heap.size ≤ b := by have := HQB.out; omega
          obtain ⟨c8, hc8⟩ : ∃ c, (bits .and .i64 x 8 == 0) = c := ⟨_, rfl⟩
          have HWB := Lib.hid hwb
          have HQM := Lib.hid hqb
          clear hqb hwb
          go_upto_if 57 with fail
          rw [hn] at hNH
          obtain ⟨W3, hW3⟩ : ∃ V, wr.alloc (.cells #[.int .u8 hb, .int .u8 0, .int .u8 0, .int .u8 0, .int .u8 0, .int .u8 0] 28 (0, 0)) = V := ⟨_, rfl⟩
          rw [hW3] at hNH hFH hNQ x1 ⊢
          have HX : Hid (∀ W, FrB b n W3 W → (fun W => (W.cell? ⟨n, 0, none⟩ = some (.int .u8 hb) ∧ W.cell? ⟨n, 1, none⟩ = some (.int .u8 0) ∧ W.cell? ⟨n, 2, none⟩ = some (.int .u8 0) ∧ W.cell? ⟨n, 3, none⟩ = some (.int .u8 0) ∧ W.cell? ⟨n, 4, none⟩ = some (.int .u8 0) ∧ W.cell? ⟨n, 5, none⟩ = some (.int .u8 0) ∧ W.cell? ⟨qm, 0, none⟩ = some (.int .u8 9) ∧ W.cell? ⟨qm, 1, none⟩ = some (.int .u8 0) ∧ W.cell? ⟨qm, 2, none⟩ = some (.int .u8 0) ∧ W.cell? ⟨qm, 3, none⟩ = some (.int .u8 0) ∧ W.cell? ⟨qm, 4, none⟩ = some (.int .u8 0) ∧ W.cell? ⟨qm, 5, none⟩ = some (.int .u8 0) ∧ W.cell? ⟨bb, off + j, none⟩ = some (.int .i64 x)) ∧ FrB b n W3 W) W) := Lib.hid fun W hW => by
            have bh := hW.blk hNH (Or.inr (Nat.le_refl _))
            have bq := hW.blk hNQ (Or.inl HQM.out)
            exact ⟨⟨bh.c 0 _ rfl, bh.c 1 _ rfl, bh.c 2 _ rfl, bh.c 3 _ rfl, bh.c 4 _ rfl, bh.c 5 _ rfl, bq.c 0 _ rfl, bq.c 1 _ rfl, bq.c 2 _ rfl, bq.c 3 _ rfl, bq.c 4 _ rfl, bq.c 5 _ rfl, HCX.out _ (FrB.sub (HF.out.trans hFH) hW HWB.out)⟩, hW⟩
          have HRM3 : Hid (Room most g xa xb b n j W3) := Lib.hid (by have := HRM.out; rw [hn] at this; exact this.fr0 hFH)
          have HF3 := Lib.hid (HF.out.trans hFH)
          have HNQ3 := Lib.hid hNQ
          have HN3 : Hid (n ≤ W3.heap.size) := Lib.hid (by have := hFH.size; omega)
          have HJ2 : Hid (j ≤ 300) := Lib.hid (by omega)
          have HHB2 : Hid (McOk ⟨hb, 0, 0, 0, 0, 0⟩ ∧ ⟨hb, 0, 0, 0, 0, 0⟩ ≠ mc9) := Lib.hid ⟨by have := HHB.out; unfold McOk b8; simp only; omega, fun e => by have := congrArg Mc.a e; have := HHB.out; simp [mc9] at *; omega⟩
          go_cut [] (fun wx => Room most g xa xb b wx.heap.size (j + 1) wx ∧ Blk wx qm #[.int .u8 9, .int .u8 0, .int .u8 0, .int .u8 0, .int .u8 0, .int .u8 0] 28 ∧ Fr [] w wx)
          case first =>
            have hG0 := HX.out _ (FrB.of _ _ (Fr.refl [] W3).drew)
            dsimp only at hG0
            obtain ⟨CK, hCK⟩ : ∃ y, ckOf ⟨hb, 0, 0, 0, 0, 0⟩ 0 = y := ⟨_, rfl⟩
            have MK : Hid (∀ s v W, s = B [115] → v = B [] → Calls Try.prog 26 #[.string s, .agg #[.int .u8 hb, .int .u8 0, .int .u8 0, .int .u8 0, .int .u8 0, .int .u8 0], .string v, .int .i64 5] W fun r w' => r = .returned (.string (B CK)) ∧ Fr [] W w') := Lib.hid fun s v W h1 h2 => by
              rw [h1, h2, ← hCK]
              exact make_any [115] hb 0 0 0 0 0 [] 5 W (by decide) (by decide) (by simp) (by simp)
            obtain ⟨u, hu⟩ : ∃ u : UInt8, IntKind.u8.wrap (x / 16) = (u.toNat : Int) := by
              have h1 : IntKind.u8.wrap (x / 16) = (x / 16) % 256 := IntKind.wrap_u8 _
              refine ⟨UInt8.ofNat ((x / 16) % 256).toNat, ?_⟩
              rw [h1, UInt8.toNat_ofNat']
              omega
            have hsz := padT_size ⟨hb, 0, 0, 0, 0, 0⟩ [u]
            have hok := padT_ok ⟨hb, 0, 0, 0, 0, 0⟩ [u] (by simp)
            unfold padT at hsz hok
            rw [hCK] at hsz hok
            have AS := Lib.hid fun W q (hT : TgAt W (some ⟨q, 0, none⟩) [(257, []), (260, CK), (259, [u])]) => asked_ok (w := W) (cap := 3) ⟨hb, 0, 0, 0, 0, 0⟩ mc9 25 0 hT (fun x hx => (hok x hx).1) (by simp) (by simp) (by unfold maxLen; omega) (by rw [hsz]; simp) (by decide) (by decide) (by decide) (by decide)
            have TP := Lib.hid fun W (hW : Fr [] W3 W) => room_padr ⟨hb, 0, 0, 0, 0, 0⟩ [u] HHB2.out.1 HHB2.out.2 (by simp) HB1.out HJ2.out (HRM3.out.fr0 hW)
            unfold padT at TP
            rw [hCK] at TP
            unfold ethC mc9 at TP
            unfold mcL mc9 at AS
            simp only [List.length_cons, List.length_nil] at AS TP
            have HCV : Hid (∀ W b, Blk W b #[.int .u8 (u.toNat : Int)] 5 → (convert 57 9 (.slice (some ⟨b, 0, none⟩) 1 1)).run Try.prog W = .ok (.string (B [u])) W) := Lib.hid fun W b h => by
              have := run_str (cap := 1) Try.underlying57 Try.underlying5 Try.underlying9 [(u.toNat : Int)] h 1 rfl
              rwa [show bytesOf [(u.toNat : Int)] = [u] from bytes_ints8 [u]] at this
            obtain ⟨ss, hss⟩ : ∃ y, x / 16 % 8 = y := ⟨_, rfl⟩
            have ha8 := and7 (x / 16)
            rw [hss] at ha8
            have hs8 : 0 ≤ ss ∧ ss ≤ 7 := by omega
            have AT := Lib.hid fun W => asked_ok (w := W) (A := none) (cap := 0) (l := []) ⟨hb, 0, 0, 0, 0, 0⟩ mc9 167 ss (TgAt.of_own (base := 0) (World.ownsRow_nil W 0 54 2)) (by simp) (by simp) (by simp) (by unfold maxLen; omega) (by simp [tgsB]) (by decide) (by decide) (by omega) (by omega)
            have TT := Lib.hid fun W (hW : Fr [] W3 W) => room_padt ⟨hb, 0, 0, 0, 0, 0⟩ ss HHB2.out.1 HHB2.out.2 hs8.1 (by omega) HB1.out HJ2.out (HRM3.out.fr0 hW)
            unfold mcL mc9 at AT
            unfold ethC mc9 at TT
            simp only [List.length_nil] at AT TT
            clear hss hs8
            cases c8 with
            | false =>
              clear hFH hNH hNQ hsz hok hCK hW3 x0 x1 hn hu ha7 hwr TP AS MK HCV
              go_wp2_with fail
              refine wp_region_held_drew (S := (fun W => (W.cell? ⟨n, 0, none⟩ = some (.int .u8 hb) ∧ W.cell? ⟨n, 1, none⟩ = some (.int .u8 0) ∧ W.cell? ⟨n, 2, none⟩ = some (.int .u8 0) ∧ W.cell? ⟨n, 3, none⟩ = some (.int .u8 0) ∧ W.cell? ⟨n, 4, none⟩ = some (.int .u8 0) ∧ W.cell? ⟨n, 5, none⟩ = some (.int .u8 0) ∧ W.cell? ⟨qm, 0, none⟩ = some (.int .u8 9) ∧ W.cell? ⟨qm, 1, none⟩ = some (.int .u8 0) ∧ W.cell? ⟨qm, 2, none⟩ = some (.int .u8 0) ∧ W.cell? ⟨qm, 3, none⟩ = some (.int .u8 0) ∧ W.cell? ⟨qm, 4, none⟩ = some (.int .u8 0) ∧ W.cell? ⟨qm, 5, none⟩ = some (.int .u8 0) ∧ W.cell? ⟨bb, off + j, none⟩ = some (.int .i64 x)) ∧ FrB b n W3 W)) (by kernel_rfl) ?_ (fun hHeld => ?_)
              · (try dsimp only); exact hG0
              have hZ := (Fr.refl [] W3).drew
              obtain ⟨v0, hv⟩ : ∃ X, W3.drew = X := ⟨_, rfl⟩
              rw [hv] at hHeld hZ ⊢
              clear hv hG0
              refine take_yes 0 88 rfl rfl (by kernel_rfl) (by kernel_rfl) (by kernel_rfl) (fun _ _ _ h => h) (by rfl) (by assumption) (v := ?_) ?_ ?_
              rotate_left
              · intro w hSw; (try dsimp only at hSw); go_simp; (try with_reducible rfl)
              try simp only [Act.put, List.setIfInBounds_toArray, List.set_cons_zero, List.set_cons_succ]
              refine take_yes 1 89 rfl rfl (by kernel_rfl) (by kernel_rfl) (by kernel_rfl) (fun _ _ _ h => h) (by rfl) (by assumption) (v := ?_) ?_ ?_
              rotate_left
              · intro w hSw; (try dsimp only at hSw); go_simp; (try with_reducible rfl)
              try simp only [Act.put, List.setIfInBounds_toArray, List.set_cons_zero, List.set_cons_succ]
              refine take_yes 2 90 rfl rfl (by kernel_rfl) (by kernel_rfl) (by kernel_rfl) (fun _ _ _ h => h) (by rfl) (by assumption) (v := ?_) ?_ ?_
              rotate_left
              · intro w hSw; (try dsimp only at hSw); go_simp; (try with_reducible rfl)
              try simp only [Act.put, List.setIfInBounds_toArray, List.set_cons_zero, List.set_cons_succ]
              refine take_yes 3 91 rfl rfl (by kernel_rfl) (by kernel_rfl) (by kernel_rfl) (fun _ _ _ h => h) (by rfl) (by assumption) (v := ?_) ?_ ?_
              rotate_left
              · intro w hSw; (try dsimp only at hSw); go_simp; (try with_reducible rfl)
              try simp only [Act.put, List.setIfInBounds_toArray, List.set_cons_zero, List.set_cons_succ]
              refine take_yes 4 92 rfl rfl (by kernel_rfl) (by kernel_rfl) (by kernel_rfl) (fun _ _ _ h => h) (by rfl) (by assumption) (v := ?_) ?_ ?_
              rotate_left
              · intro w hSw; (try dsimp only at hSw); go_simp; (try with_reducible rfl)
              try simp only [Act.put, List.setIfInBounds_toArray, List.set_cons_zero, List.set_cons_succ]
              refine take_yes 5 93 rfl rfl (by kernel_rfl) (by kernel_rfl) (by kernel_rfl) (fun _ _ _ h => h) (by rfl) (by assumption) (v := ?_) ?_ ?_
              rotate_left
              · intro w hSw; (try dsimp only at hSw); go_simp; (try with_reducible rfl)
              try simp only [Act.put, List.setIfInBounds_toArray, List.set_cons_zero, List.set_cons_succ]
              refine take_yes 6 94 rfl rfl (by kernel_rfl) (by kernel_rfl) (by kernel_rfl) (fun _ _ _ h => h) (by rfl) (by assumption) (v := ?_) ?_ ?_
              rotate_left
              · intro w hSw; (try dsimp only at hSw); go_simp; (try with_reducible rfl)
              try simp only [Act.put, List.setIfInBounds_toArray, List.set_cons_zero, List.set_cons_succ]
              refine take_yes 7 95 rfl rfl (by kernel_rfl) (by kernel_rfl) (by kernel_rfl) (fun _ _ _ h => h) (by rfl) (by assumption) (v := ?_) ?_ ?_
              rotate_left
              · intro w hSw; (try dsimp only at hSw); go_simp; (try with_reducible rfl)
              try simp only [Act.put, List.setIfInBounds_toArray, List.set_cons_zero, List.set_cons_succ]
              refine take_yes 8 96 rfl rfl (by kernel_rfl) (by kernel_rfl) (by kernel_rfl) (fun _ _ _ h => h) (by rfl) (by assumption) (v := ?_) ?_ ?_
              rotate_left
              · intro w hSw; (try dsimp only at hSw); go_simp; (try with_reducible rfl)
              try simp only [Act.put, List.setIfInBounds_toArray, List.set_cons_zero, List.set_cons_succ]
              refine wpAnyH_ready (rs := [9]) (by kernel_rfl) (by simp) ?_
              refine AllReadyH.cons (o := _) rfl (fun K hK => ?_) AllReadyH.nil
              go_simp
              refine (AT.out v0).mono ?_
              rintro e v1 ⟨rfl, hFx⟩
              (try go_wp2_with fail)
              refine hK.out _ _ ?_ (fun hHeld1 => ?_)
              · (try dsimp only); exact HX.out _ (FrB.of _ _ (hZ.trans hFx))
              clear hK K
              replace hZ := hZ.trans hFx
              have hHeld := hHeld1
              clear hHeld1
              try simp only [Act.put, List.setIfInBounds_toArray, List.set_cons_zero, List.set_cons_succ]
              clear hFx
              refine wpAnyH_ready (rs := [10]) (by kernel_rfl) (by simp) ?_
              refine AllReadyH.cons (o := _) rfl (fun K hK => ?_) AllReadyH.nil
              go_simp
              refine (TT.out v1 hZ).mono ?_
              rintro e v2 ⟨rfl, hRm, hFx⟩
              (try go_wp2_with fail)
              refine hK.out _ _ ?_ (fun hHeld1 => ?_)
              · (try dsimp only); exact HX.out _ (FrB.pre hZ hFx)
              clear hK K
              try simp only [Act.put, List.setIfInBounds_toArray, List.set_cons_zero, List.set_cons_succ]
              refine wpAnyH_done (by kernel_rfl) ?_ _
              have HR3 : Hid (Room most g xa xb b v2.heap.size (j + 1) v2 ∧ Blk v2 qm #[.int .u8 9, .int .u8 0, .int .u8 0, .int .u8 0, .int .u8 0, .int .u8 0] 28 ∧ Fr [] w v2) := Lib.hid ⟨hRm.up (by have := HN3.out; have := hZ.size; have := hFx.size2; omega) (Nat.le_refl _), hHeld1.2.blk HNQ3.out (Or.inl HQM.out), FrB.sub HF3.out hHeld1.2 HWB.out⟩
              clear hRm hFx hZ hHeld hHeld1 HX AT TT
              go_wp2_with fail
              go_meet
              exact HR3.out
            | true =>
              clear hFH hNH hNQ hsz hok hCK hW3 x0 x1 hn ha8 AT TT
              go_wp2_with fail
              refine wp_region_held_drew (S := (fun W => (W.cell? ⟨n, 0, none⟩ = some (.int .u8 hb) ∧ W.cell? ⟨n, 1, none⟩ = some (.int .u8 0) ∧ W.cell? ⟨n, 2, none⟩ = some (.int .u8 0) ∧ W.cell? ⟨n, 3, none⟩ = some (.int .u8 0) ∧ W.cell? ⟨n, 4, none⟩ = some (.int .u8 0) ∧ W.cell? ⟨n, 5, none⟩ = some (.int .u8 0) ∧ W.cell? ⟨qm, 0, none⟩ = some (.int .u8 9) ∧ W.cell? ⟨qm, 1, none⟩ = some (.int .u8 0) ∧ W.cell? ⟨qm, 2, none⟩ = some (.int .u8 0) ∧ W.cell? ⟨qm, 3, none⟩ = some (.int .u8 0) ∧ W.cell? ⟨qm, 4, none⟩ = some (.int .u8 0) ∧ W.cell? ⟨qm, 5, none⟩ = some (.int .u8 0) ∧ W.cell? ⟨bb, off + j, none⟩ = some (.int .i64 x)) ∧ FrB b n W3 W)) (by kernel_rfl) ?_ (fun hHeld => ?_)
              · (try dsimp only); exact hG0
              have hZ := (Fr.refl [] W3).drew
              obtain ⟨v0, hv⟩ : ∃ X, W3.drew = X := ⟨_, rfl⟩
              rw [hv] at hHeld hZ ⊢
              clear hv hG0
              refine take_yes 0 58 rfl rfl (by kernel_rfl) (by kernel_rfl) (by kernel_rfl) (fun _ _ _ h => h) (by rfl) (by assumption) (v := ?_) ?_ ?_
              rotate_left
              · intro w hSw; (try dsimp only at hSw); go_simp; (try with_reducible rfl)
              try simp only [Act.put, List.setIfInBounds_toArray, List.set_cons_zero, List.set_cons_succ]
              refine take_yes 1 59 rfl rfl (by kernel_rfl) (by kernel_rfl) (by kernel_rfl) (fun _ _ _ h => h) (by rfl) (by assumption) (v := ?_) ?_ ?_
              rotate_left
              · intro w hSw; (try dsimp only at hSw); go_simp; (try with_reducible rfl)
              try simp only [Act.put, List.setIfInBounds_toArray, List.set_cons_zero, List.set_cons_succ]
              refine take_yes 2 60 rfl rfl (by kernel_rfl) (by kernel_rfl) (by kernel_rfl) (fun _ _ _ h => h) (by rfl) (by assumption) (v := ?_) ?_ ?_
              rotate_left
              · intro w hSw; (try dsimp only at hSw); go_simp; (try with_reducible rfl)
              try simp only [Act.put, List.setIfInBounds_toArray, List.set_cons_zero, List.set_cons_succ]
              refine take_yes 3 61 rfl rfl (by kernel_rfl) (by kernel_rfl) (by kernel_rfl) (fun _ _ _ h => h) (by rfl) (by assumption) (v := ?_) ?_ ?_
              rotate_left
              · intro w hSw; (try dsimp only at hSw); go_simp; (try with_reducible rfl)
              try simp only [Act.put, List.setIfInBounds_toArray, List.set_cons_zero, List.set_cons_succ]
              refine take_yes 4 62 rfl rfl (by kernel_rfl) (by kernel_rfl) (by kernel_rfl) (fun _ _ _ h => h) (by rfl) (by assumption) (v := ?_) ?_ ?_
              rotate_left
              · intro w hSw; (try dsimp only at hSw); go_simp; (try with_reducible rfl)
              try simp only [Act.put, List.setIfInBounds_toArray, List.set_cons_zero, List.set_cons_succ]
              refine take_yes 7 65 rfl rfl (by kernel_rfl) (by kernel_rfl) (by kernel_rfl) (fun _ _ _ h => h) (by rfl) (by assumption) (v := ?_) ?_ ?_
              rotate_left
              · intro w hSw; (try dsimp only at hSw); go_simp; (try with_reducible rfl)
              try simp only [Act.put, List.setIfInBounds_toArray, List.set_cons_zero, List.set_cons_succ]
              refine take_yes 8 66 rfl rfl (by kernel_rfl) (by kernel_rfl) (by kernel_rfl) (fun _ _ _ h => h) (by rfl) (by assumption) (v := ?_) ?_ ?_
              rotate_left
              · intro w hSw; (try dsimp only at hSw); go_simp; (try with_reducible rfl)
              try simp only [Act.put, List.setIfInBounds_toArray, List.set_cons_zero, List.set_cons_succ]
              refine take_yes 9 67 rfl rfl (by kernel_rfl) (by kernel_rfl) (by kernel_rfl) (fun _ _ _ h => h) (by rfl) (by assumption) (v := ?_) ?_ ?_
              rotate_left
              · intro w hSw; (try dsimp only at hSw); go_simp; (try with_reducible rfl)
              try simp only [Act.put, List.setIfInBounds_toArray, List.set_cons_zero, List.set_cons_succ]
              refine take_yes 10 68 rfl rfl (by kernel_rfl) (by kernel_rfl) (by kernel_rfl) (fun _ _ _ h => h) (by rfl) (by assumption) (v := ?_) ?_ ?_
              rotate_left
              · intro w hSw; (try dsimp only at hSw); go_simp; (try with_reducible rfl)
              try simp only [Act.put, List.setIfInBounds_toArray, List.set_cons_zero, List.set_cons_succ]
              refine take_yes 11 69 rfl rfl (by kernel_rfl) (by kernel_rfl) (by kernel_rfl) (fun _ _ _ h => h) (by rfl) (by assumption) (v := ?_) ?_ ?_
              rotate_left
              · intro w hSw; (try dsimp only at hSw); go_simp; (try with_reducible rfl)
              try simp only [Act.put, List.setIfInBounds_toArray, List.set_cons_zero, List.set_cons_succ]
              refine take_yes 12 70 rfl rfl (by kernel_rfl) (by kernel_rfl) (by kernel_rfl) (fun _ _ _ h => h) (by rfl) (by assumption) (v := ?_) ?_ ?_
              rotate_left
              · intro w hSw; (try dsimp only at hSw); go_simp; (try with_reducible rfl)
              try simp only [Act.put, List.setIfInBounds_toArray, List.set_cons_zero, List.set_cons_succ]
              refine wpAnyH_ready (rs := [5, 13]) (by kernel_rfl) (by simp) ?_
              refine AllReadyH.cons (o := _) rfl (fun K hK => ?_) ?_
              · go_simp
                refine (MK.out _ _ _ rfl rfl).mono ?_
                rintro e v1 ⟨rfl, hFx⟩
                (try go_wp2_with fail)
                refine hK.out _ _ ?_ (fun hHeld1 => ?_)
                · (try dsimp only); exact HX.out _ (FrB.of _ _ (hZ.trans hFx))
                clear hK K
                replace hZ := hZ.trans hFx
                have hHeld := hHeld1
                clear hHeld1
                try simp only [Act.put, List.setIfInBounds_toArray, List.set_cons_zero, List.set_cons_succ]
                clear hFx
                refine take_yes 6 64 rfl rfl (by kernel_rfl) (by kernel_rfl) (by kernel_rfl) (fun _ _ _ h => h) (by rfl) (by assumption) (v := ?_) ?_ ?_
                rotate_left
                · intro w hSw; (try dsimp only at hSw); go_simp; (try with_reducible rfl)
                try simp only [Act.put, List.setIfInBounds_toArray, List.set_cons_zero, List.set_cons_succ]
                refine wpAnyH_ready (rs := [13]) (by kernel_rfl) (by simp) ?_
                refine AllReadyH.cons (o := _) rfl (fun K hK => ?_) AllReadyH.nil
                go_simp
                (try go_wp2_with fail)
                have hFx : Fr [] v1 (v1.alloc (.cells #[.int .u8 (u.toNat : Int)] 5 (0, 0))) := (Fr.refl _ _).alloc _
                have hBb : Blk (v1.alloc (.cells #[.int .u8 (u.toNat : Int)] 5 (0, 0))) v1.heap.size #[.int .u8 (u.toNat : Int)] 5 := Blk.new _ _ _
                obtain ⟨v2, hv⟩ : ∃ X, v1.alloc (.cells #[.int .u8 (u.toNat : Int)] 5 (0, 0)) = X := ⟨_, rfl⟩
                obtain ⟨bu, hbu⟩ : ∃ X, v1.heap.size = X := ⟨_, rfl⟩
                rw [hv] at hFx hBb ⊢
                rw [hbu] at hBb ⊢
                refine hK.out _ _ ?_ (fun hHeld1 => ?_)
                · (try dsimp only); exact HX.out _ (FrB.of _ _ (hZ.trans hFx))
                clear hK K
                replace hZ := hZ.trans hFx
                have hHeld := hHeld1
                clear hHeld1
                try simp only [Act.put, List.setIfInBounds_toArray, List.set_cons_zero, List.set_cons_succ]
                clear hv hbu hFx
                refine wpAnyH_ready (rs := [14]) (by kernel_rfl) (by simp) ?_
                refine AllReadyH.cons (o := _) rfl (fun K hK => ?_) AllReadyH.nil
                have hr := HCV.out _ _ hBb
                go_simp
                (try go_wp2_with fail)
                refine hK.out _ _ ?_ (fun hHeld1 => ?_)
                · (try dsimp only); exact hHeld
                clear hK K hr hBb
                have hHeld := hHeld1
                clear hHeld1
                try simp only [Act.put, List.setIfInBounds_toArray, List.set_cons_zero, List.set_cons_succ]
                refine take_yes 15 73 rfl rfl (by kernel_rfl) (by kernel_rfl) (by kernel_rfl) (fun _ _ _ h => h) (by rfl) (by assumption) (v := ?_) ?_ ?_
                rotate_left
                · intro w hSw; (try dsimp only at hSw); go_simp; (try with_reducible rfl)
                try simp only [Act.put, List.setIfInBounds_toArray, List.set_cons_zero, List.set_cons_succ]
                refine wpAnyH_ready (rs := [16]) (by kernel_rfl) (by simp) ?_
                refine AllReadyH.cons (o := _) rfl (fun K hK => ?_) AllReadyH.nil
                go_simp
                (try go_wp2_with fail)
                have hFx : Fr [] v2 (v2.alloc (.cells #[.int .i64 257, .string ⟨#[]⟩, .int .i64 260, .string (B CK), .int .i64 259, .string (B [u])] 54 (0, 0))) := (Fr.refl _ _).alloc _
                have hTg : TgAt (v2.alloc (.cells #[.int .i64 257, .string ⟨#[]⟩, .int .i64 260, .string (B CK), .int .i64 259, .string (B [u])] 54 (0, 0))) (some ⟨v2.heap.size, 0, none⟩) [(257, []), (260, CK), (259, [u])] := TgAt.of_own (base := 0) (cap := 3) (World.ownsRow_lit (base := 0) (e := 54) (size := 2) v2 #[.int .i64 257, .string ⟨#[]⟩, .int .i64 260, .string (B CK), .int .i64 259, .string (B [u])] 3 (Nat.zero_le _) (by unfold maxLen; omega) rfl)
                obtain ⟨v3, hv⟩ : ∃ X, v2.alloc (.cells #[.int .i64 257, .string ⟨#[]⟩, .int .i64 260, .string (B CK), .int .i64 259, .string (B [u])] 54 (0, 0)) = X := ⟨_, rfl⟩
                obtain ⟨qx, hqx⟩ : ∃ X, v2.heap.size = X := ⟨_, rfl⟩
                rw [hv] at hFx hTg ⊢
                rw [hqx] at hTg ⊢
                refine hK.out _ _ ?_ (fun hHeld1 => ?_)
                · (try dsimp only); exact HX.out _ (FrB.of _ _ (hZ.trans hFx))
                clear hK K
                replace hZ := hZ.trans hFx
                have hHeld := hHeld1
                clear hHeld1
                try simp only [Act.put, List.setIfInBounds_toArray, List.set_cons_zero, List.set_cons_succ]
                clear hv hqx hFx
                refine wpAnyH_ready (rs := [17]) (by kernel_rfl) (by simp) ?_
                refine AllReadyH.cons (o := _) rfl (fun K hK => ?_) AllReadyH.nil
                go_simp
                refine (AS.out v3 qx hTg).mono ?_
                rintro e v4 ⟨rfl, hFx⟩
                (try go_wp2_with fail)
                refine hK.out _ _ ?_ (fun hHeld1 => ?_)
                · (try dsimp only); exact HX.out _ (FrB.of _ _ (hZ.trans hFx))
                clear hK K
                replace hZ := hZ.trans hFx
                have hHeld := hHeld1
                clear hHeld1
                try simp only [Act.put, List.setIfInBounds_toArray, List.set_cons_zero, List.set_cons_succ]
                clear hFx hTg
                refine wpAnyH_ready (rs := [18]) (by kernel_rfl) (by simp) ?_
                refine AllReadyH.cons (o := _) rfl (fun K hK => ?_) AllReadyH.nil
                go_simp
                refine (TP.out v4 (hZ)).mono ?_
                rintro e v5 ⟨q, d, rfl, hqw, hN, hRm, hFx⟩
                (try go_wp2_with fail)
                refine hK.out _ _ ?_ (fun hHeld1 => ?_)
                · (try dsimp only); exact HX.out _ (FrB.pre hZ hFx)
                clear hK K
                try simp only [Act.put, List.setIfInBounds_toArray, List.set_cons_zero, List.set_cons_succ]
                refine take_yes 19 10 rfl rfl (by kernel_rfl) (by kernel_rfl) (by kernel_rfl) (fun _ _ _ h => h) (by rfl) (by assumption) (v := ?_) ?_ ?_
                rotate_left
                · intro w hSw; (try dsimp only at hSw); go_simp; (try with_reducible rfl)
                try simp only [Act.put, List.setIfInBounds_toArray, List.set_cons_zero, List.set_cons_succ]
                refine wpAnyH_done (by kernel_rfl) ?_ _
                obtain ⟨⟨z0, z1, z2, z3, z4, z5, z6, z7, z8, z9, z10, z11, z12⟩, hFB⟩ := hHeld1
                have ke : v5.cell? ⟨q, 0, none⟩ = some (.int .u8 hb) ∧ v5.cell? ⟨q, 1, none⟩ = some (.int .u8 0) ∧ v5.cell? ⟨q, 2, none⟩ = some (.int .u8 0) ∧ v5.cell? ⟨q, 3, none⟩ = some (.int .u8 0) ∧ v5.cell? ⟨q, 4, none⟩ = some (.int .u8 0) ∧ v5.cell? ⟨q, 5, none⟩ = some (.int .u8 0) := ⟨hN.c 0 _ rfl, hN.c 1 _ rfl, hN.c 2 _ rfl, hN.c 3 _ rfl, hN.c 4 _ rfl, hN.c 5 _ rfl⟩
                obtain ⟨k0, k1, k2, k3, k4, k5⟩ := ke
                have heqn := fun W => eq_mac 9998 ⟨hb, 0, 0, 0, 0, 0⟩ ⟨hb, 0, 0, 0, 0, 0⟩ W
                rw [mcEq_self] at heqn
                unfold mcL at heqn
                simp only at heqn
                have HR2 : Hid (∀ W, Fr [] v5 W → Room most g xa xb b W.heap.size (j + 1) W ∧ Blk W qm #[.int .u8 9, .int .u8 0, .int .u8 0, .int .u8 0, .int .u8 0, .int .u8 0] 28 ∧ Fr [] w W) := Lib.hid fun W hW => ⟨(hRm.fr0 hW).up (Nat.le_trans HN3.out (Nat.le_trans (hZ.size) (Nat.le_trans hFx.size2 hW.size))) (Nat.le_refl _), hW.blk (hFB.blk HNQ3.out (Or.inl HQM.out)) (by simp), (FrB.sub HF3.out hFB HWB.out).trans hW⟩
                clear hRm hFB hN hFx hZ hHeld HX AS TP MK HCV
                go_wp2_with fail
                go_quiet (fail)
                have HR3 := Lib.hid (HR2.out _ ((Fr.refl [] v5).drewN nq))
                clear HR2 heqn z0 z1 z2 z3 z4 z5 z6 z7 z8 z9 z10 z11 z12 k0 k1 k2 k3 k4 k5
                go_wp2_with fail
                go_meet
                exact HR3.out
              refine AllReadyH.cons (o := _) rfl (fun K hK => ?_) AllReadyH.nil
              go_simp
              (try go_wp2_with fail)
              have hFx : Fr [] v0 (v0.alloc (.cells #[.int .u8 (u.toNat : Int)] 5 (0, 0))) := (Fr.refl _ _).alloc _
              have hBb : Blk (v0.alloc (.cells #[.int .u8 (u.toNat : Int)] 5 (0, 0))) v0.heap.size #[.int .u8 (u.toNat : Int)] 5 := Blk.new _ _ _
              obtain ⟨v1, hv⟩ : ∃ X, v0.alloc (.cells #[.int .u8 (u.toNat : Int)] 5 (0, 0)) = X := ⟨_, rfl⟩
              obtain ⟨bu, hbu⟩ : ∃ X, v0.heap.size = X := ⟨_, rfl⟩
              rw [hv] at hFx hBb ⊢
              rw [hbu] at hBb ⊢
              refine hK.out _ _ ?_ (fun hHeld1 => ?_)
              · (try dsimp only); exact HX.out _ (FrB.of _ _ (hZ.trans hFx))
              clear hK K
              replace hZ := hZ.trans hFx
              have hHeld := hHeld1
              clear hHeld1
              try simp only [Act.put, List.setIfInBounds_toArray, List.set_cons_zero, List.set_cons_succ]
              clear hv hbu hFx
              refine wpAnyH_ready (rs := [5, 14]) (by kernel_rfl) (by simp) ?_
              refine AllReadyH.cons (o := _) rfl (fun K hK => ?_) ?_
              · go_simp
                refine (MK.out _ _ _ rfl rfl).mono ?_
                rintro e v2 ⟨rfl, hFx⟩
                (try go_wp2_with fail)
                refine hK.out _ _ ?_ (fun hHeld1 => ?_)
                · (try dsimp only); exact HX.out _ (FrB.of _ _ (hZ.trans hFx))
                clear hK K
                replace hZ := hZ.trans hFx
                have hHeld := hHeld1
                clear hHeld1
                try simp only [Act.put, List.setIfInBounds_toArray, List.set_cons_zero, List.set_cons_succ]
                replace hBb := hFx.blk hBb (by simp)
                clear hFx
                refine take_yes 6 64 rfl rfl (by kernel_rfl) (by kernel_rfl) (by kernel_rfl) (fun _ _ _ h => h) (by rfl) (by assumption) (v := ?_) ?_ ?_
                rotate_left
                · intro w hSw; (try dsimp only at hSw); go_simp; (try with_reducible rfl)
                try simp only [Act.put, List.setIfInBounds_toArray, List.set_cons_zero, List.set_cons_succ]
                refine wpAnyH_ready (rs := [14]) (by kernel_rfl) (by simp) ?_
                refine AllReadyH.cons (o := _) rfl (fun K hK => ?_) AllReadyH.nil
                have hr := HCV.out _ _ hBb
                go_simp
                (try go_wp2_with fail)
                refine hK.out _ _ ?_ (fun hHeld1 => ?_)
                · (try dsimp only); exact hHeld
                clear hK K hr hBb
                have hHeld := hHeld1
                clear hHeld1
                try simp only [Act.put, List.setIfInBounds_toArray, List.set_cons_zero, List.set_cons_succ]
                refine take_yes 15 73 rfl rfl (by kernel_rfl) (by kernel_rfl) (by kernel_rfl) (fun _ _ _ h => h) (by rfl) (by assumption) (v := ?_) ?_ ?_
                rotate_left
                · intro w hSw; (try dsimp only at hSw); go_simp; (try with_reducible rfl)
                try simp only [Act.put, List.setIfInBounds_toArray, List.set_cons_zero, List.set_cons_succ]
                refine wpAnyH_ready (rs := [16]) (by kernel_rfl) (by simp) ?_
                refine AllReadyH.cons (o := _) rfl (fun K hK => ?_) AllReadyH.nil
                go_simp
                (try go_wp2_with fail)
                have hFx : Fr [] v2 (v2.alloc (.cells #[.int .i64 257, .string ⟨#[]⟩, .int .i64 260, .string (B CK), .int .i64 259, .string (B [u])] 54 (0, 0))) := (Fr.refl _ _).alloc _
                have hTg : TgAt (v2.alloc (.cells #[.int .i64 257, .string ⟨#[]⟩, .int .i64 260, .string (B CK), .int .i64 259, .string (B [u])] 54 (0, 0))) (some ⟨v2.heap.size, 0, none⟩) [(257, []), (260, CK), (259, [u])] := TgAt.of_own (base := 0) (cap := 3) (World.ownsRow_lit (base := 0) (e := 54) (size := 2) v2 #[.int .i64 257, .string ⟨#[]⟩, .int .i64 260, .string (B CK), .int .i64 259, .string (B [u])] 3 (Nat.zero_le _) (by unfold maxLen; omega) rfl)
                obtain ⟨v3, hv⟩ : ∃ X, v2.alloc (.cells #[.int .i64 257, .string ⟨#[]⟩, .int .i64 260, .string (B CK), .int .i64 259, .string (B [u])] 54 (0, 0)) = X := ⟨_, rfl⟩
                obtain ⟨qx, hqx⟩ : ∃ X, v2.heap.size = X := ⟨_, rfl⟩
                rw [hv] at hFx hTg ⊢
                rw [hqx] at hTg ⊢
                refine hK.out _ _ ?_ (fun hHeld1 => ?_)
                · (try dsimp only); exact HX.out _ (FrB.of _ _ (hZ.trans hFx))
                clear hK K
                replace hZ := hZ.trans hFx
                have hHeld := hHeld1
                clear hHeld1
                try simp only [Act.put, List.setIfInBounds_toArray, List.set_cons_zero, List.set_cons_succ]
                clear hv hqx hFx
                refine wpAnyH_ready (rs := [17]) (by kernel_rfl) (by simp) ?_
                refine AllReadyH.cons (o := _) rfl (fun K hK => ?_) AllReadyH.nil
                go_simp
                refine (AS.out v3 qx hTg).mono ?_
                rintro e v4 ⟨rfl, hFx⟩
                (try go_wp2_with fail)
                refine hK.out _ _ ?_ (fun hHeld1 => ?_)
                · (try dsimp only); exact HX.out _ (FrB.of _ _ (hZ.trans hFx))
                clear hK K
                replace hZ := hZ.trans hFx
                have hHeld := hHeld1
                clear hHeld1
                try simp only [Act.put, List.setIfInBounds_toArray, List.set_cons_zero, List.set_cons_succ]
                clear hFx hTg
                refine wpAnyH_ready (rs := [18]) (by kernel_rfl) (by simp) ?_
                refine AllReadyH.cons (o := _) rfl (fun K hK => ?_) AllReadyH.nil
                go_simp
                refine (TP.out v4 (hZ)).mono ?_
                rintro e v5 ⟨q, d, rfl, hqw, hN, hRm, hFx⟩
                (try go_wp2_with fail)
                refine hK.out _ _ ?_ (fun hHeld1 => ?_)
                · (try dsimp only); exact HX.out _ (FrB.pre hZ hFx)
                clear hK K
                try simp only [Act.put, List.setIfInBounds_toArray, List.set_cons_zero, List.set_cons_succ]
                refine take_yes 19 10 rfl rfl (by kernel_rfl) (by kernel_rfl) (by kernel_rfl) (fun _ _ _ h => h) (by rfl) (by assumption) (v := ?_) ?_ ?_
                rotate_left
                · intro w hSw; (try dsimp only at hSw); go_simp; (try with_reducible rfl)
                try simp only [Act.put, List.setIfInBounds_toArray, List.set_cons_zero, List.set_cons_succ]
                refine wpAnyH_done (by kernel_rfl) ?_ _
                obtain ⟨⟨z0, z1, z2, z3, z4, z5, z6, z7, z8, z9, z10, z11, z12⟩, hFB⟩ := hHeld1
                have ke : v5.cell? ⟨q, 0, none⟩ = some (.int .u8 hb) ∧ v5.cell? ⟨q, 1, none⟩ = some (.int .u8 0) ∧ v5.cell? ⟨q, 2, none⟩ = some (.int .u8 0) ∧ v5.cell? ⟨q, 3, none⟩ = some (.int .u8 0) ∧ v5.cell? ⟨q, 4, none⟩ = some (.int .u8 0) ∧ v5.cell? ⟨q, 5, none⟩ = some (.int .u8 0) := ⟨hN.c 0 _ rfl, hN.c 1 _ rfl, hN.c 2 _ rfl, hN.c 3 _ rfl, hN.c 4 _ rfl, hN.c 5 _ rfl⟩
                obtain ⟨k0, k1, k2, k3, k4, k5⟩ := ke
                have heqn := fun W => eq_mac 9998 ⟨hb, 0, 0, 0, 0, 0⟩ ⟨hb, 0, 0, 0, 0, 0⟩ W
                rw [mcEq_self] at heqn
                unfold mcL at heqn
                simp only at heqn
                have HR2 : Hid (∀ W, Fr [] v5 W → Room most g xa xb b W.heap.size (j + 1) W ∧ Blk W qm #[.int .u8 9, .int .u8 0, .int .u8 0, .int .u8 0, .int .u8 0, .int .u8 0] 28 ∧ Fr [] w W) := Lib.hid fun W hW => ⟨(hRm.fr0 hW).up (Nat.le_trans HN3.out (Nat.le_trans (hZ.size) (Nat.le_trans hFx.size2 hW.size))) (Nat.le_refl _), hW.blk (hFB.blk HNQ3.out (Or.inl HQM.out)) (by simp), (FrB.sub HF3.out hFB HWB.out).trans hW⟩
                clear hRm hFB hN hFx hZ hHeld HX AS TP MK HCV
                go_wp2_with fail
                go_quiet (fail)
                have HR3 := Lib.hid (HR2.out _ ((Fr.refl [] v5).drewN nq))
                clear HR2 heqn z0 z1 z2 z3 z4 z5 z6 z7 z8 z9 z10 z11 z12 k0 k1 k2 k3 k4 k5
                go_wp2_with fail
                go_meet
                exact HR3.out
              refine AllReadyH.cons (o := _) rfl (fun K hK => ?_) AllReadyH.nil
              have hr := HCV.out _ _ hBb
              go_simp
              (try go_wp2_with fail)
              refine hK.out _ _ ?_ (fun hHeld1 => ?_)
              · (try dsimp only); exact hHeld
              clear hK K hr hBb
              have hHeld := hHeld1
              clear hHeld1
              try simp only [Act.put, List.setIfInBounds_toArray, List.set_cons_zero, List.set_cons_succ]
              refine take_yes 15 73 rfl rfl (by kernel_rfl) (by kernel_rfl) (by kernel_rfl) (fun _ _ _ h => h) (by rfl) (by assumption) (v := ?_) ?_ ?_
              rotate_left
              · intro w hSw; (try dsimp only at hSw); go_simp; (try with_reducible rfl)
              try simp only [Act.put, List.setIfInBounds_toArray, List.set_cons_zero, List.set_cons_succ]
              refine wpAnyH_ready (rs := [5]) (by kernel_rfl) (by simp) ?_
              refine AllReadyH.cons (o := _) rfl (fun K hK => ?_) AllReadyH.nil
              go_simp
              refine (MK.out _ _ _ rfl rfl).mono ?_
              rintro e v2 ⟨rfl, hFx⟩
              (try go_wp2_with fail)
              refine hK.out _ _ ?_ (fun hHeld1 => ?_)
              · (try dsimp only); exact HX.out _ (FrB.of _ _ (hZ.trans hFx))
              clear hK K
              replace hZ := hZ.trans hFx
              have hHeld := hHeld1
              clear hHeld1
              try simp only [Act.put, List.setIfInBounds_toArray, List.set_cons_zero, List.set_cons_succ]
              clear hFx
              refine take_yes 6 64 rfl rfl (by kernel_rfl) (by kernel_rfl) (by kernel_rfl) (fun _ _ _ h => h) (by rfl) (by assumption) (v := ?_) ?_ ?_
              rotate_left
              · intro w hSw; (try dsimp only at hSw); go_simp; (try with_reducible rfl)
              try simp only [Act.put, List.setIfInBounds_toArray, List.set_cons_zero, List.set_cons_succ]
              refine wpAnyH_ready (rs := [16]) (by kernel_rfl) (by simp) ?_
              refine AllReadyH.cons (o := _) rfl (fun K hK => ?_) AllReadyH.nil
              go_simp
              (try go_wp2_with fail)
              have hFx : Fr [] v2 (v2.alloc (.cells #[.int .i64 257, .string ⟨#[]⟩, .int .i64 260, .string (B CK), .int .i64 259, .string (B [u])] 54 (0, 0))) := (Fr.refl _ _).alloc _
              have hTg : TgAt (v2.alloc (.cells #[.int .i64 257, .string ⟨#[]⟩, .int .i64 260, .string (B CK), .int .i64 259, .string (B [u])] 54 (0, 0))) (some ⟨v2.heap.size, 0, none⟩) [(257, []), (260, CK), (259, [u])] := TgAt.of_own (base := 0) (cap := 3) (World.ownsRow_lit (base := 0) (e := 54) (size := 2) v2 #[.int .i64 257, .string ⟨#[]⟩, .int .i64 260, .string (B CK), .int .i64 259, .string (B [u])] 3 (Nat.zero_le _) (by unfold maxLen; omega) rfl)
              obtain ⟨v3, hv⟩ : ∃ X, v2.alloc (.cells #[.int .i64 257, .string ⟨#[]⟩, .int .i64 260, .string (B CK), .int .i64 259, .string (B [u])] 54 (0, 0)) = X := ⟨_, rfl⟩
              obtain ⟨qx, hqx⟩ : ∃ X, v2.heap.size = X := ⟨_, rfl⟩
              rw [hv] at hFx hTg ⊢
              rw [hqx] at hTg ⊢
              refine hK.out _ _ ?_ (fun hHeld1 => ?_)
              · (try dsimp only); exact HX.out _ (FrB.of _ _ (hZ.trans hFx))
              clear hK K
              replace hZ := hZ.trans hFx
              have hHeld := hHeld1
              clear hHeld1
              try simp only [Act.put, List.setIfInBounds_toArray, List.set_cons_zero, List.set_cons_succ]
              clear hv hqx hFx
              refine wpAnyH_ready (rs := [17]) (by kernel_rfl) (by simp) ?_
              refine AllReadyH.cons (o := _) rfl (fun K hK => ?_) AllReadyH.nil
              go_simp
              refine (AS.out v3 qx hTg).mono ?_
              rintro e v4 ⟨rfl, hFx⟩
              (try go_wp2_with fail)
              refine hK.out _ _ ?_ (fun hHeld1 => ?_)
              · (try dsimp only); exact HX.out _ (FrB.of _ _ (hZ.trans hFx))
              clear hK K
              replace hZ := hZ.trans hFx
              have hHeld := hHeld1
              clear hHeld1
              try simp only [Act.put, List.setIfInBounds_toArray, List.set_cons_zero, List.set_cons_succ]
              clear hFx hTg
              refine wpAnyH_ready (rs := [18]) (by kernel_rfl) (by simp) ?_
              refine AllReadyH.cons (o := _) rfl (fun K hK => ?_) AllReadyH.nil
              go_simp
              refine (TP.out v4 (hZ)).mono ?_
              rintro e v5 ⟨q, d, rfl, hqw, hN, hRm, hFx⟩
              (try go_wp2_with fail)
              refine hK.out _ _ ?_ (fun hHeld1 => ?_)
              · (try dsimp only); exact HX.out _ (FrB.pre hZ hFx)
              clear hK K
              try simp only [Act.put, List.setIfInBounds_toArray, List.set_cons_zero, List.set_cons_succ]
              refine take_yes 19 10 rfl rfl (by kernel_rfl) (by kernel_rfl) (by kernel_rfl) (fun _ _ _ h => h) (by rfl) (by assumption) (v := ?_) ?_ ?_
              rotate_left
              · intro w hSw; (try dsimp only at hSw); go_simp; (try with_reducible rfl)
              try simp only [Act.put, List.setIfInBounds_toArray, List.set_cons_zero, List.set_cons_succ]
              refine wpAnyH_done (by kernel_rfl) ?_ _
              obtain ⟨⟨z0, z1, z2, z3, z4, z5, z6, z7, z8, z9, z10, z11, z12⟩, hFB⟩ := hHeld1
              have ke : v5.cell? ⟨q, 0, none⟩ = some (.int .u8 hb) ∧ v5.cell? ⟨q, 1, none⟩ = some (.int .u8 0) ∧ v5.cell? ⟨q, 2, none⟩ = some (.int .u8 0) ∧ v5.cell? ⟨q, 3, none⟩ = some (.int .u8 0) ∧ v5.cell? ⟨q, 4, none⟩ = some (.int .u8 0) ∧ v5.cell? ⟨q, 5, none⟩ = some (.int .u8 0) := ⟨hN.c 0 _ rfl, hN.c 1 _ rfl, hN.c 2 _ rfl, hN.c 3 _ rfl, hN.c 4 _ rfl, hN.c 5 _ rfl⟩
              obtain ⟨k0, k1, k2, k3, k4, k5⟩ := ke
              have heqn := fun W => eq_mac 9998 ⟨hb, 0, 0, 0, 0, 0⟩ ⟨hb, 0, 0, 0, 0, 0⟩ W
              rw [mcEq_self] at heqn
              unfold mcL at heqn
              simp only at heqn
              have HR2 : Hid (∀ W, Fr [] v5 W → Room most g xa xb b W.heap.size (j + 1) W ∧ Blk W qm #[.int .u8 9, .int .u8 0, .int .u8 0, .int .u8 0, .int .u8 0, .int .u8 0] 28 ∧ Fr [] w W) := Lib.hid fun W hW => ⟨(hRm.fr0 hW).up (Nat.le_trans HN3.out (Nat.le_trans (hZ.size) (Nat.le_trans hFx.size2 hW.size))) (Nat.le_refl _), hW.blk (hFB.blk HNQ3.out (Or.inl HQM.out)) (by simp), (FrB.sub HF3.out hFB HWB.out).trans hW⟩
              clear hRm hFB hN hFx hZ hHeld HX AS TP MK HCV
              go_wp2_with fail
              go_quiet (fail)
              have HR3 := Lib.hid (HR2.out _ ((Fr.refl [] v5).drewN nq))
              clear HR2 heqn z0 z1 z2 z3 z4 z5 z6 z7 z8 z9 z10 z11 z12 k0 k1 k2 k3 k4 k5
              go_wp2_with fail
              go_meet
              exact HR3.out
          case rest =>
            clear x0 x1 hNH hFH hNQ hc8 ha7 hwr hW3 hn HX HRM3 HF3 HN3 HNQ3 HHB2 HJ2 HRM HBM HF
            obtain ⟨hRm, bm, hF⟩ := hcut
            obtain ⟨S, G, last, gone, hRI⟩ := id hRm
            have hSl : S.length ≤ 60 := by have := hRI.len; have := HB1.out; omega
            have LV := Lib.hid (live_ok hRI.is (by omega))
            have HRM := Lib.hid hRm
            have HBM := Lib.hid bm
            have HF := Lib.hid hF
            have HRI := Lib.hid hRI
            have HSL := Lib.hid hSl
            clear hRm bm hF hRI hSl
            go_wp2_with fail
            refine LV.out.mono ?_
            rintro e w5 ⟨A, cap5, L, rfl, hLp, hLs, hLa, hLc, hLm, hF5⟩
            have hL60 : (L.length : Int) ≤ 60 := by have := hLp.length_eq; have := HSL.out; omega
            have hLmo : ¬ most < (L.length : Int) := by have := hLp.length_eq; have := HRI.out.len; omega
            have HLP := Lib.hid hLp
            have HLS := Lib.hid hLs
            have HLA := Lib.hid hLa
            have HF5 := Lib.hid hF5
            unfold maxLen at hLm
            clear LV hLp hLs hLa hF5
            go_wp2_with fail
            go_loopw [12] (fun kv wr => ∃ k : Nat, k ≤ L.length ∧ kv = .int .i64 k ∧ Fr [] w5 wr) (fun kv _ => L.length - (intOf kv).toNat)
            case atStart => exact ⟨0, Nat.zero_le _, rfl, Fr.refl _ _⟩
            case round =>
              obtain ⟨k, hk, rfl, hR5⟩ := hrel
              have HR5 := Lib.hid hR5
              clear hR5
              by_cases hkl : k < L.length
              · obtain ⟨s, hs⟩ : ∃ s, L[k]? = some s := ⟨_, List.getElem?_eq_getElem hkl⟩
                obtain ⟨q, rfl, hq, hcs⟩ := HLA.out k s hs
                have HCS := Lib.hid hcs
                have hs1 : 1 ≤ s.n := ((HRI.out.is.num s (HLP.out.mem_iff.1 (List.mem_of_getElem? hs))).1)
                have HS1 := Lib.hid hs1
                have HS := Lib.hid hs
                clear hq hcs hs1 hs
                go_wp2_with fail
                go_loopw [13, 14] (fun ov jv wr => ∃ jj : Nat, jj ≤ L.length ∧ jv = .int .i64 jj ∧ ov = .int .i64 (ownT L jj s.m : Nat) ∧ Fr [] w5 wr) (fun _ jv _ => L.length - (intOf jv).toNat)
                case atStart => exact ⟨0, Nat.zero_le _, rfl, rfl, HR5.out⟩
                case round =>
                  obtain ⟨jj, hjj, rfl, rfl, hR6⟩ := hrel
                  have HR6 := Lib.hid hR6
                  have hole : ownT L jj s.m ≤ 60 := by have := ownT_le L jj s.m; have : ofCard L s.m ≤ L.length := List.length_filter_le _ _; omega
                  have HSUC := Lib.hid fun t => ownT_succ L jj s.m t
                  obtain ⟨o, ho⟩ : ∃ o, ownT L jj s.m = o := ⟨_, rfl⟩
                  rw [ho] at hole HSUC ⊢
                  have ho60 : (o : Int) ≤ 60 := by omega
                  have HO := Lib.hid ho
                  clear hR6 hole ho
                  by_cases hjl2 : jj < L.length
                  · obtain ⟨t, ht⟩ : ∃ t, L[jj]? = some t := ⟨_, List.getElem?_eq_getElem hjl2⟩
                    obtain ⟨q2, hq2, hq3, hct⟩ := HLA.out jj t ht
                    obtain rfl : q = q2 := by injection hq2 with hq2; injection hq2
                    have HSUC2 := Lib.hid (HSUC.out t ht)
                    have HCT := Lib.hid hct
                    have HT := Lib.hid ht
                    have heqm := fun W => eq_mac 9998 t.m s.m W
                    unfold mcL at heqm
                    obtain ⟨em, hem⟩ : ∃ e, mcEq t.m s.m = e := ⟨_, rfl⟩
                    rw [hem] at heqm
                    have HEM := Lib.hid hem
                    clear hq2 hq3 hct ht HSUC hem
                    have HCELL : Hid (∀ W, Fr [] w5 W → W.cell? ⟨q, jj * 9, none⟩ = some (.int .u8 t.m.a) ∧ W.cell? ⟨q, jj * 9 + 1, none⟩ = some (.int .u8 t.m.b) ∧ W.cell? ⟨q, jj * 9 + 2, none⟩ = some (.int .u8 t.m.c) ∧ W.cell? ⟨q, jj * 9 + 3, none⟩ = some (.int .u8 t.m.d) ∧ W.cell? ⟨q, jj * 9 + 4, none⟩ = some (.int .u8 t.m.e) ∧ W.cell? ⟨q, jj * 9 + 5, none⟩ = some (.int .u8 t.m.f) ∧ W.cell? ⟨q, jj * 9 + 6, none⟩ = some (.int .i64 t.n) ∧ W.cell? ⟨q, k * 9, none⟩ = some (.int .u8 s.m.a) ∧ W.cell? ⟨q, k * 9 + 1, none⟩ = some (.int .u8 s.m.b) ∧ W.cell? ⟨q, k * 9 + 2, none⟩ = some (.int .u8 s.m.c) ∧ W.cell? ⟨q, k * 9 + 3, none⟩ = some (.int .u8 s.m.d) ∧ W.cell? ⟨q, k * 9 + 4, none⟩ = some (.int .u8 s.m.e) ∧ W.cell? ⟨q, k * 9 + 5, none⟩ = some (.int .u8 s.m.f) ∧ W.cell? ⟨q, k * 9 + 6, none⟩ = some (.int .i64 s.n)) := Lib.hid fun W hW => ⟨HCT.out W hW 0 _ rfl, HCT.out W hW 1 _ rfl, HCT.out W hW 2 _ rfl, HCT.out W hW 3 _ rfl, HCT.out W hW 4 _ rfl, HCT.out W hW 5 _ rfl, HCT.out W hW 6 _ rfl, HCS.out W hW 0 _ rfl, HCS.out W hW 1 _ rfl, HCS.out W hW 2 _ rfl, HCS.out W hW 3 _ rfl, HCS.out W hW 4 _ rfl, HCS.out W hW 5 _ rfl, HCS.out W hW 6 _ rfl⟩
                    obtain ⟨y0, y1, y2, y3, y4, y5, y6, y7, y8, y9, y10, y11, y12, y13⟩ := HCELL.out _ HR6.out
                    by_cases hjk : jj = k
                    · have hjb : ((jj : Int) != (k : Int)) = false := by simp [hjk]
                      clear y0 y1 y2 y3 y4 y5 y6 y7 y8 y9 y10 y11 y12 y13 hjk
                      go_wp2_with fail
                      refine wp_region_held_drew (S := fun W => Fr [] w5 W) (by kernel_rfl) ?_ (fun hHeld => ?_)
                      · (try dsimp only); exact HR6.out.drew
                      refine take_yes 0 117 rfl rfl (by kernel_rfl) (by kernel_rfl) (by kernel_rfl) (fun _ _ _ h => h) (by rfl) (by assumption) (v := ?_) ?_ ?_
                      rotate_left
                      · intro w hSw; (try dsimp only at hSw); go_simp; (try with_reducible rfl)
                      try simp only [Act.put, List.setIfInBounds_toArray, List.set_cons_zero, List.set_cons_succ]
                      refine take_yes 1 118 rfl rfl (by kernel_rfl) (by kernel_rfl) (by kernel_rfl) (fun _ _ _ h => h) (by rfl) (by assumption) (v := ?_) ?_ ?_
                      rotate_left
                      · intro w hSw; (try dsimp only at hSw); go_simp; (try with_reducible rfl)
                      try simp only [Act.put, List.setIfInBounds_toArray, List.set_cons_zero, List.set_cons_succ]
                      refine take_yes 2 119 rfl rfl (by kernel_rfl) (by kernel_rfl) (by kernel_rfl) (fun _ _ _ h => h) (by rfl) (by assumption) (v := ?_) ?_ ?_
                      rotate_left
                      · intro w hSw; (try dsimp only at hSw); go_simp; (try with_reducible rfl)
                      try simp only [Act.put, List.setIfInBounds_toArray, List.set_cons_zero, List.set_cons_succ]
                      refine take_yes 3 120 rfl rfl (by kernel_rfl) (by kernel_rfl) (by kernel_rfl) (fun _ _ _ h => h) (by rfl) (by assumption) (v := ?_) ?_ ?_
                      rotate_left
                      · intro w hSw; (try dsimp only at hSw); go_simp; (try with_reducible rfl)
                      try simp only [Act.put, List.setIfInBounds_toArray, List.set_cons_zero, List.set_cons_succ]
                      refine take_no 4 121 rfl rfl (by kernel_rfl) (by kernel_rfl) (by kernel_rfl) (fun _ _ _ h => h) (by rfl) (by assumption) ?_
                      try simp only [Act.put, List.setIfInBounds_toArray, List.set_cons_zero, List.set_cons_succ]
                      refine take_no 5 122 rfl rfl (by kernel_rfl) (by kernel_rfl) (by kernel_rfl) (fun _ _ _ h => h) (by rfl) (by assumption) ?_
                      try simp only [Act.put, List.setIfInBounds_toArray, List.set_cons_zero, List.set_cons_succ]
                      refine take_no 6 123 rfl rfl (by kernel_rfl) (by kernel_rfl) (by kernel_rfl) (fun _ _ _ h => h) (by rfl) (by assumption) ?_
                      try simp only [Act.put, List.setIfInBounds_toArray, List.set_cons_zero, List.set_cons_succ]
                      refine take_no 7 124 rfl rfl (by kernel_rfl) (by kernel_rfl) (by kernel_rfl) (fun _ _ _ h => h) (by rfl) (by assumption) ?_
                      try simp only [Act.put, List.setIfInBounds_toArray, List.set_cons_zero, List.set_cons_succ]
                      refine take_no 8 125 rfl rfl (by kernel_rfl) (by kernel_rfl) (by kernel_rfl) (fun _ _ _ h => h) (by rfl) (by assumption) ?_
                      try simp only [Act.put, List.setIfInBounds_toArray, List.set_cons_zero, List.set_cons_succ]
                      refine take_no 9 126 rfl rfl (by kernel_rfl) (by kernel_rfl) (by kernel_rfl) (fun _ _ _ h => h) (by rfl) (by assumption) ?_
                      try simp only [Act.put, List.setIfInBounds_toArray, List.set_cons_zero, List.set_cons_succ]
                      refine take_no 10 127 rfl rfl (by kernel_rfl) (by kernel_rfl) (by kernel_rfl) (fun _ _ _ h => h) (by rfl) (by assumption) ?_
                      try simp only [Act.put, List.setIfInBounds_toArray, List.set_cons_zero, List.set_cons_succ]
                      refine take_no 11 128 rfl rfl (by kernel_rfl) (by kernel_rfl) (by kernel_rfl) (fun _ _ _ h => h) (by rfl) (by assumption) ?_
                      try simp only [Act.put, List.setIfInBounds_toArray, List.set_cons_zero, List.set_cons_succ]
                      refine take_no 12 129 rfl rfl (by kernel_rfl) (by kernel_rfl) (by kernel_rfl) (fun _ _ _ h => h) (by rfl) (by assumption) ?_
                      try simp only [Act.put, List.setIfInBounds_toArray, List.set_cons_zero, List.set_cons_succ]
                      refine take_no 13 130 rfl rfl (by kernel_rfl) (by kernel_rfl) (by kernel_rfl) (fun _ _ _ h => h) (by rfl) (by assumption) ?_
                      try simp only [Act.put, List.setIfInBounds_toArray, List.set_cons_zero, List.set_cons_succ]
                      refine take_no 14 131 rfl rfl (by kernel_rfl) (by kernel_rfl) (by kernel_rfl) (fun _ _ _ h => h) (by rfl) (by assumption) ?_
                      try simp only [Act.put, List.setIfInBounds_toArray, List.set_cons_zero, List.set_cons_succ]
                      refine take_no 15 132 rfl rfl (by kernel_rfl) (by kernel_rfl) (by kernel_rfl) (fun _ _ _ h => h) (by rfl) (by assumption) ?_
                      try simp only [Act.put, List.setIfInBounds_toArray, List.set_cons_zero, List.set_cons_succ]
                      refine take_no 16 133 rfl rfl (by kernel_rfl) (by kernel_rfl) (by kernel_rfl) (fun _ _ _ h => h) (by rfl) (by assumption) ?_
                      try simp only [Act.put, List.setIfInBounds_toArray, List.set_cons_zero, List.set_cons_succ]
                      refine take_yes 17 134 rfl rfl (by kernel_rfl) (by kernel_rfl) (by kernel_rfl) (fun _ _ _ h => h) (by rfl) (by assumption) (v := ?_) ?_ ?_
                      rotate_left
                      · intro w hSw; (try dsimp only at hSw); go_simp; (try with_reducible rfl)
                      try simp only [Act.put, List.setIfInBounds_toArray, List.set_cons_zero, List.set_cons_succ]
                      refine wpAnyH_done (by kernel_rfl) ?_ _
                      obtain ⟨V1, hV1⟩ : ∃ V, wr.drew = V := ⟨_, rfl⟩
                      rw [hV1] at hHeld ⊢
                      clear hV1
                      obtain ⟨y0, y1, y2, y3, y4, y5, y6, y7, y8, y9, y10, y11, y12, y13⟩ := HCELL.out _ hHeld
                      go_wp2_with fail
                      go_quiet (fail)
                      have hR7 := hHeld.drewN nq
                      have HR7 := Lib.hid hR7
                      clear y0 y1 y2 y3 y4 y5 y6 y7 y8 y9 y10 y11 y12 y13 hHeld heqm hR7
                      cases em with
                      | true =>
                        have hsuc : ownT L (jj + 1) s.m = o + 1 := by have := HSUC2.out; rwa [if_pos ((mcEq_iff _ _).1 HEM.out)] at this
                        have HSUC3 := Lib.hid hsuc
                        clear hsuc
                        go_wp2_with fail
                        go_roundw
                        case rel => exact ⟨jj + 1, by omega, by go_num, by rw [HSUC3.out]; go_num, HR7.out⟩
                        case measure => (simp [intOf]) <;> omega
                      | false =>
                        have hsuc : ownT L (jj + 1) s.m = o := by have := HSUC2.out; rwa [if_neg (fun e => by have h1 := (mcEq_iff t.m s.m).2 e; rw [HEM.out] at h1; cases h1)] at this
                        have HSUC3 := Lib.hid hsuc
                        clear hsuc
                        go_wp2_with fail
                        go_roundw
                        case rel => exact ⟨jj + 1, by omega, by go_num, by rw [HSUC3.out], HR7.out⟩
                        case measure => (simp [intOf]) <;> omega
                    · have hjb : ((jj : Int) != (k : Int)) = true := by simp; omega
                      have hnn : (t.n == s.n) = false := by rw [beq_eq_false_iff_ne]; exact nums_ne HLS.out HS.out HT.out hjk
                      clear hjk
                      go_wp2_with fail
                      go_quiet (fail)
                      obtain ⟨V1, hV1⟩ : ∃ V, wr.drewN nq = V := ⟨_, rfl⟩
                      have hZ1 : Fr [] w5 V1 := by rw [← hV1]; exact HR6.out.drewN nq
                      rw [hV1]
                      clear y0 y1 y2 y3 y4 y5 y6 y7 y8 y9 y10 y11 y12 y13 hV1
                      obtain ⟨y0, y1, y2, y3, y4, y5, y6, y7, y8, y9, y10, y11, y12, y13⟩ := HCELL.out _ hZ1
                      go_wp2_with fail
                      go_quiet (fail)
                      have hR7 := hZ1.drewN nq
                      have HR7 := Lib.hid hR7
                      clear y0 y1 y2 y3 y4 y5 y6 y7 y8 y9 y10 y11 y12 y13 hZ1 heqm hR7
                      cases em with
                      | true =>
                        have hsuc : ownT L (jj + 1) s.m = o + 1 := by have := HSUC2.out; rwa [if_pos ((mcEq_iff _ _).1 HEM.out)] at this
                        have HSUC3 := Lib.hid hsuc
                        clear hsuc
                        go_wp2_with fail
                        go_roundw
                        case rel => exact ⟨jj + 1, by omega, by go_num, by rw [HSUC3.out]; go_num, HR7.out⟩
                        case measure => (simp [intOf]) <;> omega
                      | false =>
                        have hsuc : ownT L (jj + 1) s.m = o := by have := HSUC2.out; rwa [if_neg (fun e => by have h1 := (mcEq_iff t.m s.m).2 e; rw [HEM.out] at h1; cases h1)] at this
                        have HSUC3 := Lib.hid hsuc
                        clear hsuc
                        go_wp2_with fail
                        go_roundw
                        case rel => exact ⟨jj + 1, by omega, by go_num, by rw [HSUC3.out], HR7.out⟩
                        case measure => (simp [intOf]) <;> omega
                  · obtain rfl : jj = L.length := by omega
                    have ho2 : ¬ (2 : Int) < (o : Int) := by
                      have h1 := HO.out
                      have h2 := HRI.out.two s.m
                      rw [← ofCard_perm HLP.out] at h2
                      have h3 := ownT_le L L.length s.m
                      omega
                    have hs6 : wr.cell? ⟨q, k * 9 + 6, none⟩ = some (.int .i64 s.n) := HCS.out _ HR6.out 6 _ rfl
                    have hs1 : ¬ s.n < 1 := by have := HS1.out; omega
                    clear HSUC
                    go_wp2_with fail
                    go_roundw
                    case rel => exact ⟨k + 1, by omega, by go_num, HR6.out⟩
                    case measure => (simp [intOf]) <;> omega
              · obtain rfl : k = L.length := by omega
                have HRR : Hid (Room most g xa xb b wr.heap.size (j + 1) wr ∧ Blk wr qm #[.int .u8 9, .int .u8 0, .int .u8 0, .int .u8 0, .int .u8 0, .int .u8 0] 28 ∧ Fr [] w wr) := Lib.hid ⟨((HRM.out.fr0 HF5.out).fr0 HR5.out).up (by have := HF5.out.size; have := HR5.out.size; omega) (Nat.le_refl _), HR5.out.blk (HF5.out.blk HBM.out (by simp)) (by simp), (HF.out.trans HF5.out).trans HR5.out⟩
                go_wp2_with fail
                go_roundw
                case rel => exact ⟨j + 1, by omega, by go_num, HRR.out.1, HRR.out.2.1, HRR.out.2.2⟩
                case measure => (simp [intOf]) <;> omega
        · obtain rfl : j = len := by omega
          go_wp2_with fail
          refine (AL.out _).mono ?_
          rintro e w2 ⟨rfl, hF2⟩
          have HF2 := Lib.hid (HF.out.trans hF2)
          clear hF2
          go_wp2_with fail
          go_ret
          exact ⟨rfl, HF2.out.below (Nat.le_refl _) (by simp)⟩
  · have NB := Lib.hid fun W => cnew_bad (w := W) mc9 most (by omega)
    unfold mcL B at NB
    rw [show mc9 = ⟨9, 0, 0, 0, 0, 0⟩ from rfl] at NB
    simp only at NB
    go_enter Try.func7, Try.ntmps7
    go_wp2_with fail
    refine (NB.out _).mono ?_
    rintro e w1 ⟨rfl, hF1⟩
    have HF1 := Lib.hid (HF0.out.trans hF1)
    clear hF1 NB
    go_wp2_with fail
    refine (AL.out _).mono ?_
    rintro e w2 ⟨rfl, hF2⟩
    have HF2 := Lib.hid (HF1.out.trans hF2)
    clear hF2
    go_wp2_with fail
    go_ret
    exact ⟨rfl, HF2.out.below (Nat.le_refl _) (by simp)⟩
end Go.Proofs.Ytcdencpkgfehlaa
