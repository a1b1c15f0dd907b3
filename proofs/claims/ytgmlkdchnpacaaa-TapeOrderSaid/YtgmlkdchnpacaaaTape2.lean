/- Draws: the document's Next; both Bytes. -/
import Derived.Test.YtgmlkdchnpacaaaTape1
namespace Go.Proofs.Ytgmlkdchnpacaaa
open Go.RowKit
set_option linter.unusedVariables false
section
variable {w w' : World} {T g lo B : Nat} {xs : List Int} {k n : Int}
set_option maxHeartbeats 2000000 in
theorem dnext_cons {x : Int} (h : Tp w 45 g lo B (x :: xs) k) (n0 : 1 ≤ n) (n1 : n ≤ 9223372036854775807) :
    Calls Try.prog 22 #[.pointer (some ⟨g, 0, none⟩), .int .i64 n] w fun e w' => e = .returned (.int .i64 (x % n)) ∧ Tp w' 45 g lo B xs k ∧ Fr [g] w w' := by
  obtain ⟨⟨A, cap, hb, hr, h1, h2, hlo⟩, hle, hv⟩ := h
  obtain ⟨x0, x1⟩ := hv x (by simp)
  obtain ⟨ad, u, rfl, had, hu, hc⟩ := hr.at_ (k := 0) (by simp)
  simp [i64V] at hu
  subst hu
  have hadd : ad.add 0 = ad := by unfold Addr.add; simp
  rw [hadd] at hc
  have hcut := hr.cut (k := 1) (cap := cap) (by simp) h1
  have c0 : w.cell? ⟨g, 0, none⟩ = some (.slice (some ad) (x :: xs).length cap) := hb.c 0 _ rfl
  have f0 := hb.fz 0
  have hl : (x :: xs).length = xs.length + 1 := rfl
  rw [hl] at c0 h1
  have hz : (((xs.length + 1 : Nat) : Int) == 0) = false := by rw [beq_eq_false_iff_ne]; omega
  clear hr
  unfold maxLen at h2
  have hv' : ∀ y, y ∈ xs → In64 y := fun y hy => hv y (by simp [hy])
  have hgl := hb.lt
  have hdl : (x :: xs).length - 1 = xs.length := rfl
  have hdr : List.drop (1 * 1) (List.map i64V (x :: xs)) = xs.map i64V := rfl
  rw [hdl, hdr] at hcut
  have hA : ∃ A', (if cap = 1 then some ad else some ⟨ad.block, ad.off + 1, none⟩) = A' ∧ Reads w B 1 A' xs.length (xs.map i64V) ∧ xs.length ≤ cap - 1 := by
    by_cases hcap : cap = 1
    · subst hcap
      have hx0 : xs = [] := List.eq_nil_of_length_eq_zero (by omega)
      subst hx0
      exact ⟨_, rfl, Reads.none_, by simp⟩
    · rw [if_neg hcap, Option.map_some, show ad.add (1 * 1) = ⟨ad.block, ad.off + 1, none⟩ by unfold Addr.add; simp] at hcut
      exact ⟨_, rfl, by rw [if_neg hcap]; exact hcut, by omega⟩
  obtain ⟨A', hA', hcut', hcap2⟩ := hA
  have HLO := Lib.hid (show ∀ a', A' = some a' → lo ≤ a'.block from fun a' e => by
    rw [← hA'] at e
    split at e <;> (cases e; exact hlo ad rfl))
  have HC := Lib.hid hcut'
  clear hdl hdr hv hcut hcut'
  have hF : Fr [g] w (w.setCell ⟨g, 0, none⟩ (.slice A' xs.length (cap - 1))) := (Fr.refl _ _).setCell (by simp) _
  have hT : Hid (Tp (w.setCell ⟨g, 0, none⟩ (.slice A' xs.length (cap - 1))) 45 g lo B xs k) := Lib.hid ⟨⟨A', cap - 1, hb.set 0 _, HC.out.fr hF (by omega) (by simp; exact hle), hcap2, by unfold maxLen; omega, HLO.out⟩, hle, hv'⟩
  have hFF := Lib.hid hF
  clear hF
  have hmn := Int.emod_nonneg x (show n ≠ 0 by omega)
  have hml := Int.emod_lt_of_pos x (show 0 < n by omega)
  by_cases hs : 0 ≤ x.tmod n
  · have ht := tmod_lo x n n0 hs
    clear hs
    by_cases hcap : cap = 1
    · rw [if_pos hcap] at hA'
      subst hcap hA'
      obtain rfl : xs = [] := List.eq_nil_of_length_eq_zero (by omega)
      go_enter Try.func22, Try.ntmps22
      go_wp2_with fail
      go_ret
      exact ⟨rfl, hT.out, hFF.out⟩
    · rw [if_neg hcap] at hA'
      subst hA'
      go_enter Try.func22, Try.ntmps22
      go_wp2_with fail
      go_ret
      exact ⟨rfl, hT.out, hFF.out⟩
  · have ht := tmod_hi x n n0 (by omega)
    clear hs
    have e : wrap64 (x % n - n + n) = x % n := by unfold wrap64; omega
    have hneg : x % n - n < 0 := by omega
    by_cases hcap : cap = 1
    · rw [if_pos hcap] at hA'
      subst hcap hA'
      obtain rfl : xs = [] := List.eq_nil_of_length_eq_zero (by omega)
      go_enter Try.func22, Try.ntmps22
      go_wp2_with fail
      go_ret
      exact ⟨rfl, hT.out, hFF.out⟩
    · rw [if_neg hcap] at hA'
      subst hA'
      go_enter Try.func22, Try.ntmps22
      go_wp2_with fail
      go_ret
      exact ⟨rfl, hT.out, hFF.out⟩
set_option maxHeartbeats 2000000 in
theorem dnext_nil (h : Tp w 45 g lo B [] k) (n0 : 1 ≤ n) (n1 : n ≤ 9223372036854775807) (k0 : 0 ≤ k) (k1 : k ≤ 1099511627776) :
    Calls Try.prog 22 #[.pointer (some ⟨g, 0, none⟩), .int .i64 n] w fun e w' => e = .returned (.int .i64 (7 * (k + 1) % n)) ∧ Tp w' 45 g lo B [] (k + 1) ∧ Fr [g] w w' := by
  obtain ⟨⟨A, cap, hb, hr, h1, h2, hlo⟩, hle, hv⟩ := h
  have ht : (7 * (k + 1)).tmod n = 7 * (k + 1) % n := Int.tmod_eq_emod_of_nonneg (by omega)
  have c0 : w.cell? ⟨g, 0, none⟩ = some (.slice A 0 cap) := hb.c 0 _ rfl
  have c1 : w.cell? ⟨g, 1, none⟩ = some (.int .i64 k) := hb.c 1 _ rfl
  have f1 := hb.fz 1
  have hgl := hb.lt
  clear hr
  go_enter Try.func22, Try.ntmps22
  go_wp2_with fail
  go_ret
  exact ⟨rfl, ⟨⟨A, cap, hb.set 1 _, Reads.none_, Nat.zero_le _, h2, hlo⟩, hle, by simp⟩, (Fr.refl _ _).setCell (by simp) _⟩
theorem dnext_any (h : Tp w 45 g lo B xs k) (n0 : 1 ≤ n) (n1 : n ≤ 9223372036854775807) (k0 : 0 ≤ k) (k1 : k ≤ 1099511627776) :
    Calls Try.prog 22 #[.pointer (some ⟨g, 0, none⟩), .int .i64 n] w fun e w' => e = .returned (.int .i64 (dv xs k n)) ∧ Tp w' 45 g lo B xs.tail (nx xs k) ∧ Fr [g] w w' := by
  cases xs with
  | nil => exact dnext_nil h n0 n1 k0 k1
  | cons x r => exact dnext_cons h n0 n1
theorem dnext_low (n0 : n < 1) :
    Calls Try.prog 22 #[.pointer (some ⟨g, 0, none⟩), .int .i64 n] w fun e w' => e = .returned (.int .i64 0) ∧ w' = w := by
  go_enter Try.func22, Try.ntmps22
  go_wp2_with fail
  go_ret
  exact ⟨rfl, rfl⟩
/-- what is left, and how often it was asked behind the end, after m draws -/
def aft : Nat → List Int → Int → List Int × Int
  | 0, xs, k => (xs, k)
  | m + 1, xs, k => ((aft m xs k).1.tail, nx (aft m xs k).1 (aft m xs k).2)
def bys : Nat → List Int → Int → List Int
  | 0, _, _ => []
  | m + 1, xs, k => bys m xs k ++ [dv (aft m xs k).1 (aft m xs k).2 256]
theorem bys_len (m : Nat) (xs : List Int) (k : Int) : (bys m xs k).length = m := by
  induction m with
  | zero => rfl
  | succ m ih => unfold bys; simp [ih]
theorem nx_le (xs : List Int) (k : Int) : k ≤ nx xs k ∧ nx xs k ≤ k + 1 := by unfold nx; split <;> omega
theorem aft_le (m : Nat) (xs : List Int) (k : Int) : k ≤ (aft m xs k).2 ∧ (aft m xs k).2 ≤ k + m := by
  induction m with
  | zero => unfold aft; simp
  | succ m ih => unfold aft; have := nx_le (aft m xs k).1 (aft m xs k).2; simp only; omega
theorem tail_sub {x : Int} (h : x ∈ xs.tail) : x ∈ xs := List.mem_of_mem_tail h
theorem infoByte : (Try.prog.info? 5).map (fun i => (i.zero, i.size, i.bytes)) = some (some (.int .u8 0), 1, 1) := by kernel_rfl
theorem Tp.grown {row : Option Nat} (h : Tp w T g lo B xs k) (hg : w.grownBy w' row) (hr : ∀ q, row = some q → g < q) : Tp w' T g lo B xs k := by
  have hlt := h.lt
  obtain ⟨⟨A, cap, hb, hrd, h1, h2, hlo⟩, hle, hv⟩ := h
  refine ⟨⟨A, cap, ?_, hrd.grown hg (by omega) (fun q hq => by have := hr q hq; omega), h1, h2, hlo⟩, hle, hv⟩
  unfold Blk at *
  rw [hg.block g hlt (fun e => by have := hr g e.symm; omega)]
  exact hb
set_option maxHeartbeats 4000000 in
/-- the document's Bytes -/
theorem dbytes_ok (m : Nat) (h : Tp w 45 g lo B xs k) (m0 : 1 ≤ m) (m1 : m ≤ 64) (k0 : 0 ≤ k) (k1 : k + 64 ≤ 1099511627776) :
    Calls Try.prog 20 #[.pointer (some ⟨g, 0, none⟩), .int .i64 m] w fun e w' => e = .returned (.string (Go.Proofs.Ytgmlkdchnpacaaa.B (bytesOf (bys m xs k)))) ∧ Tp w' 45 g lo B (aft m xs k).1 (aft m xs k).2 ∧ Fr [g] w w' := by
  obtain ⟨i0, hi, hz0, hz1, hz2⟩ := info_parts infoByte
  have hgl := h.lt
  have i1 : ¬ (m : Int) < 1 := by omega
  have i2 : ¬ (64 : Int) < m := by omega
  have HT := Lib.hid h
  clear h
  go_enter Try.func20, Try.ntmps20
  go_wp2_with fail
  go_loopw [5, 6] (fun v iv wr => ∃ j : Nat, j ≤ m ∧ iv = .int .i64 j ∧ wr.ownsRow w.heap.size 5 1 v j ((bys j xs k).map (Value.int .u8)) ∧ Tp wr 45 g lo B (aft j xs k).1 (aft j xs k).2 ∧ Fr [g] w wr) (fun _ iv _ => m - (intOf iv).toNat)
  case atStart => exact ⟨0, by omega, rfl, World.ownsRow_nil _ _ _ _, HT.out, Fr.refl _ _⟩
  case round =>
    obtain ⟨j, hj, rfl, hown, hT, hF⟩ := hrel
    by_cases hlt : j < m
    · have ha := aft_le j xs k
      have HN := Lib.hid (dnext_any hT (n := 256) (by decide) (by decide) (by omega) (by omega))
      have hd := dv_in (aft j xs k).1 (aft j xs k).2 256 (by decide)
      have hb : bys (j + 1) xs k = bys j xs k ++ [dv (aft j xs k).1 (aft j xs k).2 256] := rfl
      obtain ⟨x, hx⟩ : ∃ x, dv (aft j xs k).1 (aft j xs k).2 256 = x := ⟨_, rfl⟩
      rw [hx] at HN hd hb
      have hxx : x % 256 = x := Int.emod_eq_of_lt hd.1 hd.2
      have HB := Lib.hid hb
      have HTn := Lib.hid (show ∀ W, Tp W 45 g lo B (aft j xs k).1.tail (nx (aft j xs k).1 (aft j xs k).2) → Tp W 45 g lo B (aft (j + 1) xs k).1 (aft (j + 1) xs k).2 from fun _ h => h)
      have hjb : (j : Int) ≤ 64 := by omega
      clear ha hd hb hx hT
      go_wp2_with fail
      refine HN.out.mono ?_
      rintro e w5 ⟨rfl, hT5, hF5⟩
      have hown5 := own_fr hown hF5 (by simp; exact hgl)
      have hF6 := hF.trans hF5
      have hws := hF6.size
      obtain ⟨A, cp, rfl⟩ : ∃ A cp, u5 = .slice A j cp := by
        rcases hown5.2 with ⟨h1, h2⟩ | ⟨g', cap, cur, h1, _⟩
        · have hj0 : j = 0 := by have := hown5.1; rw [h2] at this; simp at this; omega
          exact ⟨none, 0, by rw [h1, hj0]⟩
        · exact ⟨_, _, h1⟩
      have HT6 := Lib.hid (HTn.out _ hT5)
      clear HN hown hF hF5 hT5 HTn
      go_wp2_with (at_builtin; refine wpList_append_own _ rfl _ _ 66 rfl w.heap.size 5 i0 (.int .u8 0) 1 1 Try.underlying66 hi hz0 hz1 hz2 rfl (by decide) _ j _ rfl (hown5.alloc _) ⟨w5.heap.size, 0, none⟩ 1 1 [.int .u8 x] rfl rfl ?c1 ?c2 ?c3 ?c4 ?c5 ?_)
      case c1 => exact new_cells w5 [.int .u8 x] 5
      case c2 => simp [Value.oneCell']
      case c3 => unfold maxLen; omega
      case c4 => omega
      case c5 => simp; omega
      intro v' w6 hown' hgr _
      have HT7 := Lib.hid ((HT6.out.fr0 ((Fr.refl [] w5).alloc (.cells #[.int .u8 x] 5 (0, 0)))).grown hgr (fun q hq => by have := own_new hown5 q hq; omega))
      have hF7 := (hF6.alloc _).grown hgr (fun q hq => own_new hown5 q hq)
      have HO := Lib.hid hown'
      clear hown' hgr hown5 hF6 HT6
      go_wp2_with fail
      go_roundw
      case rel => exact ⟨j + 1, by omega, by go_num, by rw [HB.out, List.map_append]; exact HO.out, HT7.out, hF7⟩
      case measure => (simp [intOf]) <;> omega
    · obtain rfl : j = m := by omega
      have hge : ¬ (j : Int) < j := by omega
      have hcv := run_str_any (P := Try.prog) Try.underlying66 Try.underlying5 Try.underlying9 (bys j xs k) _ hown
      clear hlt hj
      go_wp2_with fail
      go_ret
      exact ⟨rfl, hT, hF⟩
def arrB (m j : Nat) (xs : List Int) (k : Int) : Array Value := ((bys j xs k ++ List.replicate (m - j) 0).map (Value.int .u8)).toArray
theorem arrB_zero (m : Nat) (xs : List Int) (k : Int) : madeCells (Value.int .u8 0).cells m = arrB m 0 xs k := by
  unfold arrB bys
  apply Array.ext'
  apply List.ext_getElem?
  intro i
  unfold madeCells
  by_cases hi : i < m
  · simp [hi, Value.cells, Nat.mod_one]
  · simp [hi]
theorem arrB_set (m j : Nat) (xs : List Int) (k : Int) (hj : j < m) : (arrB m j xs k).setIfInBounds j (.int .u8 (dv (aft j xs k).1 (aft j xs k).2 256)) = arrB m (j + 1) xs k := by
  unfold arrB
  apply Array.ext'
  rw [Array.toList_setIfInBounds]
  simp only []
  have hl : ((bys j xs k).map (Value.int .u8)).length = j := by rw [List.length_map, bys_len]
  rw [List.map_append, List.set_append_right _ _ (by rw [hl]; exact Nat.le_refl _), hl, Nat.sub_self]
  obtain ⟨d, hd⟩ : ∃ d, m - j = d + 1 := ⟨m - j - 1, by omega⟩
  rw [hd, show m - (j + 1) = d by omega, List.replicate_succ, List.map_cons, List.set_cons_zero]
  show _ = List.map (Value.int .u8) ((bys j xs k ++ [dv (aft j xs k).1 (aft j xs k).2 256]) ++ List.replicate d 0)
  rw [List.append_assoc, List.map_append]
  rfl
theorem arrB_at (m j : Nat) (xs : List Int) (k : Int) (hj : j < m) : (arrB m j xs k)[j]? = some (.int .u8 0) := by
  unfold arrB
  have hl : ((bys j xs k).map (Value.int .u8)).length = j := by rw [List.length_map, bys_len]
  rw [List.getElem?_toArray, List.map_append, List.getElem?_append_right (by rw [hl]; exact Nat.le_refl _), hl, Nat.sub_self]
  obtain ⟨d, hd⟩ : ∃ d, m - j = d + 1 := ⟨m - j - 1, by omega⟩
  rw [hd, List.replicate_succ]
  rfl
theorem arrB_full (m : Nat) (xs : List Int) (k : Int) : arrB m m xs k = ((bys m xs k).map (Value.int .u8)).toArray := by
  unfold arrB
  rw [Nat.sub_self]
  simp
set_option maxHeartbeats 4000000 in
/-- tape.Bytes -/
theorem tbytes_ok (m : Nat) (h : Tp w 48 g lo B xs k) (m0 : 1 ≤ m) (m1 : m ≤ 64) (k0 : 0 ≤ k) (k1 : k + 64 ≤ 1099511627776) :
    Calls Try.prog 19 #[.pointer (some ⟨g, 0, none⟩), .int .i64 m] w fun e w' => e = .returned (.string (Go.Proofs.Ytgmlkdchnpacaaa.B (bytesOf (bys m xs k)))) ∧ Tp w' 48 g lo B (aft m xs k).1 (aft m xs k).2 ∧ Fr [g] w w' := by
  obtain ⟨i0, hi, hz0, hz1, hz2⟩ := info_parts infoByte
  have hgl := h.lt
  have i1 : ¬ (m : Int) < 1 := by omega
  have i2 : ¬ (64 : Int) < m := by omega
  have hmk : ∀ W : World, (Instr.makeSlice 66 (.int .i64 (m : Int)) (.int .i64 (m : Int))).run Try.prog W = .ok (.slice (some ⟨W.heap.size, 0, none⟩) m m) (W.alloc (.cells (arrB m 0 xs k) 5)) := fun W => by
    have h := run_make (P := Try.prog) W 66 5 i0 (.int .u8 0) Try.underlying66 hi hz0 .i64 .i64 (m : Int) (m : Int) (by omega) (by omega) (by rw [hz2]; omega) (by omega)
    rw [show ((m : Nat) : Int).toNat * i0.size = m by rw [hz1]; simp, arrB_zero m xs k] at h
    simpa using h
  have HT := Lib.hid h
  obtain ⟨R, hR⟩ : ∃ R, arrB m 0 xs k = R := ⟨_, rfl⟩
  rw [hR] at hmk
  have HR := Lib.hid hR
  clear h hR hi hz0 hz1 hz2
  go_enter Try.func19, Try.ntmps19
  go_wp2_with fail
  have hB0 := Blk.new w R 5
  have hF0 := (Fr.refl [] w).alloc (.cells R 5 (0, 0))
  obtain ⟨q, hq⟩ : ∃ q, w.heap.size = q := ⟨_, rfl⟩
  rw [hq] at hB0 ⊢
  have hB0 : Blk (w.alloc (.cells R 5 (0, 0))) q (arrB m 0 xs k) 5 := by rw [HR.out]; exact hB0
  have hqg : q ≠ g := by omega
  have hqw : w.heap.size ≤ q := by omega
  go_loopw [17] (fun iv wr => ∃ j : Nat, j ≤ m ∧ iv = .int .i64 j ∧ Blk wr q (arrB m j xs k) 5 ∧ Tp wr 48 g lo B (aft j xs k).1 (aft j xs k).2 ∧ Fr [g] w wr) (fun iv _ => m - (intOf iv).toNat)
  case atStart => exact ⟨0, by omega, rfl, hB0, HT.out.fr0 hF0, hF0.mono (by simp)⟩
  case round =>
    clear hB0 hF0 hq
    obtain ⟨j, hj, rfl, hB, hT, hF⟩ := hrel
    by_cases hlt : j < m
    · have ha := aft_le j xs k
      have HN := Lib.hid (tnext_any hT (n := 256) (by decide) (by decide) (by omega) (by omega))
      have hd := dv_in (aft j xs k).1 (aft j xs k).2 256 (by decide)
      have hset := arrB_set m j xs k hlt
      have hat := arrB_at m j xs k hlt
      obtain ⟨x, hx⟩ : ∃ x, dv (aft j xs k).1 (aft j xs k).2 256 = x := ⟨_, rfl⟩
      rw [hx] at HN hd hset
      have hxx : x % 256 = x := Int.emod_eq_of_lt hd.1 hd.2
      have HTn := Lib.hid (show ∀ W, Tp W 48 g lo B (aft j xs k).1.tail (nx (aft j xs k).1 (aft j xs k).2) → Tp W 48 g lo B (aft (j + 1) xs k).1 (aft (j + 1) xs k).2 from fun _ h => h)
      have hjb : (j : Int) ≤ 64 := by omega
      have Hset := Lib.hid hset
      clear ha hd hx hT hset
      go_wp2_with fail
      refine HN.out.mono ?_
      rintro e w5 ⟨rfl, hT5, hF5⟩
      have hB5 := hF5.blk hB (by simp; exact hqg)
      have c0 : w5.cell? ⟨q, j, none⟩ = some (.int .u8 0) := hB5.c j _ hat
      have f0 := hB5.fz j
      have HF6 := Lib.hid ((hF.trans hF5).setNew (p := ⟨q, j, none⟩) hqw (.int .u8 x))
      have HT6 := Lib.hid ((HTn.out _ hT5).fr (S := [q]) (w' := w5.setCell ⟨q, j, none⟩ (.int .u8 x)) ((Fr.refl _ _).setCell (by simp) _) (by simp; have := hT5.le; omega) (by simp; exact fun e => hqg e.symm))
      have HB6 := Lib.hid (hB5.set j (.int .u8 x))
      clear HN hB hF hF5 hT5 HTn hB5 hat
      go_wp2_with fail
      go_roundw
      case rel => exact ⟨j + 1, by omega, by go_num, by rw [← Hset.out]; exact HB6.out, HT6.out, HF6.out⟩
      case measure => (simp [intOf]) <;> omega
    · obtain rfl : j = m := by omega
      have hge : ¬ (j : Int) < j := by omega
      rw [arrB_full] at hB
      have hcv := run_str (P := Try.prog) Try.underlying66 Try.underlying5 Try.underlying9 (bys j xs k) (cap := j) hB j (bys_len _ _ _).symm
      clear hlt hj
      go_wp2_with fail
      go_ret
      exact ⟨rfl, hT, hF⟩
theorem tbytes_bad {m : Int} (h : m < 1 ∨ 64 < m) : Calls Try.prog 19 #[.pointer (some ⟨g, 0, none⟩), .int .i64 m] w fun e w' => e = .returned (.string (Go.Proofs.Ytgmlkdchnpacaaa.B [])) ∧ w' = w := by
  have hX : m < 1 ∨ ¬ m < 1 ∧ 64 < m := by omega
  rcases hX with hX | ⟨h1, hX⟩
  · go_enter Try.func19, Try.ntmps19
    go_wp2_with fail
    go_ret
    exact ⟨rfl, rfl⟩
  · go_enter Try.func19, Try.ntmps19
    go_wp2_with fail
    go_ret
    exact ⟨rfl, rfl⟩
theorem dbytes_bad {m : Int} (h : m < 1 ∨ 64 < m) : Calls Try.prog 20 #[.pointer (some ⟨g, 0, none⟩), .int .i64 m] w fun e w' => e = .returned (.string (Go.Proofs.Ytgmlkdchnpacaaa.B [])) ∧ w' = w := by
  have hX : m < 1 ∨ ¬ m < 1 ∧ 64 < m := by omega
  rcases hX with hX | ⟨h1, hX⟩
  · go_enter Try.func20, Try.ntmps20
    go_wp2_with fail
    go_ret
    exact ⟨rfl, rfl⟩
  · go_enter Try.func20, Try.ntmps20
    go_wp2_with fail
    go_ret
    exact ⟨rfl, rfl⟩
end
end Go.Proofs.Ytgmlkdchnpacaaa
