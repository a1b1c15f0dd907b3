/- package pool: Text; the first call that the document fixes. -/
import Derived.Test.YtnenmgankgadcaaPool4
import Derived.Test.YtnenmgankgadcaaDigits
import Derived.Test.YtnenmgankgadcaaJoin
import Derived.Outline
namespace Go.Proofs.Ytnenmgankgadcaa
open Go.RowKit Go.Maps
set_option linter.unusedVariables false

theorem infoStr : (Try.prog.info? 9).map (fun i => (i.zero, i.size, i.bytes)) = some (some (.string ByteArray.empty), 1, 16) := by kernel_rfl
theorem nd_le25 (f : Nat) (v : Int) : nd f v ≤ f + 1 := by
  induction f generalizing v with
  | zero => simp [nd]
  | succ f ih =>
    unfold nd
    split
    · omega
    · have := ih (v / 10); omega
theorem digL_len (v : Int) : (digL v).length ≤ 27 := by
  unfold digL
  rw [show (bytesOf (digI v)).length = (digI v).length by simp [bytesOf]]
  unfold digI
  have := nd_le25 25 (absI v)
  split <;> simp [dgI_length] <;> omega
def octs (a b c d : Int) : List (List UInt8) := [digL a, digL b, digL c, digL d]
def textL (a b c d : Int) : List UInt8 := Lib.join (octs a b c d) [46]
theorem textL_len (a b c d : Int) : (textL a b c d).length ≤ 200 := by
  unfold textL octs
  rw [Lib.join_cons]
  have h1 := digL_len a
  have h2 := digL_len b
  have h3 := digL_len c
  have h4 := digL_len d
  simp [Lib.joinTail]
  omega
def sV (l : List UInt8) : Value := .string (B l)
set_option maxRecDepth 100000 in
set_option maxHeartbeats 4000000 in
theorem text_any (a b c d : Int) (w : World) (ha : u8 a) (hb : u8 b) (hc : u8 c) (hd : u8 d) :
    Calls Try.prog 11 #[.agg (adr a b c d)] w fun e w' => e = .returned (.string (B (textL a b c d))) ∧ Fr [] w w' := by
  obtain ⟨i0, hi, hz0, hz1, hz2⟩ := info_parts infoStr
  have D := Lib.hid fun (x : Int) (hx : u8 x) (W : World) => digits_any x W (by unfold u8 at hx; omega) (by unfold u8 at hx; omega)
  have HA := Lib.hid ha
  have HB := Lib.hid hb
  have HC := Lib.hid hc
  have HD := Lib.hid hd
  have x0 : ∀ w, (Instr.index 23 (.agg #[.int .u8 a, .int .u8 b, .int .u8 c, .int .u8 d]) (.int .i64 0)).run Try.prog w = .ok (.int .u8 a) w := fun _ => by kernel_rfl
  have x1 : ∀ w, (Instr.index 23 (.agg #[.int .u8 a, .int .u8 b, .int .u8 c, .int .u8 d]) (.int .i64 1)).run Try.prog w = .ok (.int .u8 b) w := fun _ => by kernel_rfl
  have x2 : ∀ w, (Instr.index 23 (.agg #[.int .u8 a, .int .u8 b, .int .u8 c, .int .u8 d]) (.int .i64 2)).run Try.prog w = .ok (.int .u8 c) w := fun _ => by kernel_rfl
  have x3 : ∀ w, (Instr.index 23 (.agg #[.int .u8 a, .int .u8 b, .int .u8 c, .int .u8 d]) (.int .i64 3)).run Try.prog w = .ok (.int .u8 d) w := fun _ => by kernel_rfl
  unfold u8 at ha hb hc hd
  obtain ⟨a0, a1⟩ := ha
  obtain ⟨b0, b1⟩ := hb
  obtain ⟨c0, c1⟩ := hc
  obtain ⟨d0, d1⟩ := hd
  unfold adr
  go_enter Try.func11, Try.ntmps11
  go_wp2
  go_loopw [3, 7] (fun v iv wr => ∃ j : Nat, j ≤ 4 ∧ iv = .int .i64 j ∧ wr.ownsRow w.heap.size 9 1 v j (((octs a b c d).take j).map sV) ∧ Fr [] w wr) (fun _ iv _ => 4 - (intOf iv).toNat)
  case atStart => exact ⟨0, by omega, rfl, World.ownsRow_nil _ _ _ _, (Fr.refl _ _).alloc _⟩
  case round =>
    obtain ⟨j, hj, rfl, hown, hF⟩ := hrel
    by_cases hlt : j < 4
    · have hcases : j = 0 ∨ j = 1 ∨ j = 2 ∨ j = 3 := by omega
      have hx : ∃ (x : Int) (L : List UInt8), (0 ≤ x ∧ x < 256) ∧ (∀ w, (Instr.index 23 (.agg #[.int .u8 a, .int .u8 b, .int .u8 c, .int .u8 d]) (.int .i64 j)).run Try.prog w = .ok (.int .u8 x) w) ∧ digL x = L ∧ ((octs a b c d).take (j + 1)).map sV = ((octs a b c d).take j).map sV ++ [sV L] := by
        rcases hcases with rfl | rfl | rfl | rfl
        · exact ⟨a, _, HA.out, x0, rfl, rfl⟩
        · exact ⟨b, _, HB.out, x1, rfl, rfl⟩
        · exact ⟨c, _, HC.out, x2, rfl, rfl⟩
        · exact ⟨d, _, HD.out, x3, rfl, rfl⟩
      obtain ⟨x, L, hx8, hix, hL, hnx⟩ := hx
      have DX := Lib.hid (D.out x hx8)
      rw [hL] at DX
      have HN := Lib.hid hnx
      have hj4 : (j : Int) ≤ 4 := by omega
      obtain ⟨p0, p1⟩ := hx8
      clear hcases x0 x1 x2 x3 hL hnx
      go_wp2_with fail
      refine (DX.out _).mono ?_
      rintro e w5 ⟨rfl, hF5⟩
      have hz := hF.size
      have hz5 := hF5.size
      obtain ⟨A, cp, rfl⟩ : ∃ A cp, u3 = .slice A j cp := by
        rcases hown.2 with ⟨h1, h2⟩ | ⟨g', cap, cur, h1, _⟩
        · have hj0 : j = 0 := by have := hown.1; rw [h2] at this; simp at this; omega
          exact ⟨none, 0, by rw [h1, hj0]⟩
        · exact ⟨_, _, h1⟩
      have hl5 : ∀ g cap, Value.slice A j cp = .slice (some ⟨g, 0, none⟩) j cap → g < wr.heap.size := fun g cap he => by
        rcases hown.2 with ⟨h1, h2⟩ | ⟨g', cap', cur, h1, _, hg, _⟩
        · rw [h1] at he; cases he
        · rw [h1] at he; cases he; exact (Array.getElem?_eq_some_iff.1 hg).1
      have hown5 : w5.ownsRow w.heap.size 9 1 (.slice A j cp) j (((octs a b c d).take j).map sV) := by
        refine ⟨hown.1, ?_⟩
        rcases hown.2 with h1 | ⟨g', cap', cur, h1, h2, hg, h3⟩
        · exact Or.inl h1
        · exact Or.inr ⟨g', cap', cur, h1, h2, by rw [hF5.block g' (hl5 g' cap' h1) (by simp)]; exact hg, h3⟩
      have hF6 := hF.trans hF5
      clear hown hl5 hF hF5 DX hix
      go_wp2_with (at_builtin; refine wpList_append_own _ rfl _ _ 68 rfl w.heap.size 9 i0 (.string ByteArray.empty) 1 16 Try.underlying68 hi hz0 hz1 hz2 rfl (by decide) _ j _ rfl (hown5.alloc _) ⟨w5.heap.size, 0, none⟩ 1 1 [.string (B L)] rfl rfl ?c1 ?c2 ?c3 ?c4 ?c5 ?_)
      case c1 => exact new_cells w5 [.string (B L)] 9
      case c2 => simp [Value.oneCell']
      case c3 => unfold maxLen; omega
      case c4 => omega
      case c5 => simp; omega
      intro v' w6 hown' hgr _
      have hF7 : Fr [] w w6 := (hF6.alloc _).grown hgr (fun k hk => own_new hown5 k hk)
      have HO := Lib.hid hown'
      clear hown' hgr hown5 hF6
      go_wp2_with fail
      go_roundw
      case rel => exact ⟨j + 1, by omega, by go_num, by rw [HN.out, List.map_take]; exact HO.out, hF7⟩
      case measure => (simp [intOf]) <;> omega
    · obtain rfl : j = 4 := by omega
      obtain ⟨g', cap', hv, hg', hlt'⟩ := hown.form (by decide)
      subst hv
      have hcs := hown.cells (g := g') rfl
      have hcapl : (octs a b c d).length ≤ cap' := by
        rcases hown.2 with ⟨h1, _⟩ | ⟨g2, c2, cur, h1, _, _, h4, _⟩
        · cases h1
        · cases h1; exact h4
      have hge : ¬ ((4 : Nat) : Int) < 4 := by decide
      have J := Lib.hid (join_any (w := wr) g' cap' (octs a b c d) [46] (fun i y hy => by
        have h1 : (((octs a b c d).take 4).map sV)[i]? = some (sV y) := by
          rw [List.getElem?_map, show (octs a b c d).take 4 = octs a b c d from rfl, hy]; rfl
        have := hcs i _ h1
        have hp : (⟨g', 0, none⟩ : Addr).add i = ⟨g', i, none⟩ := by unfold Addr.add; split <;> simp_all
        rw [hp] at this; exact this) hlt' (show 4 ≤ 140737488355328 by decide) hcapl (by have := textL_len a b c d; unfold textL at this; omega))
      have hT : Lib.join (octs a b c d) [46] = textL a b c d := rfl
      rw [hT, show (octs a b c d).length = 4 from rfl] at J
      clear hown hcs hcapl hT x0 x1 x2 x3
      go_wp2_with fail
      refine J.out.mono ?_
      rintro e w7 ⟨rfl, hb⟩
      go_wp2_with fail
      go_ret
      exact ⟨rfl, hF.trans ⟨hb.os, hb.tape, hb.output, hb.size, fun k hk _ => hb.block k hk⟩⟩
/-- a pool, its maps unnamed -/
def PoolEx (w : World) (g bh bw : Nat) (b : Ad) (s : List (Option Ky)) : Prop := ∃ H M, PoolIs w g bh bw b s H M
section
variable {w w' : World} {g bh bw : Nat} {b : Ad} {s : List (Option Ky)}
theorem PoolEx.fr0 (h : PoolEx w g bh bw b s) (hF : Fr [] w w') : PoolEx w' g bh bw b s := by
  obtain ⟨H, M, h⟩ := h
  exact ⟨H, M, h.fr0 hF⟩
/-- who holds no place -/
def NotIn (s : List (Option Ky)) (k : Ky) : Prop := some k ∉ s
theorem NotIn.at_ {k : Ky} (h : NotIn s k) (i : Nat) : s[i]? ≠ some (some k) := fun he => h (List.mem_of_getElem? he)
/-- all places ahead of place i are taken -/
def Taken (s : List (Option Ky)) (i : Nat) : Prop := ∀ j, j < i → ∃ k, s[j]? = some (some k)
theorem taken_of (s : List (Option Ky)) (i : Nat) (h : (s.take i).all Option.isSome = true) (hi : i ≤ s.length) : Taken s i := fun j hj => by
  have hjl : j < s.length := by omega
  have := List.all_eq_true.1 h s[j] (by rw [List.mem_take_iff_getElem]; exact ⟨j, by omega, rfl⟩)
  obtain ⟨k, hk⟩ := Option.isSome_iff_exists.1 this
  exact ⟨k, by rw [List.getElem?_eq_getElem hjl, hk]⟩
theorem ex_take_new (k : Ky) (i : Nat) (hk : KyOk k) (h : PoolEx w g bh bw b s) (hn : NotIn s k) (hf : Taken s i) (hi : s[i]? = some none) :
    Calls Try.prog 14 #[.pointer (some ⟨g, 0, none⟩), .agg (kyC k)] w fun e w' => e = .returned (.tuple #[.agg (adC (adq (numb b + i))), .int .i64 0]) ∧ PoolEx w' g bh bw b (s.set i (some k)) ∧ Fr [bh, bw] w w' := by
  obtain ⟨H, M, h⟩ := h
  exact (take_new k i hk h hn.at_ hf hi).mono fun e w' ⟨he, hp, hF⟩ => ⟨he, ⟨_, _, hp⟩, hF⟩
theorem ex_take_full (k : Ky) (hk : KyOk k) (h : PoolEx w g bh bw b s) (hn : NotIn s k) (hf : Taken s s.length) :
    Calls Try.prog 14 #[.pointer (some ⟨g, 0, none⟩), .agg (kyC k)] w fun e w' => e = .returned (.tuple #[.agg (adC (0, 0, 0, 0)), .int .i64 10]) ∧ Fr [] w w' := by
  obtain ⟨H, M, h⟩ := h
  exact take_full k s.length hk h hn.at_ hf rfl
theorem ex_take_had (k : Ky) (i : Nat) (hk : KyOk k) (h : PoolEx w g bh bw b s) (hi : s[i]? = some (some k)) :
    Calls Try.prog 14 #[.pointer (some ⟨g, 0, none⟩), .agg (kyC k)] w fun e w' => e = .returned (.tuple #[.agg (adC (adq (numb b + i))), .int .i64 0]) ∧ Fr [] w w' := by
  obtain ⟨H, M, h⟩ := h
  exact take_had k i hk h hi
theorem ex_give_yes (k : Ky) (i : Nat) (hk : KyOk k) (h : PoolEx w g bh bw b s) (hi : s[i]? = some (some k)) :
    Calls Try.prog 15 #[.pointer (some ⟨g, 0, none⟩), .agg (kyC k)] w fun e w' => e = .returned (.int .i64 0) ∧ PoolEx w' g bh bw b (s.set i none) ∧ Fr [bh, bw] w w' := by
  obtain ⟨H, M, h⟩ := h
  exact (give_yes k i hk h hi).mono fun e w' ⟨he, hp, hF⟩ => ⟨he, ⟨_, _, hp⟩, hF⟩
theorem ex_give_no (k : Ky) (hk : KyOk k) (h : PoolEx w g bh bw b s) (hn : NotIn s k) :
    Calls Try.prog 15 #[.pointer (some ⟨g, 0, none⟩), .agg (kyC k)] w fun e w' => e = .returned (.int .i64 3) ∧ Fr [] w w' := by
  obtain ⟨H, M, h⟩ := h
  exact give_no k hk h hn.at_
theorem ex_has_yes (k : Ky) (i : Nat) (hk : KyOk k) (h : PoolEx w g bh bw b s) (hi : s[i]? = some (some k)) :
    Calls Try.prog 19 #[.pointer (some ⟨g, 0, none⟩), .agg (kyC k)] w fun e w' => e = .returned (.tuple #[.agg (adC (adq (numb b + i))), .bool true]) ∧ Fr [] w w' := by
  obtain ⟨H, M, h⟩ := h
  have := has_any k hk h
  rw [h.rel.has hi] at this
  exact this
theorem ex_has_no (k : Ky) (hk : KyOk k) (h : PoolEx w g bh bw b s) (hn : NotIn s k) :
    Calls Try.prog 19 #[.pointer (some ⟨g, 0, none⟩), .agg (kyC k)] w fun e w' => e = .returned (.tuple #[.agg (adC (0, 0, 0, 0)), .bool false]) ∧ Fr [] w w' := by
  obtain ⟨H, M, h⟩ := h
  have := has_any k hk h
  rw [h.rel.hasnt hn.at_] at this
  exact this
theorem ex_who_yes (i : Nat) (k : Ky) (h : PoolEx w g bh bw b s) (hi : s[i]? = some (some k)) :
    Calls Try.prog 21 #[.pointer (some ⟨g, 0, none⟩), .agg (adC (adq (numb b + i)))] w fun e w' => e = .returned (.tuple #[.agg (kyC k), .bool true]) ∧ Fr [] w w' := by
  obtain ⟨H, M, h⟩ := h
  have := who_any (adq (numb b + i)) (adq_ok _) h
  rw [h.rel.who hi] at this
  exact this
theorem ex_who_no (i : Nat) (h : PoolEx w g bh bw b s) (hi : s[i]? = some none) :
    Calls Try.prog 21 #[.pointer (some ⟨g, 0, none⟩), .agg (adC (adq (numb b + i)))] w fun e w' => e = .returned (.tuple #[.agg (kyC (0, 0)), .bool false]) ∧ Fr [] w w' := by
  obtain ⟨H, M, h⟩ := h
  have := who_any (adq (numb b + i)) (adq_ok _) h
  rw [h.rel.whont hi] at this
  exact this
theorem ex_who_out (a : Ad) (ha : AdOk a) (h : PoolEx w g bh bw b s) (hn : ∀ i : Nat, i < s.length → a ≠ adq (numb b + i)) :
    Calls Try.prog 21 #[.pointer (some ⟨g, 0, none⟩), .agg (adC a)] w fun e w' => e = .returned (.tuple #[.agg (kyC (0, 0)), .bool false]) ∧ Fr [] w w' := by
  obtain ⟨H, M, h⟩ := h
  have := who_any a ha h
  rw [h.rel.whoout a hn] at this
  exact this
theorem ex_free (h : PoolEx w g bh bw b s) :
    Calls Try.prog 23 #[.pointer (some ⟨g, 0, none⟩)] w fun e w' => e = .returned (.int .i64 ((s.length : Int) - (cnt s : Nat))) ∧ Fr [] w w' := by
  obtain ⟨H, M, h⟩ := h
  exact free_any h
end
set_option maxRecDepth 100000 in
set_option maxHeartbeats 4000000 in
theorem alive16 (w : World) :
    Calls Try.prog 8 #[] w fun e w' => e = .returned (.bool true) ∧ Fr [] w w' := by
  have P1 := Lib.hid (plnew_ok (w := w) (10, 0, 0, 254) 3 (by unfold AdOk u8; decide) (by decide) (by decide) (by decide))
  have e2 : adC (adq (numb (10, 0, 0, 254) + (2 : Nat))) = #[.int .u8 10, .int .u8 0, .int .u8 1, .int .u8 0] := rfl
  have e0 : adC (adq (numb (10, 0, 0, 254) + (0 : Nat))) = #[.int .u8 10, .int .u8 0, .int .u8 0, .int .u8 254] := rfl
  have E2 := Lib.hid e2
  have E0 := Lib.hid e0
  have TX := Lib.hid fun W => text_any 10 0 1 0 W (by unfold u8; decide) (by unfold u8; decide) (by unfold u8; decide) (by unfold u8; decide)
  rw [show textL 10 0 1 0 = [49, 48, 46, 48, 46, 49, 46, 48] by decide +kernel] at TX
  unfold adr at TX
  clear e0 e2
  go_enter Try.func8, Try.ntmps8
  go_wp2_with fail
  refine P1.out.mono ?_
  rintro e w1 ⟨g, bh, bw, rfl, hg, hbh, hbw, hP, hF1⟩
  have hX : ∀ y, y ∈ [bh, bw] → y ∈ ([] : List Nat) ∨ w.heap.size ≤ y := fun y hy => by simp at hy; right; omega
  have HX := Lib.hid hX
  have T1 := Lib.hid (ex_take_new (1, 1) 0 (by unfold KyOk; decide) ⟨_, _, hP⟩ (by unfold NotIn; decide) (taken_of _ _ (by decide) (by decide)) rfl)
  clear P1 hP hX
  go_wp2_with fail
  refine T1.out.mono ?_
  rintro e w2 ⟨rfl, hP2, hG⟩
  have hF2 := hF1.sub hG HX.out
  rw [E0.out]
  have T2 := Lib.hid (ex_take_new (1, 2) 1 (by unfold KyOk; decide) hP2 (by unfold NotIn; decide) (taken_of _ _ (by decide) (by decide)) rfl)
  clear T1 hG hF1 hP2
  go_wp2_with fail
  refine T2.out.mono ?_
  rintro e w3 ⟨rfl, hP3, hG⟩
  have hF3 := hF2.sub hG HX.out
  have T3 := Lib.hid (ex_take_new (1, 3) 2 (by unfold KyOk; decide) hP3 (by unfold NotIn; decide) (taken_of _ _ (by decide) (by decide)) rfl)
  clear T2 hG hF2 hP3
  go_wp2_with fail
  refine T3.out.mono ?_
  rintro e w4 ⟨rfl, hP4, hG⟩
  have hF4 := hF3.sub hG HX.out
  rw [E2.out]
  clear T3 hG hF3
  go_wp2_with fail
  have hA5 : Fr [] w4 (w4.alloc (.cells #[.int .u8 10, .int .u8 0, .int .u8 1, .int .u8 0] 23 (0, 0))) := (Fr.refl _ _).alloc _
  have hQ5 := Blk.new w4 #[.int .u8 10, .int .u8 0, .int .u8 1, .int .u8 0] 23
  have HP5 := Lib.hid (hP4.fr0 hA5)
  have G5 := Lib.hid (ex_give_yes (1, 1) 0 (by unfold KyOk; decide) (hP4.fr0 hA5) rfl)
  obtain ⟨q, hq⟩ : ∃ q, w4.heap.size = q := ⟨_, rfl⟩
  rw [hq] at hQ5 ⊢
  have hwq : w.heap.size ≤ q := by have := hF4.size; omega
  have hF5 := hF4.trans hA5
  clear hq hA5 hF4 hP4
  refine G5.out.mono ?_
  rintro e w6 ⟨rfl, hP6, hG⟩
  have hF6 := hF5.sub hG HX.out
  have hnq : q ≠ bh ∧ q ≠ bw := by
    constructor
    · intro e
      subst e
      obtain ⟨H5, M5, h5⟩ := HP5.out
      exact h5.hM.not_row hQ5 rfl
    · intro e
      subst e
      obtain ⟨H5, M5, h5⟩ := HP5.out
      exact h5.wM.not_row hQ5 rfl
  have hQ6 := hG.blk hQ5 (by simp; exact hnq)
  have T7 := Lib.hid (ex_take_new (2, 9) 0 (by unfold KyOk; decide) hP6 (by unfold NotIn; decide) (taken_of _ _ (by decide) (by decide)) rfl)
  clear G5 hG hF5 hP6 hQ5 HP5
  go_wp2_with fail
  refine T7.out.mono ?_
  rintro e w7 ⟨rfl, hP7, hG⟩
  have hF7 := hF6.sub hG HX.out
  have hQ7 := hG.blk hQ6 (by simp; exact hnq)
  rw [E0.out]
  clear T7 hG hF6 hQ6
  have q0 : w7.cell? ⟨q, 0, none⟩ = some (.int .u8 10) := hQ7.c 0 _ rfl
  have q1 : w7.cell? ⟨q, 1, none⟩ = some (.int .u8 0) := hQ7.c 1 _ rfl
  have q2 : w7.cell? ⟨q, 2, none⟩ = some (.int .u8 1) := hQ7.c 2 _ rfl
  have q3 : w7.cell? ⟨q, 3, none⟩ = some (.int .u8 0) := hQ7.c 3 _ rfl
  have hlt := hQ7.lt
  have hq1 : ∀ W, (Op.equalIn 10000 23 (.agg #[.int .u8 10, .int .u8 0, .int .u8 1, .int .u8 0]) (.agg #[.int .u8 10, .int .u8 0, .int .u8 1, .int .u8 0])).run Try.prog W = .ok true W := fun _ => by kernel_rfl
  have hq2 : ∀ W, (Op.equalIn 10000 23 (.agg #[.int .u8 10, .int .u8 0, .int .u8 0, .int .u8 254]) (.agg #[.int .u8 10, .int .u8 0, .int .u8 0, .int .u8 254])).run Try.prog W = .ok true W := fun _ => by kernel_rfl
  have hF8 := hF7.alloc (.cells #[.int .u8 10, .int .u8 0, .int .u8 0, .int .u8 254] 23 (0, 0))
  have hP8 := hP7.fr0 ((Fr.refl _ _).alloc (.cells #[.int .u8 10, .int .u8 0, .int .u8 0, .int .u8 254] 23 (0, 0)))
  clear hP7 hQ7 hF7
  go_wp2_with fail
  refine (TX.out _).mono ?_
  rintro e w9 ⟨rfl, hG⟩
  have hF9 := hF8.trans hG
  have hP9 := hP8.fr0 hG
  have FR := Lib.hid (ex_free hP9)
  clear hP8 hP9 hF8 hG
  go_wp2_with fail
  refine FR.out.mono ?_
  rintro e wa ⟨rfl, hG⟩
  have hFa := hF9.trans hG
  clear FR hG hF9
  go_wp2_with fail
  go_ret
  exact ⟨rfl, hFa⟩
end Go.Proofs.Ytnenmgankgadcaa
