/- ac: grant where the cookie is bad (printed by tools/gen_acm.py). -/
import Derived.Test.YtcdencpkgfehlaaAcM
namespace Go.Proofs.Ytcdencpkgfehlaa
open Go.RowKit Go.Maps
set_option linter.unusedVariables false
section
variable {w : World} {g : Nat} {c : Cn} {S : List Ses} {G : List Idk}
set_option maxRecDepth 100000 in
set_option maxHeartbeats 16000000 in
theorem grant_bad (to : Mc) (sv : List UInt8) {A : Option Addr} {cap : Nat} {l : List Tg} (t : Int) (ht0 : -9223372036854775808 ≤ t) (ht1 : t ≤ 9223372036854775807) (hT : TgAt w A l) (hl : l.length ≤ 20) (hc : l.length ≤ cap) (hm : cap ≤ maxLen)
    (hck : findN l 260 ≠ 0) (hgd : ckGood c.sec to sv (findS l 260) t = false) (hsvl : sv.length ≤ 1490) (hcl : (findS l 260).length ≤ 2000) (hsec : c.sec.length ≤ 40000)
    (h : CnIs w g c S G) :
    Calls Try.prog 52 #[.pointer (some ⟨g, 0, none⟩), .agg (mcL to).toArray, .string (B sv), .slice A l.length cap, .int .i64 t] w fun e w' => e = .returned (.slice none 0 0) ∧ Fr [] w w' := by
  obtain ⟨i0, hi, hz0, hz1, hz2⟩ := info_parts infoTag
  obtain ⟨t1, t2, t3, t4, t5, t6⟩ := to
  have F1 := Lib.hid fun W (hW : Fr [] w W) => find_any 260 (hT.fr0 hW) hl hc hm
  have CK := Lib.hid fun W => check_any c.sec t1 t2 t3 t4 t5 t6 sv (findS l 260) t W ht0 ht1 hsec (by omega) (by omega)
  unfold ckGood at hgd
  simp only at hgd
  rw [hgd] at CK
  have hnl := findN_le l 260
  obtain ⟨n0, hn0⟩ : ∃ n, findN l 260 = n := ⟨_, rfl⟩
  obtain ⟨ck, hck'⟩ : ∃ x, findS l 260 = x := ⟨_, rfl⟩
  have HFN := Lib.hid hn0
  rw [hn0, hck'] at F1
  rw [hck'] at CK
  rw [hn0] at hck hnl
  have hnb : (n0 : Int) ≤ 20 := by omega
  have hnz : ((n0 : Int) == 0) = false := by simpa using hck
  have H := Lib.hid h
  have HX0 : Hid (∀ {Sx : List Nat} (W : World), Fr Sx w W → w.heap.size ≤ W.heap.size) := Lib.hid fun W hW => hW.size
  have hF0 := (Fr.refl [] w).alloc (.cells #[.int .u8 t1, .int .u8 t2, .int .u8 t3, .int .u8 t4, .int .u8 t5, .int .u8 t6] 28 (0, 0))
  have hN0 := Blk.new w #[.int .u8 t1, .int .u8 t2, .int .u8 t3, .int .u8 t4, .int .u8 t5, .int .u8 t6] 28
  unfold mcL
  simp only
  clear hT hl hc hm hck hgd hcl hsec h ht0 ht1 hnl hn0 hck'
  go_enter Try.func52, Try.ntmps52
  go_wp2_with fail
  refine (F1.out _ hF0).mono ?_
  rintro e w1 ⟨rfl, hF1⟩
  have hbm1 := hF1.blk hN0 (by simp)
  have hFw1 := hF0.trans hF1
  obtain ⟨bm, hbm⟩ : ∃ q, w.heap.size = q := ⟨_, rfl⟩
  rw [hbm] at hbm1 ⊢
  have HBM := Lib.hid hbm
  clear hF0 hN0 hF1 F1 hbm
  go_wp2_with fail
  have HX : Hid (∀ W, (Blk W bm #[.int .u8 t1, .int .u8 t2, .int .u8 t3, .int .u8 t4, .int .u8 t5, .int .u8 t6] 28 ∧ Fr [] w W) → (W.cell? ⟨bm, 0, none⟩ = some (.int .u8 t1) ∧ W.cell? ⟨bm, 1, none⟩ = some (.int .u8 t2) ∧ W.cell? ⟨bm, 2, none⟩ = some (.int .u8 t3) ∧ W.cell? ⟨bm, 3, none⟩ = some (.int .u8 t4) ∧ W.cell? ⟨bm, 4, none⟩ = some (.int .u8 t5) ∧ W.cell? ⟨bm, 5, none⟩ = some (.int .u8 t6) ∧ W.cell? ⟨g, 7, none⟩ = some (.string (B c.sec))) ∧ Blk W bm #[.int .u8 t1, .int .u8 t2, .int .u8 t3, .int .u8 t4, .int .u8 t5, .int .u8 t6] 28 ∧ Fr [] w W) := Lib.hid fun W h => ⟨⟨h.1.c 0 _ rfl, h.1.c 1 _ rfl, h.1.c 2 _ rfl, h.1.c 3 _ rfl, h.1.c 4 _ rfl, h.1.c 5 _ rfl, (h.2.blk H.out.st (by simp)).c 7 _ rfl⟩, h⟩
  have hG0 := HX.out _ ⟨hbm1.drew, hFw1.drew⟩
  clear hbm1 hFw1
  go_region_held3 (fun W => (W.cell? ⟨bm, 0, none⟩ = some (.int .u8 t1) ∧ W.cell? ⟨bm, 1, none⟩ = some (.int .u8 t2) ∧ W.cell? ⟨bm, 2, none⟩ = some (.int .u8 t3) ∧ W.cell? ⟨bm, 3, none⟩ = some (.int .u8 t4) ∧ W.cell? ⟨bm, 4, none⟩ = some (.int .u8 t5) ∧ W.cell? ⟨bm, 5, none⟩ = some (.int .u8 t6) ∧ W.cell? ⟨g, 7, none⟩ = some (.string (B c.sec))) ∧ Blk W bm #[.int .u8 t1, .int .u8 t2, .int .u8 t3, .int .u8 t4, .int .u8 t5, .int .u8 t6] 28 ∧ Fr [] w W)
    (first | exact hG0 | assumption | exact HX.out _ ⟨hFK.blk (And.left (And.right (by assumption))) (by simp), Fr.trans (And.right (And.right (by assumption))) hFK⟩)
    (first | (go_at_call 28; refine (CK.out _).mono ?_; rintro e w2 ⟨rfl, hFK⟩))
  all_goals
    have hF9 : Fr [] w w2 := And.right (And.right (by assumption))
    clear HX hG0 hFK CK
    go_wp2_with fail
    go_ret
    exact ⟨rfl, hF9⟩
end
end Go.Proofs.Ytcdencpkgfehlaa
