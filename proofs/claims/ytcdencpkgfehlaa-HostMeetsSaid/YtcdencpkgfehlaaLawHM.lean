/- HostMeets (printed by tools/gen_lawhm.py). -/
import Derived.Test.YtcdencpkgfehlaaMgD
import Derived.Test.YtcdencpkgfehlaaHmR
import Derived.Test.YtcdencpkgfehlaaHost7
import Derived.Test.YtcdencpkgfehlaaAlive8
import Derived.OpenShut
import Derived.WideShapes
import Derived.Below
import Derived.Deep.DeepCutAuto
import Derived.Deep.CutBlock
namespace Go.Proofs.Ytcdencpkgfehlaa
open Go.ChangeShapes Go.WideShapes Go.ChangeAt Go.RowKit Go.Deep Go.Maps
set_option linter.unusedVariables false
theorem info_ethM : (Try.prog.info? 35).map (fun i => (i.zero, i.size, i.bytes)) = some (some (.agg #[.int .u8 0, .int .u8 0, .int .u8 0, .int .u8 0, .int .u8 0, .int .u8 0, .int .u8 0, .int .u8 0, .int .u8 0, .int .u8 0, .int .u8 0, .int .u8 0, .int .i64 0, .string ⟨#[]⟩]), 14, 40) := by kernel_rfl
theorem ethF_one (x : Eth) : ∀ v, v ∈ ethF x → v.oneCell' = true := fun v hv => by
  simp [ethF, ethC] at hv
  rcases hv with rfl | rfl | rfl | rfl | rfl | rfl | rfl | rfl | rfl | rfl | rfl | rfl | rfl | rfl <;> rfl
theorem strB_eq (x y : List UInt8) : (B x == B y) = decide (x = y) := by
  show ((B x).data == (B y).data) = decide (x = y)
  by_cases h : x = y
  · subst h; simp
  · rw [decide_eq_false h, beq_eq_false_iff_ne]
    intro e
    exact h (by have := congrArg (fun z : ByteArray => z.toList) (ByteArray.ext e); simpa [B_toList] using this)
set_option maxRecDepth 100000 in
set_option maxHeartbeats 40000000 in
theorem hostMeets_walk (w : World) (sv : ByteArray) (ssv : sv.size ≤ 140737488351232) (un : ByteArray) (sun : un.size ≤ 140737488351232) (a : Option Addr) (len cap : Nat) (l : List (List UInt8)) (hR : RowsAt w a len cap 1 strF (fun _ => True) l) (t : Int) (t0 : -9223372036854775808 ≤ t) (t1 : t ≤ 9223372036854775807) :
    Calls Try.prog 12 #[.string sv, .string un, .slice a len cap, .int .i64 t] w fun e w' => e = .returned (.bool true) ∧ Below w.heap.size w w' := by
  obtain ⟨sv, rfl⟩ : ∃ l, sv = B l := ⟨_, B_of sv⟩
  obtain ⟨un, rfl⟩ : ∃ l, un = B l := ⟨_, B_of un⟩
  rw [B_size] at ssv sun
  obtain ⟨i0, hi, hz0, hz1, hz2⟩ := info_parts info_ethM
  have AL := Lib.hid fun W => alive8 W
  have HSI := Lib.hid (SIn.of_rows hR)
  have HCP := Lib.hid hR.2.2.1
  have hlen := hR.1
  have hcl := hR.2.1
  have hcm := Nat.le_trans hR.2.1 hR.2.2.1
  clear hR
  subst hlen
  unfold maxLen at hcm
  have HCL := Lib.hid hcl
  clear hcl
  go_enter Try.func12, Try.ntmps12
  by_cases hb0 : (40 : Int) < sv.length
  · go_wp2_with fail
    refine (AL.out _).mono ?_
    rintro e w3 ⟨rfl, hF3⟩
    have HF3 := Lib.hid hF3
    clear hF3
    go_wp2_with fail
    go_ret
    exact ⟨rfl, HF3.out.below (Nat.le_refl _) (by simp)⟩
  by_cases hb1 : (40 : Int) < un.length
  · go_wp2_with fail
    refine (AL.out _).mono ?_
    rintro e w3 ⟨rfl, hF3⟩
    have HF3 := Lib.hid hF3
    clear hF3
    go_wp2_with fail
    go_ret
    exact ⟨rfl, HF3.out.below (Nat.le_refl _) (by simp)⟩
  by_cases hb2 : (8 : Int) < l.length
  · go_wp2_with fail
    refine (AL.out _).mono ?_
    rintro e w3 ⟨rfl, hF3⟩
    have HF3 := Lib.hid hF3
    clear hF3
    go_wp2_with fail
    go_ret
    exact ⟨rfl, HF3.out.below (Nat.le_refl _) (by simp)⟩
  have hs1 : sv.length ≤ 40 := by omega
  have hs2 : un.length ≤ 40 := by omega
  have hs3 : l.length ≤ 8 := by omega
  have HL := Lib.hid (And.intro hs1 (And.intro hs2 hs3))
  go_wp2_with fail
  go_loopw [9, 10] (fun bv iv wr => ∃ (j : Nat) (isb : Bool), j ≤ l.length ∧ bv = .bool isb ∧ iv = .int .i64 j ∧ (isb = true ↔ sv = [] ∨ sv ∈ l.take j) ∧ (∀ s, s ∈ l.take j → s.length ≤ 40) ∧ Fr [] w wr) (fun _ iv _ => l.length - (intOf iv).toNat)
  case atStart =>
    refine ⟨0, _, Nat.zero_le _, rfl, rfl, ?_, (by simp), Fr.refl _ _⟩
    by_cases hsv : sv = []
    · subst hsv; simp [B]
    · simp [hsv, ne_nil_B hsv]
  case round =>
    obtain ⟨j, isb, hj, rfl, rfl, his, h40, hF⟩ := hrel
    by_cases hjl : j < l.length
    · obtain ⟨s, ht⟩ : ∃ t, l[j]? = some t := ⟨_, List.getElem?_eq_getElem hjl⟩
      obtain ⟨b, off, rfl, hb, hcell⟩ := (HSI.out.fr0 hF).resolve_left (fun e => by subst e; simp at hjl)
      have c0 : wr.cell? ⟨b, off + j, none⟩ = some (.string (B s)) := hcell j s ht
      have hmem := List.mem_of_getElem? ht
      have hjb : (j : Int) ≤ 8 := by omega
      have htake : l.take (j + 1) = l.take j ++ [s] := by rw [List.take_add_one, ht]; rfl
      have HIS := Lib.hid his
      have HF := Lib.hid hF
      have H4 := Lib.hid h40
      clear hcell hb his hF h40 hs1 hs2 hs3
      by_cases hs : (40 : Int) < s.length
      · go_wp2_with fail
        refine (AL.out _).mono ?_
        rintro e w3 ⟨rfl, hF3⟩
        have HF3 := Lib.hid (HF.out.trans hF3)
        clear hF3
        go_wp2_with fail
        go_ret
        exact ⟨rfl, HF3.out.below (Nat.le_refl _) (by simp)⟩
      · have hs4 : s.length ≤ 40 := by omega
        have HN4 : Hid (∀ x, x ∈ l.take (j + 1) → x.length ≤ 40) := Lib.hid (by
          rw [htake]
          intro x hx
          rcases List.mem_append.1 hx with hx | hx
          · exact H4.out x hx
          · simp at hx; subst hx; exact hs4)
        have HNI : Hid ((isb || decide (s = sv)) = true ↔ sv = [] ∨ sv ∈ l.take (j + 1)) := Lib.hid (by
          rw [htake, Bool.or_eq_true, HIS.out, decide_eq_true_iff, List.mem_append, List.mem_singleton, or_assoc, eq_comm (a := s)])
        have HJ := Lib.hid hj
        clear htake H4 HIS hmem ht hj hs4
        have heqs := strB_eq s sv
        cases isb with
        | true =>
          go_wp2_with fail
          go_roundw
          case rel => exact ⟨j + 1, true, by omega, rfl, by go_num, by simpa using HNI.out, HN4.out, HF.out⟩
          case measure => (simp [intOf]) <;> omega
        | false =>
          go_wp2_with fail
          go_roundw
          case rel => exact ⟨j + 1, _, by omega, rfl, by go_num, by simpa [strB_eq] using HNI.out, HN4.out, HF.out⟩
          case measure => (simp [intOf]) <;> omega
    · obtain rfl : j = l.length := by omega
      rw [List.take_length] at his h40
      have HIS := Lib.hid his
      have H40 := Lib.hid h40
      have HT : Hid (-9223372036854775808 ≤ t ∧ t ≤ 9223372036854775807) := Lib.hid ⟨t0, t1⟩
      have HNW := Lib.hid fun W => hnew_ok (w := W) mtM sv un 3 2 HL.out.1 HL.out.2.1 (by omega) (by omega) (by omega) (by omega)
      have HCW := Lib.hid fun W (hW : Fr [] w W) => cnew_s (w := W) mtK 5 (HSI.out.fr0 hW) H40.out HL.out.2.2 HCL.out HCP.out (by omega) (by omega)
      unfold mcL mtM at HNW
      unfold mcL mtK at HCW
      simp only at HNW HCW
      have hA := ((hF.alloc (.cells #[.int .u8 1, .int .u8 0, .int .u8 0, .int .u8 0, .int .u8 0, .int .u8 0] 28 (0, 0))).alloc (.cells #[.int .u8 9, .int .u8 0, .int .u8 0, .int .u8 0, .int .u8 0, .int .u8 0] 28 (0, 0)))
      have hm := (Blk.new wr #[.int .u8 1, .int .u8 0, .int .u8 0, .int .u8 0, .int .u8 0, .int .u8 0] 28).alloc (.cells #[.int .u8 9, .int .u8 0, .int .u8 0, .int .u8 0, .int .u8 0, .int .u8 0] 28 (0, 0))
      have hk := Blk.new (wr.alloc (.cells #[.int .u8 1, .int .u8 0, .int .u8 0, .int .u8 0, .int .u8 0, .int .u8 0] 28 (0, 0))) #[.int .u8 9, .int .u8 0, .int .u8 0, .int .u8 0, .int .u8 0, .int .u8 0] 28
      rw [show (wr.alloc (.cells #[.int .u8 1, .int .u8 0, .int .u8 0, .int .u8 0, .int .u8 0, .int .u8 0] 28 (0, 0))).heap.size = wr.heap.size + 1 by simp] at hk
      have hge : ¬ (l.length : Int) < l.length := by omega
      clear his h40 hj hjl hF hs1 hs2 hs3 t0 t1 ssv sun
      go_wp2_with fail
      obtain ⟨bm, hbm⟩ : ∃ q, wr.heap.size = q := ⟨_, rfl⟩
      obtain ⟨bk, hbk⟩ : ∃ q, bm + 1 = q := ⟨_, rfl⟩
      obtain ⟨w0, hw0⟩ : ∃ W, (wr.alloc (.cells #[.int .u8 1, .int .u8 0, .int .u8 0, .int .u8 0, .int .u8 0, .int .u8 0] 28 (0, 0))).alloc (.cells #[.int .u8 9, .int .u8 0, .int .u8 0, .int .u8 0, .int .u8 0, .int .u8 0] 28 (0, 0)) = W := ⟨_, rfl⟩
      rw [hbm] at hm hk ⊢
      rw [hbk] at hk ⊢
      rw [hw0] at hm hk hA ⊢
      clear hbm hbk hw0
      refine (HNW.out _).mono ?_
      rintro e w1 ⟨gh, rfl, hgs, hgB, hF1⟩
      have hgh : w.heap.size ≤ gh := Nat.le_trans hA.size hgs
      have HA1 := Lib.hid (hA.trans hF1)
      have hk1 := hF1.blk hk (by simp)
      have hm1 := hF1.blk hm (by simp)
      have k0 : w1.cell? ⟨bk, 0, none⟩ = some (.int .u8 9) := hk1.c 0 _ rfl
      have k1 : w1.cell? ⟨bk, 1, none⟩ = some (.int .u8 0) := hk1.c 1 _ rfl
      have k2 : w1.cell? ⟨bk, 2, none⟩ = some (.int .u8 0) := hk1.c 2 _ rfl
      have k3 : w1.cell? ⟨bk, 3, none⟩ = some (.int .u8 0) := hk1.c 3 _ rfl
      have k4 : w1.cell? ⟨bk, 4, none⟩ = some (.int .u8 0) := hk1.c 4 _ rfl
      have k5 : w1.cell? ⟨bk, 5, none⟩ = some (.int .u8 0) := hk1.c 5 _ rfl
      have HGB := Lib.hid hgB
      have HK1 := Lib.hid hk1
      have HM1 := Lib.hid hm1
      clear hgs hF1 hA hk hm hk1 hm1 hgB HNW
      go_wp2_with fail
      refine (HCW.out _ HA1.out).mono ?_
      rintro e w2 ⟨g, xa, xb, A, cp, rfl, hg, hxa, hxb, hCn, hRow, hF2⟩
      have M2 : Hid (MS w g xa xb gh bm bk A cp l un 0 (mt0 sv un) w2) := Lib.hid ⟨HA1.out.trans hF2, CX.mk0 ⟨hCn, hRow⟩, ⟨_, hF2.blk HGB.out (by simp), rfl⟩, hF2.blk HM1.out (by simp), hF2.blk HK1.out (by simp), Nat.le_trans HA1.out.size hg, Nat.le_trans HA1.out.size hxa, Nat.le_trans HA1.out.size hxb, hgh⟩
      have CS := Lib.hid fun (W : World) (h : MS w g xa xb gh bm bk A cp l un 0 (mt0 sv un) W) => MS.start HL.out.1 HL.out.2.1 h
      clear hg hxa hxb hCn hRow hF2 hgh k0 k1 k2 k3 k4 k5 HGB HK1 HM1 HA1 HCW
      go_wp2_with fail
      refine (CS.out _ M2.out).mono ?_
      rintro e w3 ⟨q1, cq1, rfl, F1, m3⟩
      have M3 := Lib.hid m3
      clear m3 M2 CS
      go_wp2_with fail
      cases isb with
      | true =>
        have hin := HIS.out.1 rfl
        have C1 := Lib.hid fun (W : World) (h : MS w g xa xb gh bm bk A cp l un 0 (mt1 sv un) W) => (show Calls Try.prog 24 #[.pointer (some ⟨g, 0, none⟩), .agg #[.int .u8 255, .int .u8 255, .int .u8 255, .int .u8 255, .int .u8 255, .int .u8 255, .int .u8 1, .int .u8 0, .int .u8 0, .int .u8 0, .int .u8 0, .int .u8 0, .int .i64 34915, .string (B (md1 sv un))], .int .i64 t] W fun e W1 => ∃ q c, e = .returned (.slice (some ⟨q, 0, none⟩) 1 c) ∧ FA W1 q c (mtM, mtK, 34915, md2 sv un l t) ∧ MS w g xa xb gh bm bk A cp l un 0 (mt1 sv un) W1 from MS.padi t HT.out.1 HT.out.2 HL.out.1 HL.out.2.1 HL.out.2.2 H40.out hin h)
        have C2 := Lib.hid fun (W : World) (h : MS w g xa xb gh bm bk A cp l un 0 (mt1 sv un) W) => (show Calls Try.prog 19 #[.pointer (some ⟨gh, 0, none⟩), .agg #[.int .u8 1, .int .u8 0, .int .u8 0, .int .u8 0, .int .u8 0, .int .u8 0, .int .u8 9, .int .u8 0, .int .u8 0, .int .u8 0, .int .u8 0, .int .u8 0, .int .i64 34915, .string (B (md2 sv un l t))]] W fun e W1 => ∃ q c, e = .returned (.slice (some ⟨q, 0, none⟩) 1 c) ∧ FA W1 q c (mtK, mtM, 34915, md3 sv un t) ∧ MS w g xa xb gh bm bk A cp l un 0 (mt2 sv un (ckM sv t)) W1 from MS.offer t HL.out.1 HL.out.2.1 HL.out.2.2 H40.out h)
        have C3 := Lib.hid fun (W : World) (h : MS w g xa xb gh bm bk A cp l un 0 (mt2 sv un (ckM sv t)) W) => (show Calls Try.prog 24 #[.pointer (some ⟨g, 0, none⟩), .agg #[.int .u8 9, .int .u8 0, .int .u8 0, .int .u8 0, .int .u8 0, .int .u8 0, .int .u8 1, .int .u8 0, .int .u8 0, .int .u8 0, .int .u8 0, .int .u8 0, .int .i64 34915, .string (B (md3 sv un t))], .int .i64 t] W fun e W1 => ∃ q c, e = .returned (.slice (some ⟨q, 0, none⟩) 1 c) ∧ FA W1 q c (mtM, mtK, 34915, md4 sv un) ∧ MS w g xa xb gh bm bk A cp l un 1 (mt2 sv un (ckM sv t)) W1 from MS.padr t HT.out.1 HT.out.2 HL.out.1 HL.out.2.1 HL.out.2.2 hin h)
        have C4 := Lib.hid fun (W : World) (h : MS w g xa xb gh bm bk A cp l un 1 (mt2 sv un (ckM sv t)) W) => (show Calls Try.prog 19 #[.pointer (some ⟨gh, 0, none⟩), .agg #[.int .u8 1, .int .u8 0, .int .u8 0, .int .u8 0, .int .u8 0, .int .u8 0, .int .u8 9, .int .u8 0, .int .u8 0, .int .u8 0, .int .u8 0, .int .u8 0, .int .i64 34915, .string (B (md4 sv un))]] W fun e W1 => ∃ B c, e = .returned (.slice B 0 c) ∧ W1.ownsRow 0 35 14 (.slice B 0 c) 0 [] ∧ MS w g xa xb gh bm bk A cp l un 1 (mt3 sv un (ckM sv t)) W1 from MS.grant t HL.out.1 HL.out.2.1 h)
        have C5 := Lib.hid fun (W : World) (h : MS w g xa xb gh bm bk A cp l un 1 (mt3 sv un (ckM sv t)) W) => (show Calls Try.prog 16 #[.pointer (some ⟨gh, 0, none⟩)] W fun e W1 => e = .returned (.tuple #[.int .i64 3, .agg #[.int .u8 9, .int .u8 0, .int .u8 0, .int .u8 0, .int .u8 0, .int .u8 0], .int .i64 1]) ∧ MS w g xa xb gh bm bk A cp l un 1 (mt3 sv un (ckM sv t)) W1 from MS.state (show (2 : Int) ≠ 0 by decide) h)
        have C6 := Lib.hid fun (W : World) (h : MS w g xa xb gh bm bk A cp l un 1 (mt3 sv un (ckM sv t)) W) => MS.live1F h
        have C7 := Lib.hid fun (W : World) (h : MS w g xa xb gh bm bk A cp l un 1 (mt3 sv un (ckM sv t)) W) => (show Calls Try.prog 18 #[.pointer (some ⟨gh, 0, none⟩)] W fun e W1 => ∃ q c, e = .returned (.slice (some ⟨q, 0, none⟩) 1 c) ∧ FA W1 q c (mtK, mtM, 34915, mdz) ∧ MS w g xa xb gh bm bk A cp l un 1 (mt4 sv un) W1 from MS.stop t HL.out.1 HL.out.2.1 h)
        have C8 := Lib.hid fun (W : World) (h : MS w g xa xb gh bm bk A cp l un 1 (mt4 sv un) W) => (show Calls Try.prog 24 #[.pointer (some ⟨g, 0, none⟩), .agg #[.int .u8 9, .int .u8 0, .int .u8 0, .int .u8 0, .int .u8 0, .int .u8 0, .int .u8 1, .int .u8 0, .int .u8 0, .int .u8 0, .int .u8 0, .int .u8 0, .int .i64 34915, .string (B (mdz))], .int .i64 t] W fun e W1 => e = .returned (.slice none 0 0) ∧ MS w g xa xb gh bm bk A cp l un 2 (mt4 sv un) W1 from MS.padt t h)
        have C9 := Lib.hid fun (W : World) (h : MS w g xa xb gh bm bk A cp l un 2 (mt4 sv un) W) => (show Calls Try.prog 16 #[.pointer (some ⟨gh, 0, none⟩)] W fun e W1 => e = .returned (.tuple #[.int .i64 0, .agg #[.int .u8 0, .int .u8 0, .int .u8 0, .int .u8 0, .int .u8 0, .int .u8 0], .int .i64 0]) ∧ MS w g xa xb gh bm bk A cp l un 2 (mt4 sv un) W1 from MS.state (show (2 : Int) ≠ 0 by decide) h)
        have CL := Lib.hid fun (W : World) (h : MS w g xa xb gh bm bk A cp l un 2 (mt4 sv un) W) => MS.live0 (Or.inr rfl) h
        have CG := Lib.hid fun (W : World) (h : MS w g xa xb gh bm bk A cp l un 2 (mt4 sv un) W) => MS.gone1 h
        clear hin
        refine wp_loop_rounds 3 ?_
        rw [rounds_succ]
        go_wp2_with fail
        refine wp_loop_rounds 2 ?_
        rw [rounds_succ]
        have y0 : w3.cell? ⟨q1, 0, none⟩ = some (.int .u8 255) := F1.c 0 _ rfl
        have y1 : w3.cell? ⟨q1, 1, none⟩ = some (.int .u8 255) := F1.c 1 _ rfl
        have y2 : w3.cell? ⟨q1, 2, none⟩ = some (.int .u8 255) := F1.c 2 _ rfl
        have y3 : w3.cell? ⟨q1, 3, none⟩ = some (.int .u8 255) := F1.c 3 _ rfl
        have y4 : w3.cell? ⟨q1, 4, none⟩ = some (.int .u8 255) := F1.c 4 _ rfl
        have y5 : w3.cell? ⟨q1, 5, none⟩ = some (.int .u8 255) := F1.c 5 _ rfl
        have y6 : w3.cell? ⟨q1, 6, none⟩ = some (.int .u8 1) := F1.c 6 _ rfl
        have y7 : w3.cell? ⟨q1, 7, none⟩ = some (.int .u8 0) := F1.c 7 _ rfl
        have y8 : w3.cell? ⟨q1, 8, none⟩ = some (.int .u8 0) := F1.c 8 _ rfl
        have y9 : w3.cell? ⟨q1, 9, none⟩ = some (.int .u8 0) := F1.c 9 _ rfl
        have y10 : w3.cell? ⟨q1, 10, none⟩ = some (.int .u8 0) := F1.c 10 _ rfl
        have y11 : w3.cell? ⟨q1, 11, none⟩ = some (.int .u8 0) := F1.c 11 _ rfl
        have y12 : w3.cell? ⟨q1, 12, none⟩ = some (.int .i64 34915) := F1.c 12 _ rfl
        have y13 : w3.cell? ⟨q1, 13, none⟩ = some (.string (B (md1 sv un))) := F1.c 13 _ rfl
        go_wp2_with fail
        refine (C1.out _ M3.out).mono ?_
        rintro e w4 ⟨q2, cq2, rfl, fq2, mq2⟩
        have F2 := fq2
        have M4 := Lib.hid mq2
        clear fq2 mq2 y0 y1 y2 y3 y4 y5 y6 y7 y8 y9 y10 y11 y12 y13
        go_wp2_with (at_builtin; refine wpList_append_any _ rfl _ _ 29 rfl w4.heap.size 35 i0 (.agg #[.int .u8 0, .int .u8 0, .int .u8 0, .int .u8 0, .int .u8 0, .int .u8 0, .int .u8 0, .int .u8 0, .int .u8 0, .int .u8 0, .int .u8 0, .int .u8 0, .int .i64 0, .string ⟨#[]⟩]) 14 40 Try.underlying29 hi hz0 hz1 hz2 rfl (by decide) _ 0 [] rfl (World.ownsRow_nil _ _ _ _) w4.heap.size (some ⟨q2, 0, none⟩) 1 cq2 (ethF (mtM, mtK, 34915, md2 sv un l t)) rfl (Reads.of_own F2) (ethF_one _) ?c3 ?c4 ?c5 ?_)
        case c3 => unfold maxLen; omega
        case c4 => omega
        case c5 => exact Nat.le_refl _
        intro v1 w5 hown1 hgr1 _
        (try rw [Nat.zero_add, List.nil_append] at hown1)
        have M5 := Lib.hid (M4.out.fr0 ((Fr.refl [] w4).grown hgr1 (fun q hq => by cases hq)))
        obtain ⟨q3, cq3, rfl, F3⟩ := FA.of hown1
        clear hgr1 hown1 F2 M4
        clear M3 C1
        go_wp2_with fail
        rw [rounds_succ]
        go_wp2_with fail
        refine wp_loop_rounds 2 ?_
        rw [rounds_succ]
        have y0 : w5.cell? ⟨q3, 0, none⟩ = some (.int .u8 1) := F3.c 0 _ rfl
        have y1 : w5.cell? ⟨q3, 1, none⟩ = some (.int .u8 0) := F3.c 1 _ rfl
        have y2 : w5.cell? ⟨q3, 2, none⟩ = some (.int .u8 0) := F3.c 2 _ rfl
        have y3 : w5.cell? ⟨q3, 3, none⟩ = some (.int .u8 0) := F3.c 3 _ rfl
        have y4 : w5.cell? ⟨q3, 4, none⟩ = some (.int .u8 0) := F3.c 4 _ rfl
        have y5 : w5.cell? ⟨q3, 5, none⟩ = some (.int .u8 0) := F3.c 5 _ rfl
        have y6 : w5.cell? ⟨q3, 6, none⟩ = some (.int .u8 9) := F3.c 6 _ rfl
        have y7 : w5.cell? ⟨q3, 7, none⟩ = some (.int .u8 0) := F3.c 7 _ rfl
        have y8 : w5.cell? ⟨q3, 8, none⟩ = some (.int .u8 0) := F3.c 8 _ rfl
        have y9 : w5.cell? ⟨q3, 9, none⟩ = some (.int .u8 0) := F3.c 9 _ rfl
        have y10 : w5.cell? ⟨q3, 10, none⟩ = some (.int .u8 0) := F3.c 10 _ rfl
        have y11 : w5.cell? ⟨q3, 11, none⟩ = some (.int .u8 0) := F3.c 11 _ rfl
        have y12 : w5.cell? ⟨q3, 12, none⟩ = some (.int .i64 34915) := F3.c 12 _ rfl
        have y13 : w5.cell? ⟨q3, 13, none⟩ = some (.string (B (md2 sv un l t))) := F3.c 13 _ rfl
        go_wp2_with fail
        refine (C2.out _ M5.out).mono ?_
        rintro e w6 ⟨q4, cq4, rfl, fq4, mq4⟩
        have F4 := fq4
        have M6 := Lib.hid mq4
        clear fq4 mq4 y0 y1 y2 y3 y4 y5 y6 y7 y8 y9 y10 y11 y12 y13
        go_wp2_with (at_builtin; refine wpList_append_any _ rfl _ _ 29 rfl w6.heap.size 35 i0 (.agg #[.int .u8 0, .int .u8 0, .int .u8 0, .int .u8 0, .int .u8 0, .int .u8 0, .int .u8 0, .int .u8 0, .int .u8 0, .int .u8 0, .int .u8 0, .int .u8 0, .int .i64 0, .string ⟨#[]⟩]) 14 40 Try.underlying29 hi hz0 hz1 hz2 rfl (by decide) _ 0 [] rfl (World.ownsRow_nil _ _ _ _) w6.heap.size (some ⟨q4, 0, none⟩) 1 cq4 (ethF (mtK, mtM, 34915, md3 sv un t)) rfl (Reads.of_own F4) (ethF_one _) ?c3 ?c4 ?c5 ?_)
        case c3 => unfold maxLen; omega
        case c4 => omega
        case c5 => exact Nat.le_refl _
        intro v1 w7 hown1 hgr1 _
        (try rw [Nat.zero_add, List.nil_append] at hown1)
        have M7 := Lib.hid (M6.out.fr0 ((Fr.refl [] w6).grown hgr1 (fun q hq => by cases hq)))
        obtain ⟨q5, cq5, rfl, F5⟩ := FA.of hown1
        clear hgr1 hown1 F4 M6
        clear M5 C2
        go_wp2_with fail
        rw [rounds_succ]
        go_wp2_with fail
        rw [rounds_succ]
        go_wp2_with fail
        refine wp_loop_rounds 2 ?_
        rw [rounds_succ]
        have y0 : w7.cell? ⟨q5, 0, none⟩ = some (.int .u8 9) := F5.c 0 _ rfl
        have y1 : w7.cell? ⟨q5, 1, none⟩ = some (.int .u8 0) := F5.c 1 _ rfl
        have y2 : w7.cell? ⟨q5, 2, none⟩ = some (.int .u8 0) := F5.c 2 _ rfl
        have y3 : w7.cell? ⟨q5, 3, none⟩ = some (.int .u8 0) := F5.c 3 _ rfl
        have y4 : w7.cell? ⟨q5, 4, none⟩ = some (.int .u8 0) := F5.c 4 _ rfl
        have y5 : w7.cell? ⟨q5, 5, none⟩ = some (.int .u8 0) := F5.c 5 _ rfl
        have y6 : w7.cell? ⟨q5, 6, none⟩ = some (.int .u8 1) := F5.c 6 _ rfl
        have y7 : w7.cell? ⟨q5, 7, none⟩ = some (.int .u8 0) := F5.c 7 _ rfl
        have y8 : w7.cell? ⟨q5, 8, none⟩ = some (.int .u8 0) := F5.c 8 _ rfl
        have y9 : w7.cell? ⟨q5, 9, none⟩ = some (.int .u8 0) := F5.c 9 _ rfl
        have y10 : w7.cell? ⟨q5, 10, none⟩ = some (.int .u8 0) := F5.c 10 _ rfl
        have y11 : w7.cell? ⟨q5, 11, none⟩ = some (.int .u8 0) := F5.c 11 _ rfl
        have y12 : w7.cell? ⟨q5, 12, none⟩ = some (.int .i64 34915) := F5.c 12 _ rfl
        have y13 : w7.cell? ⟨q5, 13, none⟩ = some (.string (B (md3 sv un t))) := F5.c 13 _ rfl
        go_wp2_with fail
        refine (C3.out _ M7.out).mono ?_
        rintro e w8 ⟨q6, cq6, rfl, fq6, mq6⟩
        have F6 := fq6
        have M8 := Lib.hid mq6
        clear fq6 mq6 y0 y1 y2 y3 y4 y5 y6 y7 y8 y9 y10 y11 y12 y13
        go_wp2_with (at_builtin; refine wpList_append_any _ rfl _ _ 29 rfl w8.heap.size 35 i0 (.agg #[.int .u8 0, .int .u8 0, .int .u8 0, .int .u8 0, .int .u8 0, .int .u8 0, .int .u8 0, .int .u8 0, .int .u8 0, .int .u8 0, .int .u8 0, .int .u8 0, .int .i64 0, .string ⟨#[]⟩]) 14 40 Try.underlying29 hi hz0 hz1 hz2 rfl (by decide) _ 0 [] rfl (World.ownsRow_nil _ _ _ _) w8.heap.size (some ⟨q6, 0, none⟩) 1 cq6 (ethF (mtM, mtK, 34915, md4 sv un)) rfl (Reads.of_own F6) (ethF_one _) ?c3 ?c4 ?c5 ?_)
        case c3 => unfold maxLen; omega
        case c4 => omega
        case c5 => exact Nat.le_refl _
        intro v1 w9 hown1 hgr1 _
        (try rw [Nat.zero_add, List.nil_append] at hown1)
        have M9 := Lib.hid (M8.out.fr0 ((Fr.refl [] w8).grown hgr1 (fun q hq => by cases hq)))
        obtain ⟨q7, cq7, rfl, F7⟩ := FA.of hown1
        clear hgr1 hown1 F6 M8
        clear M7 C3
        go_wp2_with fail
        rw [rounds_succ]
        go_wp2_with fail
        refine wp_loop_rounds 2 ?_
        rw [rounds_succ]
        have y0 : w9.cell? ⟨q7, 0, none⟩ = some (.int .u8 1) := F7.c 0 _ rfl
        have y1 : w9.cell? ⟨q7, 1, none⟩ = some (.int .u8 0) := F7.c 1 _ rfl
        have y2 : w9.cell? ⟨q7, 2, none⟩ = some (.int .u8 0) := F7.c 2 _ rfl
        have y3 : w9.cell? ⟨q7, 3, none⟩ = some (.int .u8 0) := F7.c 3 _ rfl
        have y4 : w9.cell? ⟨q7, 4, none⟩ = some (.int .u8 0) := F7.c 4 _ rfl
        have y5 : w9.cell? ⟨q7, 5, none⟩ = some (.int .u8 0) := F7.c 5 _ rfl
        have y6 : w9.cell? ⟨q7, 6, none⟩ = some (.int .u8 9) := F7.c 6 _ rfl
        have y7 : w9.cell? ⟨q7, 7, none⟩ = some (.int .u8 0) := F7.c 7 _ rfl
        have y8 : w9.cell? ⟨q7, 8, none⟩ = some (.int .u8 0) := F7.c 8 _ rfl
        have y9 : w9.cell? ⟨q7, 9, none⟩ = some (.int .u8 0) := F7.c 9 _ rfl
        have y10 : w9.cell? ⟨q7, 10, none⟩ = some (.int .u8 0) := F7.c 10 _ rfl
        have y11 : w9.cell? ⟨q7, 11, none⟩ = some (.int .u8 0) := F7.c 11 _ rfl
        have y12 : w9.cell? ⟨q7, 12, none⟩ = some (.int .i64 34915) := F7.c 12 _ rfl
        have y13 : w9.cell? ⟨q7, 13, none⟩ = some (.string (B (md4 sv un))) := F7.c 13 _ rfl
        go_wp2_with fail
        refine (C4.out _ M9.out).mono ?_
        rintro e w10 ⟨BA, cB, rfl, oB, mB⟩
        have M10 := Lib.hid mB
        clear mB y0 y1 y2 y3 y4 y5 y6 y7 y8 y9 y10 y11 y12 y13 C4
        go_wp2_with (at_builtin; refine wpList_append_any _ rfl _ _ 29 rfl w10.heap.size 35 i0 (.agg #[.int .u8 0, .int .u8 0, .int .u8 0, .int .u8 0, .int .u8 0, .int .u8 0, .int .u8 0, .int .u8 0, .int .u8 0, .int .u8 0, .int .u8 0, .int .u8 0, .int .i64 0, .string ⟨#[]⟩]) 14 40 Try.underlying29 hi hz0 hz1 hz2 rfl (by decide) _ 0 [] rfl (World.ownsRow_nil _ _ _ _) w10.heap.size BA 0 cB [] rfl (Reads.of_own oB) (fun u hu => by cases hu) ?c3 ?c4 ?c5 ?_)
        case c3 => unfold maxLen; omega
        case c4 => omega
        case c5 => exact Nat.le_refl _
        intro v1 w11 hown1 hgr1 _
        (try rw [Nat.zero_add, List.nil_append] at hown1)
        have M11 := Lib.hid (M10.out.fr0 ((Fr.refl [] w10).grown hgr1 (fun q hq => by cases hq)))
        obtain ⟨B2, cB2, rfl⟩ := rown_slice hown1
        clear hgr1 hown1 oB M10 M9
        go_wp2_with fail
        rw [rounds_succ]
        go_wp2_with fail
        rw [rounds_succ]
        go_wp2_with fail
        refine (C5.out _ M11.out).mono ?_
        rintro e w12 ⟨rfl, m12⟩
        have M13 := Lib.hid (m12.fr0 ((Fr.refl [] w12).alloc (.cells #[.int .u8 9, .int .u8 0, .int .u8 0, .int .u8 0, .int .u8 0, .int .u8 0] 28 (0, 0))))
        have N13 := Lib.hid (Blk.new w12 #[.int .u8 9, .int .u8 0, .int .u8 0, .int .u8 0, .int .u8 0, .int .u8 0] 28)
        clear m12 M11 C5
        go_wp2_with fail
        obtain ⟨ba, hba⟩ : ∃ q, w12.heap.size = q := ⟨_, rfl⟩
        obtain ⟨w13, hw13⟩ : ∃ W, w12.alloc (.cells #[.int .u8 9, .int .u8 0, .int .u8 0, .int .u8 0, .int .u8 0, .int .u8 0] 28 (0, 0)) = W := ⟨_, rfl⟩
        rw [hba] at N13 ⊢
        rw [hw13] at M13 N13 ⊢
        clear hba hw13
        refine (C6.out _ M13.out).mono ?_
        rintro e w14 ⟨qv, cv, rfl, hv, hF14, m14⟩
        have M14 := Lib.hid m14
        have N14 := Lib.hid (hF14.blk N13.out (by simp))
        have HS : Hid (∀ W, Fr [] w14 W → (fun W => (W.cell? ⟨qv, 0, none⟩ = some (.int .u8 1) ∧ W.cell? ⟨qv, 1, none⟩ = some (.int .u8 0) ∧ W.cell? ⟨qv, 2, none⟩ = some (.int .u8 0) ∧ W.cell? ⟨qv, 3, none⟩ = some (.int .u8 0) ∧ W.cell? ⟨qv, 4, none⟩ = some (.int .u8 0) ∧ W.cell? ⟨qv, 5, none⟩ = some (.int .u8 0) ∧ W.cell? ⟨qv, 6, none⟩ = some (.int .i64 1) ∧ W.cell? ⟨ba, 0, none⟩ = some (.int .u8 9) ∧ W.cell? ⟨ba, 1, none⟩ = some (.int .u8 0) ∧ W.cell? ⟨ba, 2, none⟩ = some (.int .u8 0) ∧ W.cell? ⟨ba, 3, none⟩ = some (.int .u8 0) ∧ W.cell? ⟨ba, 4, none⟩ = some (.int .u8 0) ∧ W.cell? ⟨ba, 5, none⟩ = some (.int .u8 0) ∧ W.cell? ⟨bk, 0, none⟩ = some (.int .u8 9) ∧ W.cell? ⟨bk, 1, none⟩ = some (.int .u8 0) ∧ W.cell? ⟨bk, 2, none⟩ = some (.int .u8 0) ∧ W.cell? ⟨bk, 3, none⟩ = some (.int .u8 0) ∧ W.cell? ⟨bk, 4, none⟩ = some (.int .u8 0) ∧ W.cell? ⟨bk, 5, none⟩ = some (.int .u8 0) ∧ W.cell? ⟨bm, 0, none⟩ = some (.int .u8 1) ∧ W.cell? ⟨bm, 1, none⟩ = some (.int .u8 0) ∧ W.cell? ⟨bm, 2, none⟩ = some (.int .u8 0) ∧ W.cell? ⟨bm, 3, none⟩ = some (.int .u8 0) ∧ W.cell? ⟨bm, 4, none⟩ = some (.int .u8 0) ∧ W.cell? ⟨bm, 5, none⟩ = some (.int .u8 0)) ∧ Fr [] w14 W) W) := Lib.hid fun W hW => by
          obtain ⟨v0, v1, v2, v3, v4, v5, v6⟩ := hv W hW
          have a := hW.blk N14.out (by simp)
          have b := hW.blk M14.out.k9 (by simp)
          have c := hW.blk M14.out.m (by simp)
          exact ⟨⟨v0, v1, v2, v3, v4, v5, v6, a.c 0 _ rfl, a.c 1 _ rfl, a.c 2 _ rfl, a.c 3 _ rfl, a.c 4 _ rfl, a.c 5 _ rfl, b.c 0 _ rfl, b.c 1 _ rfl, b.c 2 _ rfl, b.c 3 _ rfl, b.c 4 _ rfl, b.c 5 _ rfl, c.c 0 _ rfl, c.c 1 _ rfl, c.c 2 _ rfl, c.c 3 _ rfl, c.c 4 _ rfl, c.c 5 _ rfl⟩, hW⟩
        have heq9 := fun W => eq_mac 9998 mtK mtK W
        have heq1 := fun W => eq_mac 9998 mtM mtM W
        rw [mcEq_self] at heq9 heq1
        unfold mcL mtK at heq9
        unfold mcL mtM at heq1
        simp only at heq9 heq1
        have hG0 := HS.out _ (Fr.refl [] w14).drew
        dsimp only at hG0
        clear m14 hv hF14 N13 M13 C6
        go_wp2_with fail
        go_region_held3 (fun W => (W.cell? ⟨qv, 0, none⟩ = some (.int .u8 1) ∧ W.cell? ⟨qv, 1, none⟩ = some (.int .u8 0) ∧ W.cell? ⟨qv, 2, none⟩ = some (.int .u8 0) ∧ W.cell? ⟨qv, 3, none⟩ = some (.int .u8 0) ∧ W.cell? ⟨qv, 4, none⟩ = some (.int .u8 0) ∧ W.cell? ⟨qv, 5, none⟩ = some (.int .u8 0) ∧ W.cell? ⟨qv, 6, none⟩ = some (.int .i64 1) ∧ W.cell? ⟨ba, 0, none⟩ = some (.int .u8 9) ∧ W.cell? ⟨ba, 1, none⟩ = some (.int .u8 0) ∧ W.cell? ⟨ba, 2, none⟩ = some (.int .u8 0) ∧ W.cell? ⟨ba, 3, none⟩ = some (.int .u8 0) ∧ W.cell? ⟨ba, 4, none⟩ = some (.int .u8 0) ∧ W.cell? ⟨ba, 5, none⟩ = some (.int .u8 0) ∧ W.cell? ⟨bk, 0, none⟩ = some (.int .u8 9) ∧ W.cell? ⟨bk, 1, none⟩ = some (.int .u8 0) ∧ W.cell? ⟨bk, 2, none⟩ = some (.int .u8 0) ∧ W.cell? ⟨bk, 3, none⟩ = some (.int .u8 0) ∧ W.cell? ⟨bk, 4, none⟩ = some (.int .u8 0) ∧ W.cell? ⟨bk, 5, none⟩ = some (.int .u8 0) ∧ W.cell? ⟨bm, 0, none⟩ = some (.int .u8 1) ∧ W.cell? ⟨bm, 1, none⟩ = some (.int .u8 0) ∧ W.cell? ⟨bm, 2, none⟩ = some (.int .u8 0) ∧ W.cell? ⟨bm, 3, none⟩ = some (.int .u8 0) ∧ W.cell? ⟨bm, 4, none⟩ = some (.int .u8 0) ∧ W.cell? ⟨bm, 5, none⟩ = some (.int .u8 0)) ∧ Fr [] w14 W)
          (first | exact hG0 | assumption)
          (fail)
        all_goals
          clear HS heq9 heq1 N14
          have M15 := Lib.hid (M14.out.fr0 (Fr.refl [] w14).drew)
          obtain ⟨w15, hw15⟩ : ∃ W, w14.drew = W := ⟨_, rfl⟩
          rw [hw15] at M15 hG0 ⊢
          clear hw15 hG0 M14
          go_wp2_with fail
          refine (C7.out _ M15.out).mono ?_
          rintro e w16 ⟨q8, cq8, rfl, f8, m8⟩
          have M16 := Lib.hid m8
          clear m8 M15 C7
          have y0 : w16.cell? ⟨q8, 0, none⟩ = some (.int .u8 9) := f8.c 0 _ rfl
          have y1 : w16.cell? ⟨q8, 1, none⟩ = some (.int .u8 0) := f8.c 1 _ rfl
          have y2 : w16.cell? ⟨q8, 2, none⟩ = some (.int .u8 0) := f8.c 2 _ rfl
          have y3 : w16.cell? ⟨q8, 3, none⟩ = some (.int .u8 0) := f8.c 3 _ rfl
          have y4 : w16.cell? ⟨q8, 4, none⟩ = some (.int .u8 0) := f8.c 4 _ rfl
          have y5 : w16.cell? ⟨q8, 5, none⟩ = some (.int .u8 0) := f8.c 5 _ rfl
          have y6 : w16.cell? ⟨q8, 6, none⟩ = some (.int .u8 1) := f8.c 6 _ rfl
          have y7 : w16.cell? ⟨q8, 7, none⟩ = some (.int .u8 0) := f8.c 7 _ rfl
          have y8 : w16.cell? ⟨q8, 8, none⟩ = some (.int .u8 0) := f8.c 8 _ rfl
          have y9 : w16.cell? ⟨q8, 9, none⟩ = some (.int .u8 0) := f8.c 9 _ rfl
          have y10 : w16.cell? ⟨q8, 10, none⟩ = some (.int .u8 0) := f8.c 10 _ rfl
          have y11 : w16.cell? ⟨q8, 11, none⟩ = some (.int .u8 0) := f8.c 11 _ rfl
          have y12 : w16.cell? ⟨q8, 12, none⟩ = some (.int .i64 34915) := f8.c 12 _ rfl
          have y13 : w16.cell? ⟨q8, 13, none⟩ = some (.string (B (mdz))) := f8.c 13 _ rfl
          go_wp2_with fail
          refine (C8.out _ M16.out).mono ?_
          rintro e w17 ⟨rfl, m9⟩
          have M17 := Lib.hid m9
          clear m9 f8 M16 C8 y0 y1 y2 y3 y4 y5 y6 y7 y8 y9 y10 y11 y12 y13
          go_wp2_with fail
          refine (C9.out _ M17.out).mono ?_
          rintro e w18 ⟨rfl, m10⟩
          have M18 := Lib.hid m10
          clear m10 M17 C9
          go_wp2_with fail
          refine (AL.out _).mono ?_
          rintro e w19 ⟨rfl, hFA⟩
          have M19 := Lib.hid (M18.out.fr0 hFA)
          clear hFA M18
          go_wp2_with fail
          refine (CL.out _ M19.out).mono ?_
          rintro e w20 ⟨BB, cBB, rfl, mB⟩
          have M20 := Lib.hid mB
          clear mB M19
          go_wp2_with fail
          refine (CG.out _ M20.out).mono ?_
          rintro e w21 ⟨BC, cBC, rfl, hFC⟩
          have HFC := Lib.hid hFC
          clear hFC M20 CL CG AL
          go_wp2_with fail
          go_ret
          exact ⟨rfl, HFC.out.below (Nat.le_refl _) (by simp)⟩
      | false =>
        have hin : ¬ (sv = [] ∨ sv ∈ l) := fun h => by simpa using HIS.out.2 h
        have C1 := Lib.hid fun (W : World) (h : MS w g xa xb gh bm bk A cp l un 0 (mt1 sv un) W) => (show Calls Try.prog 24 #[.pointer (some ⟨g, 0, none⟩), .agg #[.int .u8 255, .int .u8 255, .int .u8 255, .int .u8 255, .int .u8 255, .int .u8 255, .int .u8 1, .int .u8 0, .int .u8 0, .int .u8 0, .int .u8 0, .int .u8 0, .int .i64 34915, .string (B (md1 sv un))], .int .i64 t] W fun e W1 => e = .returned (.slice none 0 0) ∧ MS w g xa xb gh bm bk A cp l un 0 (mt1 sv un) W1 from MS.padi_no t HL.out.1 HL.out.2.1 HL.out.2.2 hin h)
        have C5 := Lib.hid fun (W : World) (h : MS w g xa xb gh bm bk A cp l un 0 (mt1 sv un) W) => (show Calls Try.prog 16 #[.pointer (some ⟨gh, 0, none⟩)] W fun e W1 => e = .returned (.tuple #[.int .i64 1, .agg #[.int .u8 0, .int .u8 0, .int .u8 0, .int .u8 0, .int .u8 0, .int .u8 0], .int .i64 0]) ∧ MS w g xa xb gh bm bk A cp l un 0 (mt1 sv un) W1 from MS.state (show (2 : Int) ≠ 0 by decide) h)
        have CL := Lib.hid fun (W : World) (h : MS w g xa xb gh bm bk A cp l un 0 (mt1 sv un) W) => MS.live0 (Or.inl rfl) h
        clear hin
        refine wp_loop_rounds 3 ?_
        rw [rounds_succ]
        go_wp2_with fail
        refine wp_loop_rounds 2 ?_
        rw [rounds_succ]
        have y0 : w3.cell? ⟨q1, 0, none⟩ = some (.int .u8 255) := F1.c 0 _ rfl
        have y1 : w3.cell? ⟨q1, 1, none⟩ = some (.int .u8 255) := F1.c 1 _ rfl
        have y2 : w3.cell? ⟨q1, 2, none⟩ = some (.int .u8 255) := F1.c 2 _ rfl
        have y3 : w3.cell? ⟨q1, 3, none⟩ = some (.int .u8 255) := F1.c 3 _ rfl
        have y4 : w3.cell? ⟨q1, 4, none⟩ = some (.int .u8 255) := F1.c 4 _ rfl
        have y5 : w3.cell? ⟨q1, 5, none⟩ = some (.int .u8 255) := F1.c 5 _ rfl
        have y6 : w3.cell? ⟨q1, 6, none⟩ = some (.int .u8 1) := F1.c 6 _ rfl
        have y7 : w3.cell? ⟨q1, 7, none⟩ = some (.int .u8 0) := F1.c 7 _ rfl
        have y8 : w3.cell? ⟨q1, 8, none⟩ = some (.int .u8 0) := F1.c 8 _ rfl
        have y9 : w3.cell? ⟨q1, 9, none⟩ = some (.int .u8 0) := F1.c 9 _ rfl
        have y10 : w3.cell? ⟨q1, 10, none⟩ = some (.int .u8 0) := F1.c 10 _ rfl
        have y11 : w3.cell? ⟨q1, 11, none⟩ = some (.int .u8 0) := F1.c 11 _ rfl
        have y12 : w3.cell? ⟨q1, 12, none⟩ = some (.int .i64 34915) := F1.c 12 _ rfl
        have y13 : w3.cell? ⟨q1, 13, none⟩ = some (.string (B (md1 sv un))) := F1.c 13 _ rfl
        go_wp2_with fail
        refine (C1.out _ M3.out).mono ?_
        rintro e w4 ⟨rfl, m4⟩
        have M4 := Lib.hid m4
        clear m4 y0 y1 y2 y3 y4 y5 y6 y7 y8 y9 y10 y11 y12 y13 C1 M3
        go_wp2_with (at_builtin; refine wpList_append_any _ rfl _ _ 29 rfl w4.heap.size 35 i0 (.agg #[.int .u8 0, .int .u8 0, .int .u8 0, .int .u8 0, .int .u8 0, .int .u8 0, .int .u8 0, .int .u8 0, .int .u8 0, .int .u8 0, .int .u8 0, .int .u8 0, .int .i64 0, .string ⟨#[]⟩]) 14 40 Try.underlying29 hi hz0 hz1 hz2 rfl (by decide) _ 0 [] rfl (World.ownsRow_nil _ _ _ _) w4.heap.size none 0 0 [] rfl (Reads.of_own (base := 0) (e := 35) (World.ownsRow_nil _ _ _ _)) (fun u hu => by cases hu) ?c3 ?c4 ?c5 ?_)
        case c3 => unfold maxLen; omega
        case c4 => omega
        case c5 => exact Nat.le_refl _
        intro v1 w5 hown1 hgr1 _
        (try rw [Nat.zero_add, List.nil_append] at hown1)
        have M5 := Lib.hid (M4.out.fr0 ((Fr.refl [] w4).grown hgr1 (fun q hq => by cases hq)))
        obtain ⟨B2, cB2, rfl⟩ := rown_slice hown1
        clear hgr1 hown1 M4
        go_wp2_with fail
        rw [rounds_succ]
        go_wp2_with fail
        refine wp_loop_rounds 2 ?_
        rw [rounds_succ]
        go_wp2_with fail
        rw [rounds_succ]
        go_wp2_with fail
        refine (C5.out _ M5.out).mono ?_
        rintro e w12 ⟨rfl, m12⟩
        have M13 := Lib.hid (m12.fr0 ((Fr.refl [] w12).alloc (.cells #[.int .u8 0, .int .u8 0, .int .u8 0, .int .u8 0, .int .u8 0, .int .u8 0] 28 (0, 0))))
        clear m12 M5 C5
        go_wp2_with fail
        obtain ⟨w13, hw13⟩ : ∃ W, w12.alloc (.cells #[.int .u8 0, .int .u8 0, .int .u8 0, .int .u8 0, .int .u8 0, .int .u8 0] 28 (0, 0)) = W := ⟨_, rfl⟩
        rw [hw13] at M13 ⊢
        clear hw13
        refine (AL.out _).mono ?_
        rintro e w19 ⟨rfl, hFA⟩
        have M19 := Lib.hid (M13.out.fr0 hFA)
        clear hFA M13
        go_wp2_with fail
        refine (CL.out _ M19.out).mono ?_
        rintro e w20 ⟨BB, cBB, rfl, mB⟩
        have HFC := Lib.hid mB.fr
        clear mB M19 CL AL
        go_wp2_with fail
        go_ret
        exact ⟨rfl, HFC.out.below (Nat.le_refl _) (by simp)⟩
end Go.Proofs.Ytcdencpkgfehlaa
