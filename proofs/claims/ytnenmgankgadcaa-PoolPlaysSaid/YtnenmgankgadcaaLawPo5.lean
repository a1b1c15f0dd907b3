/- PoolPlays, walked. -/
import Derived.Test.YtnenmgankgadcaaPool8
import Derived.Test.YtnenmgankgadcaaLawPo3
import Derived.Deep.RegionWith
import Derived.Deep.DeepCutAuto
import Derived.Deep.CutBlock
namespace Go.Proofs.Ytnenmgankgadcaa
open Go.RowKit Go.Maps
set_option linter.unusedVariables false
section
variable {w0 : World} {g bh bw r g2 : Nat} {b : Ad} {s : List (Option Ky)}
theorem PoolEx.frS {w w' : World} {S : List Nat} (h : PoolEx w g bh bw b s) (hF : Fr S w w') (hg : g ∉ S) (hbh : bh ∉ S) (hbw : bw ∉ S) : PoolEx w' g bh bw b s := by
  obtain ⟨H, M, h⟩ := h
  exact ⟨H, M, hF.blk h.st hg, h.hM.fr hF hbh, h.wM.fr hF hbw, h.ne, h.rel, h.bok, h.n1, h.n2⟩
theorem PoolEx.same {w : World} (h : PoolEx w g bh bw b s) {k : Ky} {i j : Nat} (hi : s[i]? = some (some k)) (hj : s[j]? = some (some k)) : i = j := by
  obtain ⟨H, M, h⟩ := h
  exact h.rel.same hi hj
theorem PoolEx.adq_at {w : World} (h : PoolEx w g bh bw b s) {i j : Nat} (hi : i < s.length) (hj : j < s.length) (he : adq (numb b + i) = adq (numb b + j)) : i = j := by
  obtain ⟨H, M, h⟩ := h
  exact h.rel.adq_at hi hj he
theorem ex_who_none {w : World} (a : Ad) (ha : AdOk a) (h : PoolEx w g bh bw b s) (hn : ∀ (i : Nat) v, s[i]? = some (some v) → adq (numb b + i) ≠ a) :
    Calls Try.prog 21 #[.pointer (some ⟨g, 0, none⟩), .agg (adC a)] w fun e w' => e = .returned (.tuple #[.agg (kyC (0, 0)), .bool false]) ∧ Fr [] w w' := by
  obtain ⟨H, M, h⟩ := h
  have := who_any a ha h
  rw [show look M a = none by
    cases hl : look M a with
    | none => rfl
    | some k =>
      obtain ⟨i, hi, he⟩ := (h.rel.m a k).1 hl
      exact absurd he.symm (hn i k hi)] at this
  exact this
/-- both pools' Take -/
theorem both_take (k : Ky) (hk : KyOk k) (h : PoolEx w0 g bh bw b s) : ∃ (x : Ad) (c : Int) (s' : List (Option Ky)), s'.length = s.length ∧
    (∀ W, PoolEx W g bh bw b s → Calls Try.prog 14 #[.pointer (some ⟨g, 0, none⟩), .agg (kyC k)] W fun e w' => e = .returned (.tuple #[.agg (adC x), .int .i64 c]) ∧ PoolEx w' g bh bw b s' ∧ Fr [bh, bw] W w') ∧
    (∀ W, DPool W g2 r b s → Calls Try.prog 17 #[.pointer (some ⟨g2, 0, none⟩), .agg (kyC k)] W fun e w' => e = .returned (.tuple #[.agg (adC x), .int .i64 c]) ∧ DPool w' g2 r b s' ∧ Fr [r] W w') := by
  rcases in_or s k with ⟨i, hi⟩ | hno
  · refine ⟨_, 0, s, rfl, fun W hW => (ex_take_had k i hk hW hi).mono fun e w' he => ⟨he.1, hW.fr0 he.2, he.2.mono (by simp)⟩, fun W hW => (dtake_had k i hW hi (fun j hj he => ?_)).mono fun e w' he => ⟨he.1, hW.fr0 he.2, he.2.mono (by simp)⟩⟩
    have := h.same he hi
    omega
  · rcases first_free s with hf | ⟨i, hi, hf⟩
    · exact ⟨(0, 0, 0, 0), 10, s, rfl, fun W hW => (ex_take_full k hk hW hno hf).mono fun e w' he => ⟨he.1, hW.fr0 he.2, he.2.mono (by simp)⟩, fun W hW => (dtake_full k hW hno.at_ hf).mono fun e w' he => ⟨he.1, hW.fr0 he.2, he.2.mono (by simp)⟩⟩
    · exact ⟨_, 0, s.set i (some k), by rw [List.length_set], fun W hW => ex_take_new k i hk hW hno hf hi, fun W hW => dtake_new k i hW hno.at_ hf hi⟩
theorem both_give (k : Ky) (hk : KyOk k) (h : PoolEx w0 g bh bw b s) : ∃ (c : Int) (s' : List (Option Ky)), s'.length = s.length ∧
    (∀ W, PoolEx W g bh bw b s → Calls Try.prog 15 #[.pointer (some ⟨g, 0, none⟩), .agg (kyC k)] W fun e w' => e = .returned (.int .i64 c) ∧ PoolEx w' g bh bw b s' ∧ Fr [bh, bw] W w') ∧
    (∀ W, DPool W g2 r b s → Calls Try.prog 18 #[.pointer (some ⟨g2, 0, none⟩), .agg (kyC k)] W fun e w' => e = .returned (.int .i64 c) ∧ DPool w' g2 r b s' ∧ Fr [r] W w') := by
  rcases in_or s k with ⟨i, hi⟩ | hno
  · refine ⟨0, s.set i none, by rw [List.length_set], fun W hW => ex_give_yes k i hk hW hi, fun W hW => dgive_yes k i hW hi (fun j hj he => ?_)⟩
    have := h.same he hi
    omega
  · exact ⟨3, s, rfl, fun W hW => (ex_give_no k hk hW hno).mono fun e w' he => ⟨he.1, hW.fr0 he.2, he.2.mono (by simp)⟩, fun W hW => (dgive_no k hW hno.at_).mono fun e w' he => ⟨he.1, hW.fr0 he.2, he.2.mono (by simp)⟩⟩
theorem both_has (k : Ky) (hk : KyOk k) (h : PoolEx w0 g bh bw b s) : ∃ (x : Ad) (c : Bool),
    (∀ W, PoolEx W g bh bw b s → Calls Try.prog 19 #[.pointer (some ⟨g, 0, none⟩), .agg (kyC k)] W fun e w' => e = .returned (.tuple #[.agg (adC x), .bool c]) ∧ Fr [] W w') ∧
    (∀ W, DPool W g2 r b s → Calls Try.prog 20 #[.pointer (some ⟨g2, 0, none⟩), .agg (kyC k)] W fun e w' => e = .returned (.tuple #[.agg (adC x), .bool c]) ∧ Fr [] W w') := by
  rcases in_or s k with ⟨i, hi⟩ | hno
  · refine ⟨_, true, fun W hW => ex_has_yes k i hk hW hi, fun W hW => dhas_yes k i hW hi (fun j hj he => ?_)⟩
    have := h.same he hi
    omega
  · exact ⟨(0, 0, 0, 0), false, fun W hW => ex_has_no k hk hW hno, fun W hW => dhas_no k hW hno.at_⟩
theorem both_who (a : Ad) (ha : AdOk a) (h : PoolEx w0 g bh bw b s) : ∃ (x : Ky) (c : Bool),
    (∀ W, PoolEx W g bh bw b s → Calls Try.prog 21 #[.pointer (some ⟨g, 0, none⟩), .agg (adC a)] W fun e w' => e = .returned (.tuple #[.agg (kyC x), .bool c]) ∧ Fr [] W w') ∧
    (∀ W, DPool W g2 r b s → Calls Try.prog 22 #[.pointer (some ⟨g2, 0, none⟩), .agg (adC a)] W fun e w' => e = .returned (.tuple #[.agg (kyC x), .bool c]) ∧ Fr [] W w') := by
  by_cases hx : ∃ (i : Nat) (v : Ky), s[i]? = some (some v) ∧ adq (numb b + i) = a
  · obtain ⟨i, v, hi, hae⟩ := hx
    refine ⟨v, true, fun W hW => ?_, fun W hW => dwho_yes a ha i v hW hi hae (fun j u hj hs he => ?_)⟩
    · have := ex_who_yes i v hW hi
      rwa [hae] at this
    · have := h.adq_at (at_lt hs) (at_lt hi) (he.trans hae.symm)
      omega
  · have hn : ∀ (i : Nat) v, s[i]? = some (some v) → adq (numb b + i) ≠ a := fun i v h1 h2 => hx ⟨i, v, h1, h2⟩
    exact ⟨(0, 0), false, fun W hW => ex_who_none a ha hW hn, fun W hW => dwho_no a ha hW hn⟩
end
set_option maxRecDepth 100000 in
set_option maxHeartbeats 20000000 in
theorem plays_small (w : World) (b : Ad) (hb : AdOk b) (n : Nat) (a : Option Addr) (len cap : Nat) (l : List OpR) (hl : IsOps w a len cap l) (n1 : 1 ≤ n) (n2 : n ≤ 256) (ht : numb b + n ≤ 4294967296) (l400 : len ≤ 400) :
    Calls Try.prog 5 #[.agg (adC b), .int .i64 n, .slice a len cap] w fun e w' => e = .returned (.bool true) ∧ Below w.heap.size w w' := by
  have P1 := Lib.hid fun (W : World) => plnew_ok (w := W) b n hb n1 n2 ht
  have P2 := Lib.hid fun (W : World) => dnew_ok (w := W) b n hb n1 n2 ht
  have HL := Lib.hid hl
  have h50 : ¬ (400 : Int) < len := by omega
  obtain ⟨b0, b1, b2, b3⟩ := b
  have HBo := Lib.hid hb
  unfold adC adr at P1 P2 ⊢
  simp only at P1 P2 ⊢
  clear hl ht hb
  go_enter Try.func5, Try.ntmps5
  have hB0 := Blk.new w #[.int .u8 b0, .int .u8 b1, .int .u8 b2, .int .u8 b3] 23
  have hF0 := ((Fr.refl [] w).alloc (.cells #[.int .u8 b0, .int .u8 b1, .int .u8 b2, .int .u8 b3] 23 (0, 0)))
  go_wp2_with fail
  refine (P1.out _).mono ?_
  rintro e w1 ⟨g, bh, bw, rfl, hg, hbh, hbw, hP, hF1⟩
  have hB1 := hF1.blk hB0 (by simp)
  have hF01 := hF0.trans hF1
  have c0 : w1.cell? ⟨w.heap.size, 0, none⟩ = some (.int .u8 b0) := hB1.c 0 _ rfl
  have c1 : w1.cell? ⟨w.heap.size, 1, none⟩ = some (.int .u8 b1) := hB1.c 1 _ rfl
  have c2 : w1.cell? ⟨w.heap.size, 2, none⟩ = some (.int .u8 b2) := hB1.c 2 _ rfl
  have c3 : w1.cell? ⟨w.heap.size, 3, none⟩ = some (.int .u8 b3) := hB1.c 3 _ rfl
  have hg' : w.heap.size ≤ g := by simp at hg; omega
  have hbh' : w.heap.size ≤ bh := by simp at hbh; omega
  have hbw' : w.heap.size ≤ bw := by simp at hbw; omega
  have hEx : PoolEx w1 g bh bw (b0, b1, b2, b3) (List.replicate n none) := ⟨_, _, hP⟩
  have hgl : g < w1.heap.size := hP.st.lt
  have hbhl : bh < w1.heap.size := hP.hM.lt
  have hbwl : bw < w1.heap.size := hP.wM.lt
  clear hP hg hbh hbw hB0 hF0 hF1 hB1
  go_wp2_with fail
  refine (P2.out _).mono ?_
  rintro e w2 ⟨g2, r, rfl, hg2, hr, hD, hF2⟩
  have hEx2 := hEx.fr0 hF2
  have hF02 := hF01.trans hF2
  have hs1 := hF01.size
  have hnr : r ≠ bh ∧ r ≠ bw ∧ r ≠ g := ⟨by omega, by omega, by omega⟩
  have hng2 : g2 ≠ bh ∧ g2 ≠ bw := ⟨by omega, by omega⟩
  have HX := Lib.hid fun (y : Nat) (hy : y ∈ [bh, bw, r]) => show y ∈ ([] : List Nat) ∨ w.heap.size ≤ y by simp at hy; right; omega
  clear c0 c1 c2 c3 hEx hF2 P1 P2 hF01
  obtain ⟨hll, hcap, hmax, hV, hrow⟩ := id HL.out
  clear hV hrow hll
  unfold maxLen at hmax
  go_wp2_with fail
  go_loopw [11] (fun iv wr => ∃ (j : Nat) (s : List (Option Ky)), j ≤ len ∧ iv = .int .i64 j ∧ s.length = n ∧ PoolEx wr g bh bw (b0, b1, b2, b3) s ∧ DPool wr g2 r (b0, b1, b2, b3) s ∧ Fr [] w wr) (fun iv _ => len - (intOf iv).toNat)
  case atStart => exact ⟨0, _, by omega, rfl, by simp, hEx2, hD, hF02⟩
  case round =>
    clear hEx2 hD hF02
    obtain ⟨j, s, hj, rfl, hlen, hP, hD, hF⟩ := hrel
    by_cases hjl : j < len
    · obtain ⟨bb, off, ⟨kd, ⟨k1, k2⟩, ⟨a0, a1, a2, a3⟩⟩, rfl, hbb, hx, hxV, hcell⟩ := HL.out.at_ j hjl
      obtain ⟨⟨kd0, kd1⟩, hok, haok⟩ := hxV
      simp only at hok haok
      have HC := Lib.hid hcell
      have hC0 : ∀ W, Fr [] w W → W.cell? ⟨bb, off + j * 7, none⟩ = some (.int .i64 kd) := fun W hW => by have := hcell W hW 0 _ rfl; simpa using this
      have HC0 := Lib.hid hC0
      have d1 : wr.cell? ⟨bb, off + j * 7 + 1, none⟩ = some (.int .i64 k1) := hcell wr hF 1 _ rfl
      have d2 : wr.cell? ⟨bb, off + j * 7 + 1 + 1, none⟩ = some (.int .i64 k2) := hcell wr hF 2 _ rfl
      have hFA := hF.alloc (.cells #[.int .i64 0, .int .i64 0] 45 (0, 0))
      have e1 : (wr.alloc (.cells #[.int .i64 0, .int .i64 0] 45 (0, 0))).cell? ⟨bb, off + j * 7 + 1, none⟩ = some (.int .i64 k1) := hcell _ hFA 1 _ rfl
      have e2 : (wr.alloc (.cells #[.int .i64 0, .int .i64 0] 45 (0, 0))).cell? ⟨bb, off + j * 7 + 1 + 1, none⟩ = some (.int .i64 k2) := hcell _ hFA 2 _ rfl
      have hjb : (j : Int) ≤ 400 := by omega
      have HOK := Lib.hid hok
      have HAOK := Lib.hid haok
      clear hcell hx haok hC0 hok
      go_wp2_with fail
      go_region
      have hF3 := (hF.alloc (.cells #[.int .i64 k1, .int .i64 k2] 45 (0, 0))).drew
      have hQ3 := (Blk.new wr #[.int .i64 k1, .int .i64 k2] 45).drew
      have hG3 := ((Fr.refl [] wr).alloc (.cells #[.int .i64 k1, .int .i64 k2] 45 (0, 0))).drew
      have hP3 := hP.fr0 hG3
      have hD3 := hD.fr0 hG3
      have hNQ : Hid (∀ y, y ∈ [bh, bw, r] → wr.heap.size ≠ y) := Lib.hid fun y hy => by
        have h1 := hD.row.lt
        have h2 := hP
        obtain ⟨H5, M5, h5⟩ := h2
        have h3 := h5.hM.lt
        have h4 := h5.wM.lt
        simp at hy
        omega
      obtain ⟨W3, hW3⟩ : ∃ W, (wr.alloc (.cells #[.int .i64 k1, .int .i64 k2] 45 (0, 0))).drew = W := ⟨_, rfl⟩
      obtain ⟨q, hq⟩ : ∃ q, wr.heap.size = q := ⟨_, rfl⟩
      rw [hW3] at hF3 hQ3 hP3 hD3 ⊢
      rw [hq] at hQ3 hNQ ⊢
      clear hW3 hq hG3 hP hD d1 d2 e1 e2 hF hFA
      have z0 : W3.cell? ⟨bb, off + j * 7, none⟩ = some (.int .i64 kd) := HC0.out _ hF3
      go_upto_block 2 with fail
      go_cut [] (fun wx => ∃ s' : List (Option Ky), s'.length = n ∧ PoolEx wx g bh bw (b0, b1, b2, b3) s' ∧ DPool wx g2 r (b0, b1, b2, b3) s' ∧ Blk wx q #[.int .i64 k1, .int .i64 k2] 45 ∧ Fr [] w wx)
      case first =>
        have HR : Hid (∀ W, Fr [] W3 W → W.cell? ⟨bb, off + j * 7 + 1, none⟩ = some (.int .i64 k1) ∧ W.cell? ⟨bb, off + j * 7 + 1 + 1, none⟩ = some (.int .i64 k2) ∧ W.cell? ⟨q, 0, none⟩ = some (.int .i64 k1) ∧ W.cell? ⟨q, 1, none⟩ = some (.int .i64 k2)) := Lib.hid fun W h => by
          have hx := hF3.trans h
          have hb := h.blk hQ3 (by simp)
          exact ⟨HC.out _ hx 1 _ rfl, HC.out _ hx 2 _ rfl, hb.c 0 _ rfl, hb.c 1 _ rfl⟩
        obtain ⟨d1, d2, d7, d8⟩ := HR.out W3 (Fr.refl _ _)
        have HNq := hNQ
        by_cases h1 : kd = 1
        · subst h1
          as_aux_lemma =>
            obtain ⟨⟨x0, x1, x2, x3⟩, xc, s', hl', hT1, hT2⟩ := both_take (g2 := g2) (r := r) (k1, k2) HOK.out hP3
            have heq0 := fun W => eq_ad (x0, x1, x2, x3) (x0, x1, x2, x3) W
            rw [show adEq (x0, x1, x2, x3) (x0, x1, x2, x3) = true by simp [adEq]] at heq0
            unfold adC adr at hT1 hT2 heq0
            unfold kyC at hT1 hT2
            simp only at hT1 hT2 heq0
            have T1 := Lib.hid (hT1 W3 hP3)
            have T2 := Lib.hid hT2
            have HD3 := Lib.hid hD3
            have HQ3 := Lib.hid hQ3
            have HEq := Lib.hid heq0
            have hln : s'.length = n := hl'.trans hlen
            clear hT1 hT2 heq0 hP3 hD3 hQ3
            go_wp2_with fail
            refine T1.out.mono ?_
            rintro e v0 ⟨rfl, hPv, hv0⟩
            have hsz0 := Lib.hid hv0.size
            have hP0 := hPv
            have hD0 := HD3.out.fr hv0 (by simp; exact ⟨hng2.1, hng2.2⟩) (by simp; exact ⟨hnr.1, hnr.2.1⟩)
            have hQ0 := hv0.blk HQ3.out (by simp; exact ⟨HNq.out bh (by simp), HNq.out bw (by simp)⟩)
            have hF4 := hF3.sub (hv0.mono (S' := [bh, bw, r]) (fun y hy => by simp at hy ⊢; rcases hy with h | h <;> simp [h])) HX.out
            have hA0 := (Fr.refl [] v0).alloc (.cells #[.int .u8 x0, .int .u8 x1, .int .u8 x2, .int .u8 x3] 23 (0, 0))
            have hN0 := Blk.new v0 #[.int .u8 x0, .int .u8 x1, .int .u8 x2, .int .u8 x3] 23
            obtain ⟨V0, hV0⟩ : ∃ W, v0.alloc (.cells #[.int .u8 x0, .int .u8 x1, .int .u8 x2, .int .u8 x3] 23 (0, 0)) = W := ⟨_, rfl⟩
            rw [hV0] at hA0 hN0
            have t7 : V0.cell? ⟨q, 0, none⟩ = some (.int .i64 k1) := (hA0.blk hQ0 (by simp)).c 0 _ rfl
            have t8 : V0.cell? ⟨q, 1, none⟩ = some (.int .i64 k2) := (hA0.blk hQ0 (by simp)).c 1 _ rfl
            have HP0 := Lib.hid (hPv.fr0 hA0)
            have HD0 := Lib.hid (hD0.fr0 hA0)
            have hQ00 := hA0.blk hQ0 (by simp)
            have hF5 := hF4.trans hA0
            clear d1 d2 d7 d8 hPv hv0 hP0 hD0 hQ0 hF4 T1 z0 HR hF3
            go_upto_region 16 with fail
            obtain ⟨r0, hr0⟩ : ∃ r, v0.heap.size = r := ⟨_, rfl⟩
            have hne0 : Hid (r0 ≠ r) := Lib.hid fun e => by
              have h1 := HD0.out.row.lt
              have h2 := HD3.out.row.lt
              have h3 := hsz0.out
              omega
            rw [hr0] at hN0 ⊢
            clear hV0 hr0
            go_wp2_with fail
            refine (T2.out _ HD0.out).mono ?_
            rintro e v1 ⟨rfl, hDv, hv1⟩
            have hP1 := HP0.out.frS hv1 (by simp; exact fun e => hnr.2.2 e.symm) (by simp; exact fun e => hnr.1 e.symm) (by simp; exact fun e => hnr.2.1 e.symm)
            have hQ1 := hv1.blk hQ00 (by simp; exact HNq.out r (by simp))
            have hN01 := hv1.blk hN0 (by simp; exact hne0.out)
            have hF6 := hF5.sub (hv1.mono (S' := [bh, bw, r]) (by simp)) HX.out
            have hA1 := (Fr.refl [] v1).alloc (.cells #[.int .u8 x0, .int .u8 x1, .int .u8 x2, .int .u8 x3] 23 (0, 0))
            have hN1 := Blk.new v1 #[.int .u8 x0, .int .u8 x1, .int .u8 x2, .int .u8 x3] 23
            obtain ⟨V1, hV1⟩ : ∃ W, v1.alloc (.cells #[.int .u8 x0, .int .u8 x1, .int .u8 x2, .int .u8 x3] 23 (0, 0)) = W := ⟨_, rfl⟩
            rw [hV1] at hA1 hN1
            have hN02 := hA1.blk hN01 (by simp)
            have HP1 := Lib.hid (hP1.fr0 hA1)
            have HD1 := Lib.hid (hDv.fr0 hA1)
            have HQ1 := Lib.hid (hA1.blk hQ1 (by simp))
            have HF7 := Lib.hid (hF6.trans hA1)
            clear t7 t8 hv1 hP1 hDv hQ1 hF6 hF5 hQ00 hN0 hN01 HP0 HD0 T2
            go_upto_region 17 with fail
            obtain ⟨r1, hr1⟩ : ∃ r, v1.heap.size = r := ⟨_, rfl⟩
            rw [hr1] at hN1 ⊢
            clear hV1 hr1 hA1
            have k00 : V1.cell? ⟨r0, 0, none⟩ = some (.int .u8 x0) := hN02.c 0 _ rfl
            have k01 : V1.cell? ⟨r0, 1, none⟩ = some (.int .u8 x1) := hN02.c 1 _ rfl
            have k02 : V1.cell? ⟨r0, 2, none⟩ = some (.int .u8 x2) := hN02.c 2 _ rfl
            have k03 : V1.cell? ⟨r0, 3, none⟩ = some (.int .u8 x3) := hN02.c 3 _ rfl
            have k10 : V1.cell? ⟨r1, 0, none⟩ = some (.int .u8 x0) := hN1.c 0 _ rfl
            have k11 : V1.cell? ⟨r1, 1, none⟩ = some (.int .u8 x1) := hN1.c 1 _ rfl
            have k12 : V1.cell? ⟨r1, 2, none⟩ = some (.int .u8 x2) := hN1.c 2 _ rfl
            have k13 : V1.cell? ⟨r1, 3, none⟩ = some (.int .u8 x3) := hN1.c 3 _ rfl
            have heq := HEq.out
            clear hN1 hN02
            go_wp2_with fail
            go_meet
            exact ⟨s', hln, HP1.out, HD1.out, HQ1.out, HF7.out⟩
        · have hk1 : (kd == 1) = false := by simpa using h1
          clear h1
          by_cases h2 : kd = 2
          · subst h2
            as_aux_lemma =>
              obtain ⟨xc, s', hl', hT1, hT2⟩ := both_give (g2 := g2) (r := r) (k1, k2) HOK.out hP3
              unfold kyC at hT1 hT2
              simp only at hT1 hT2
              have hln : s'.length = n := hl'.trans hlen
              have hd := (Fr.refl [] W3).drew
              have HP := Lib.hid (hP3.fr0 hd)
              have T1 := Lib.hid hT1
              have T2 := Lib.hid hT2
              have HQ := Lib.hid (hd.blk hQ3 (by simp))
              have HF := Lib.hid (hF3.trans hd)
              have HD : Hid (∀ W, Fr [bh, bw] W3.drew W → DPool W g2 r (b0, b1, b2, b3) s) := Lib.hid fun W h => (hD3.fr0 hd).fr h (by simp; exact ⟨hng2.1, hng2.2⟩) (by simp; exact ⟨hnr.1, hnr.2.1⟩)
              have HX1 : Hid (∀ W, Fr [bh, bw] W3.drew W → Fr [] w W ∧ Blk W q #[.int .i64 k1, .int .i64 k2] 45) := Lib.hid fun W h => ⟨HF.out.sub (h.mono (S' := [bh, bw, r]) (fun y hy => by simp at hy ⊢; rcases hy with h | h <;> simp [h])) HX.out, h.blk HQ.out (by simp; exact ⟨HNq.out bh (by simp), HNq.out bw (by simp)⟩)⟩
              have HX2 : Hid (∀ V W, Fr [bh, bw] W3.drew V → Fr [r] V W → Fr [] w W ∧ Blk W q #[.int .i64 k1, .int .i64 k2] 45) := Lib.hid fun V W h k => ⟨(HX1.out _ h).1.sub (k.mono (S' := [bh, bw, r]) (by simp)) HX.out, k.blk (HX1.out _ h).2 (by simp; exact HNq.out r (by simp))⟩
              have HS0 : Hid (∀ W, (Fr [] w W ∧ Blk W q #[.int .i64 k1, .int .i64 k2] 45) → W.cell? ⟨bb, off + j * 7 + 1, none⟩ = some (.int .i64 k1) ∧ W.cell? ⟨bb, off + j * 7 + 1 + 1, none⟩ = some (.int .i64 k2) ∧ W.cell? ⟨q, 0, none⟩ = some (.int .i64 k1) ∧ W.cell? ⟨q, 1, none⟩ = some (.int .i64 k2)) := Lib.hid fun W h => ⟨HC.out _ h.1 1 _ rfl, HC.out _ h.1 2 _ rfl, h.2.c 0 _ rfl, h.2.c 1 _ rfl⟩
              have HS1 := Lib.hid fun W h => HS0.out W (HX1.out W h)
              have HS2 := Lib.hid fun V W h k => HS0.out W (HX2.out V W h k)
              have hG0 := HS0.out _ ⟨HF.out, HQ.out⟩
              clear hT1 hT2 hP3 hD3 hQ3 hF3 HR hd
              go_wp2_with fail
              go_region_held3 (fun W => W.cell? ⟨bb, off + j * 7 + 1, none⟩ = some (.int .i64 k1) ∧ W.cell? ⟨bb, off + j * 7 + 1 + 1, none⟩ = some (.int .i64 k2) ∧ W.cell? ⟨q, 0, none⟩ = some (.int .i64 k1) ∧ W.cell? ⟨q, 1, none⟩ = some (.int .i64 k2))
                (first | exact hG0 | assumption | exact HS1.out _ hF5 | exact HS2.out _ _ hF5 hF6)
                (first
                  | (go_at_call 15; refine (T1.out _ HP.out).mono ?_; rintro e w5 ⟨rfl, hP5, hF5⟩)
                  | (go_at_call 18; refine (T2.out _ (HD.out _ hF5)).mono ?_; rintro e w6 ⟨rfl, hD6, hF6⟩))
              all_goals
                have HP6 := Lib.hid (hP5.frS hF6 (by simp; exact fun e => hnr.2.2 e.symm) (by simp; exact fun e => hnr.1 e.symm) (by simp; exact fun e => hnr.2.1 e.symm))
                have HD6 := Lib.hid hD6
                have HZ := Lib.hid (HX2.out _ _ hF5 hF6)
                clear hG0 hP5 hD6 hF5 hF6 HS0 HS1 HS2 HX1 HX2 HD HP T1 T2 HQ HF
                go_wp2_with fail
                go_meet
                exact ⟨s', hln, HP6.out, HD6.out, HZ.out.2, HZ.out.1⟩
          · have hk2 : (kd == 2) = false := by simpa using h2
            clear h2
            have HP3 := Lib.hid hP3
            have HD3 := Lib.hid hD3
            have HQ3 := Lib.hid hQ3
            have HF3 := Lib.hid hF3
            clear hP3 hD3 hQ3 hF3 HR d1 d2 d7 d8
            go_wp2_with fail
            go_meet
            exact ⟨s, hlen, HP3.out, HD3.out, HQ3.out, HF3.out⟩
      case rest =>
        clear hP3 hD3 hQ3 hF3 z0 hlen
        obtain ⟨s, hlen, hP, hD, hQ, hF⟩ := hcut
        obtain ⟨⟨x0, x1, x2, x3⟩, xc, hH1, hH2⟩ := both_has (g2 := g2) (r := r) (k1, k2) HOK.out hP
        obtain ⟨⟨y0, y1⟩, yc, hW1, hW2⟩ := both_who (g2 := g2) (r := r) (a0, a1, a2, a3) HAOK.out hP
        have HH1 := Lib.hid fun W (h : Fr [] _ W) => hH1 W (hP.fr0 h)
        have HH2 := Lib.hid fun W (h : Fr [] _ W) => hH2 W (hD.fr0 h)
        have HW1 := Lib.hid fun W (h : Fr [] _ W) => hW1 W (hP.fr0 h)
        have HW2 := Lib.hid fun W (h : Fr [] _ W) => hW2 W (hD.fr0 h)
        have HFr1 := Lib.hid fun W (h : Fr [] _ W) => ex_free (hP.fr0 h)
        have HFr2 := Lib.hid fun W (h : Fr [] _ W) => dfree (hD.fr0 h)
        obtain ⟨C, hC⟩ : ∃ C : Int, (s.length : Int) - (cnt s : Nat) = C := ⟨_, rfl⟩
        rw [hC] at HFr1 HFr2
        have heq0 := fun W => eq_ad (x0, x1, x2, x3) (x0, x1, x2, x3) W
        rw [show adEq (x0, x1, x2, x3) (x0, x1, x2, x3) = true by simp [adEq]] at heq0
        unfold adC adr at HH1 HH2 HW1 HW2 heq0
        unfold kyC at HH1 HH2 HW1 HW2
        simp only at HH1 HH2 HW1 HW2 heq0
        have HEq := Lib.hid heq0
        have hjb : (j : Int) ≤ 400 := by omega
        have HLn := Lib.hid hlen
        have HP := Lib.hid hP
        have HD := Lib.hid hD
        have HQ := Lib.hid hQ
        have HFr := Lib.hid hF
        have HR : Hid (∀ W, Fr [] wc W → W.cell? ⟨bb, off + j * 7 + 1, none⟩ = some (.int .i64 k1) ∧ W.cell? ⟨bb, off + j * 7 + 1 + 1, none⟩ = some (.int .i64 k2) ∧ W.cell? ⟨bb, off + j * 7 + 3, none⟩ = some (.int .u8 a0) ∧ W.cell? ⟨bb, off + j * 7 + 3 + 1, none⟩ = some (.int .u8 a1) ∧ W.cell? ⟨bb, off + j * 7 + 3 + 2, none⟩ = some (.int .u8 a2) ∧ W.cell? ⟨bb, off + j * 7 + 3 + 3, none⟩ = some (.int .u8 a3) ∧ W.cell? ⟨q, 0, none⟩ = some (.int .i64 k1) ∧ W.cell? ⟨q, 1, none⟩ = some (.int .i64 k2)) := Lib.hid fun W h => by
          have hx := HFr.out.trans h
          have hb := h.blk HQ.out (by simp)
          exact ⟨HC.out _ hx 1 _ rfl, HC.out _ hx 2 _ rfl, HC.out _ hx 3 _ rfl, HC.out _ hx 4 _ rfl, HC.out _ hx 5 _ rfl, HC.out _ hx 6 _ rfl, hb.c 0 _ rfl, hb.c 1 _ rfl⟩
        obtain ⟨d1, d2, d3, d4, d5, d6, d7, d8⟩ := HR.out wc (Fr.refl _ _)
        have hG0 : Fr [] wc wc := Fr.refl _ _
        clear hH1 hH2 hW1 hW2 hC heq0 hP hD hQ hF hlen
        go_wp2_with fail
        refine (HH1.out _ hG0).mono ?_
        rintro e v0 ⟨rfl, hv0⟩
        have hA0 := (hG0.trans hv0).alloc (.cells #[.int .u8 x0, .int .u8 x1, .int .u8 x2, .int .u8 x3] 23 (0, 0))
        have hN0 := Blk.new v0 #[.int .u8 x0, .int .u8 x1, .int .u8 x2, .int .u8 x3] 23
        obtain ⟨V0, hV0⟩ : ∃ W, v0.alloc (.cells #[.int .u8 x0, .int .u8 x1, .int .u8 x2, .int .u8 x3] 23 (0, 0)) = W := ⟨_, rfl⟩
        have hE0 : Fr [] wc V0 := by rw [← hV0]; exact hv0.alloc _
        clear d1 d2 d3 d4 d5 d6 d7 d8
        rw [hV0] at hA0 hN0
        obtain ⟨d1, d2, d3, d4, d5, d6, d7, d8⟩ := HR.out V0 hA0
        go_upto_region 23 with fail
        have hG1 : Fr [] wc V0 := hA0
        obtain ⟨r0, hr0⟩ : ∃ r, v0.heap.size = r := ⟨_, rfl⟩
        rw [hr0] at hN0 ⊢
        clear hV0 hr0 hA0 hv0
        go_wp2_with fail
        refine (HH2.out _ hG1).mono ?_
        rintro e v1 ⟨rfl, hv1⟩
        have hA1 := (hG1.trans hv1).alloc (.cells #[.int .u8 x0, .int .u8 x1, .int .u8 x2, .int .u8 x3] 23 (0, 0))
        have hN1 := Blk.new v1 #[.int .u8 x0, .int .u8 x1, .int .u8 x2, .int .u8 x3] 23
        obtain ⟨V1, hV1⟩ : ∃ W, v1.alloc (.cells #[.int .u8 x0, .int .u8 x1, .int .u8 x2, .int .u8 x3] 23 (0, 0)) = W := ⟨_, rfl⟩
        have hE1 : Fr [] V0 V1 := by rw [← hV1]; exact hv1.alloc _
        clear d1 d2 d3 d4 d5 d6 d7 d8
        rw [hV1] at hA1 hN1
        obtain ⟨d1, d2, d3, d4, d5, d6, d7, d8⟩ := HR.out V1 hA1
        go_upto_region 24 with fail
        have hG2 : Fr [] wc V1 := hA1
        obtain ⟨r1, hr1⟩ : ∃ r, v1.heap.size = r := ⟨_, rfl⟩
        rw [hr1] at hN1 ⊢
        clear hV1 hr1 hA1 hv1
        have hN0 := hE1.blk hN0 (by simp)
        go_wp2_with fail
        refine (HW1.out _ hG2).mono ?_
        rintro e v2 ⟨rfl, hv2⟩
        have hA2 := (hG2.trans hv2).alloc (.cells #[.int .i64 y0, .int .i64 y1] 36 (0, 0))
        have hN2 := Blk.new v2 #[.int .i64 y0, .int .i64 y1] 36
        obtain ⟨V2, hV2⟩ : ∃ W, v2.alloc (.cells #[.int .i64 y0, .int .i64 y1] 36 (0, 0)) = W := ⟨_, rfl⟩
        have hE2 : Fr [] V1 V2 := by rw [← hV2]; exact hv2.alloc _
        clear d1 d2 d3 d4 d5 d6 d7 d8
        rw [hV2] at hA2 hN2
        obtain ⟨d1, d2, d3, d4, d5, d6, d7, d8⟩ := HR.out V2 hA2
        go_upto_region 25 with fail
        have hG3 : Fr [] wc V2 := hA2
        obtain ⟨r2, hr2⟩ : ∃ r, v2.heap.size = r := ⟨_, rfl⟩
        rw [hr2] at hN2 ⊢
        clear hV2 hr2 hA2 hv2
        have hN0 := hE2.blk hN0 (by simp)
        have hN1 := hE2.blk hN1 (by simp)
        go_wp2_with fail
        refine (HW2.out _ hG3).mono ?_
        rintro e v3 ⟨rfl, hv3⟩
        have hA3 := (hG3.trans hv3).alloc (.cells #[.int .i64 y0, .int .i64 y1] 45 (0, 0))
        have hN3 := Blk.new v3 #[.int .i64 y0, .int .i64 y1] 45
        obtain ⟨V3, hV3⟩ : ∃ W, v3.alloc (.cells #[.int .i64 y0, .int .i64 y1] 45 (0, 0)) = W := ⟨_, rfl⟩
        have hE3 : Fr [] V2 V3 := by rw [← hV3]; exact hv3.alloc _
        clear d1 d2 d3 d4 d5 d6 d7 d8
        rw [hV3] at hA3 hN3
        obtain ⟨d1, d2, d3, d4, d5, d6, d7, d8⟩ := HR.out V3 hA3
        go_upto_region 26 with fail
        have hG4 : Fr [] wc V3 := hA3
        obtain ⟨r3, hr3⟩ : ∃ r, v3.heap.size = r := ⟨_, rfl⟩
        rw [hr3] at hN3 ⊢
        clear hV3 hr3 hA3 hv3
        have hN0 := hE3.blk hN0 (by simp)
        have hN1 := hE3.blk hN1 (by simp)
        have hN2 := hE3.blk hN2 (by simp)
        have HN := Lib.hid (hE3.trans (Fr.refl [] V3))
        have k00 : V3.cell? ⟨r0, 0, none⟩ = some (.int .u8 x0) := hN0.c 0 _ rfl
        have k01 : V3.cell? ⟨r0, 1, none⟩ = some (.int .u8 x1) := hN0.c 1 _ rfl
        have k02 : V3.cell? ⟨r0, 2, none⟩ = some (.int .u8 x2) := hN0.c 2 _ rfl
        have k03 : V3.cell? ⟨r0, 3, none⟩ = some (.int .u8 x3) := hN0.c 3 _ rfl
        have k10 : V3.cell? ⟨r1, 0, none⟩ = some (.int .u8 x0) := hN1.c 0 _ rfl
        have k11 : V3.cell? ⟨r1, 1, none⟩ = some (.int .u8 x1) := hN1.c 1 _ rfl
        have k12 : V3.cell? ⟨r1, 2, none⟩ = some (.int .u8 x2) := hN1.c 2 _ rfl
        have k13 : V3.cell? ⟨r1, 3, none⟩ = some (.int .u8 x3) := hN1.c 3 _ rfl
        have k20 : V3.cell? ⟨r2, 0, none⟩ = some (.int .i64 y0) := hN2.c 0 _ rfl
        have k21 : V3.cell? ⟨r2, 1, none⟩ = some (.int .i64 y1) := hN2.c 1 _ rfl
        have k30 : V3.cell? ⟨r3, 0, none⟩ = some (.int .i64 y0) := hN3.c 0 _ rfl
        have k31 : V3.cell? ⟨r3, 1, none⟩ = some (.int .i64 y1) := hN3.c 1 _ rfl
        have heq := HEq.out
        clear d1 d2 d3 d4 d5 d6 d7 d8 hN0 hN1 hN2 hN3 hE0 hE1 hE2 hE3 HH1 HH2 HW1 HW2 HEq
        go_wp2_with fail
        refine (HFr1.out _ hG4).mono ?_
        rintro e w8 ⟨rfl, hG8⟩
        have hG9 := hG4.trans hG8
        clear k00 k01 k02 k03 k10 k11 k12 k13 k20 k21 k30 k31
        go_wp2_with fail
        refine (HFr2.out _ hG9).mono ?_
        rintro e w9 ⟨rfl, rfl⟩
        go_wp2_with fail
        have HP9 := Lib.hid (HP.out.fr0 hG9)
        have HD9 := Lib.hid (HD.out.fr0 hG9)
        have hF9 := HFr.out.trans hG9
        clear HP HD HQ HFr HR hG0 hG1 hG2 hG3 hG4 hG8 hG9 HFr1 HFr2 heq HN
        go_wp2_with fail
        go_roundw
        case rel => exact ⟨j + 1, s, by omega, by go_num, HLn.out, HP9.out, HD9.out, hF9⟩
        case measure => (simp [intOf]) <;> omega
    · skip
      have hge : ¬ (j : Int) < (len : Nat) := by omega
      clear hP hD hjl hj
      go_wp2_with fail
      refine (alive16 _).mono ?_
      rintro e w8 ⟨rfl, hG⟩
      go_wp2_with fail
      go_ret
      exact ⟨rfl, (hF.trans hG).below (Nat.le_refl _) (by simp)⟩
set_option maxRecDepth 100000 in
set_option maxHeartbeats 4000000 in
theorem poolPlays_walk (w : World) (b : Ad) (hb : AdOk b) (n : Int) (n0 : -9223372036854775808 ≤ n) (n1 : n ≤ 9223372036854775807) (a : Option Addr) (len cap : Nat) (l : List OpR) (hl : IsOps w a len cap l) :
    Calls Try.prog 5 #[.agg (adC b), .int .i64 n, .slice a len cap] w fun e w' => e = .returned (.bool true) ∧ Below w.heap.size w w' := by
  have hmax := hl.2.2.1
  have hcap := hl.2.1
  unfold maxLen at hmax
  by_cases h50 : len ≤ 400
  · by_cases hE : 1 ≤ n ∧ n ≤ 256 ∧ numb b + n ≤ 4294967296
    · obtain ⟨m, rfl⟩ : ∃ m : Nat, n = m := ⟨n.toNat, by omega⟩
      exact plays_small w b hb m a len cap l hl (by omega) (by omega) (by omega) h50
    · have hbad : n < 1 ∨ 256 < n ∨ 4294967296 < numb b + n := by omega
      have P1 := Lib.hid fun (W : World) => plnew_bad (w := W) b n hb n0 n1 hbad
      have P2 := Lib.hid fun (W : World) => dnew_bad (w := W) b n hb n0 n1 hbad
      have h51 : (len : Int) ≤ 400 := by omega
      obtain ⟨b0, b1, b2, b3⟩ := b
      unfold adC adr at P1 P2 ⊢
      simp only at P1 P2 ⊢
      clear hl hE hbad h50 hb
      go_enter Try.func5, Try.ntmps5
      have hB0 := Blk.new w #[.int .u8 b0, .int .u8 b1, .int .u8 b2, .int .u8 b3] 23
      have hF0 := ((Fr.refl [] w).alloc (.cells #[.int .u8 b0, .int .u8 b1, .int .u8 b2, .int .u8 b3] 23 (0, 0)))
      go_wp2_with fail
      refine (P1.out _).mono ?_
      rintro e w1 ⟨rfl, hF1⟩
      have hB1 := hF1.blk hB0 (by simp)
      have c0 : w1.cell? ⟨w.heap.size, 0, none⟩ = some (.int .u8 b0) := hB1.c 0 _ rfl
      have c1 : w1.cell? ⟨w.heap.size, 1, none⟩ = some (.int .u8 b1) := hB1.c 1 _ rfl
      have c2 : w1.cell? ⟨w.heap.size, 2, none⟩ = some (.int .u8 b2) := hB1.c 2 _ rfl
      have c3 : w1.cell? ⟨w.heap.size, 3, none⟩ = some (.int .u8 b3) := hB1.c 3 _ rfl
      go_wp2_with fail
      refine (P2.out _).mono ?_
      rintro e w2 ⟨rfl, hF2⟩
      have hF := (hF0.trans hF1).trans hF2
      clear c0 c1 c2 c3 hF0 hF1 hF2 hB0 hB1
      go_wp2_with fail
      refine (alive16 _).mono ?_
      rintro e w3 ⟨rfl, hF3⟩
      go_wp2_with fail
      go_ret
      exact ⟨rfl, (hF.trans hF3).below (Nat.le_refl _) (by simp)⟩
  · have h51 : (400 : Int) < len := by omega
    obtain ⟨b0, b1, b2, b3⟩ := b
    unfold adC adr
    simp only
    clear hl h50 hb
    go_enter Try.func5, Try.ntmps5
    go_wp2_with fail
    refine (alive16 _).mono ?_
    rintro e w3 ⟨rfl, hF3⟩
    go_wp2_with fail
    go_ret
    exact ⟨rfl, (((Fr.refl [] w).alloc _).trans hF3).below (Nat.le_refl _) (by simp)⟩
end Go.Proofs.Ytnenmgankgadcaa
