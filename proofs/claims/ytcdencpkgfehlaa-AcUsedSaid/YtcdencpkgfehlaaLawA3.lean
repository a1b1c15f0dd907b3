/- AcSame (printed by tools/gen_lawa3.py). -/
import Derived.Test.YtcdencpkgfehlaaStep7
import Derived.Test.YtcdencpkgfehlaaAcW
import Derived.Below
namespace Go.Proofs.Ytcdencpkgfehlaa
open Go.RowKit Go.Maps
set_option linter.unusedVariables false
def cn1 (most : Int) (xa xb : Nat) (last : Int) : Cn := { cn9 most xa xb with last := last }
/-- where a concentrator is behind j requests of one host by one name -/
def Same1 (w : World) (g xa xb : Nat) (h : Mc) (u : List UInt8) (j : Nat) : Prop := (j = 0 ∧ CnIs w g (cn1 5 xa xb 0) [] []) ∨ (1 ≤ j ∧ ∃ p, CnIs w g (cn1 5 xa xb 1) [⟨h, 1, u, false, p⟩] [])
theorem same_step {w : World} {g xa xb j : Nat} (h : Mc) (u : List UInt8) (hh : McOk h) (hne : h ≠ mc9) (hu : u.length ≤ 1000) (hS : Same1 w g xa xb h u j) :
    Calls Try.prog 24 #[.pointer (some ⟨g, 0, none⟩), .agg (ethC mc9 h 34915 (discB 25 0 (tgsB (padT h u)))), .int .i64 6] w fun e w' => (∃ q, e = .returned (.slice (some ⟨q, 0, none⟩) 1 1)) ∧ Same1 w' g xa xb h u (j + 1) ∧ Fr [g, xa, xb] w w' := by
  rcases hS with ⟨hj, hC⟩ | ⟨hj, p, hC⟩
  · refine (take_step h u hh hne hu rfl rfl hC (by unfold cn1; simp) (by simp) (by unfold cn1 cn9; simp)).mono ?_
    rintro e w' ⟨q, d, he, _, _, ⟨s, hs, _⟩ | ⟨_, hf, _⟩ | ⟨_, _, _, p, _, hCn, hF⟩⟩
    · cases hs
    · unfold cn1 cn9 ofCard at hf; simp at hf
    · exact ⟨⟨q, he⟩, Or.inr ⟨by omega, p, hCn⟩, hF⟩
  · refine (take_step h u hh hne hu rfl rfl hC (by unfold cn1; simp) (by simp) (by unfold cn1 cn9; simp)).mono ?_
    rintro e w' ⟨q, d, he, _, _, ⟨s, hs, _, hCn, hF⟩ | ⟨hn, _⟩ | ⟨hn, _⟩⟩
    · exact ⟨⟨q, he⟩, Or.inr ⟨by omega, p, hCn⟩, hF.mono (by simp)⟩
    · exact absurd ⟨rfl, rfl, rfl⟩ (hn ⟨h, 1, u, false, p⟩ (by simp))
    · exact absurd ⟨rfl, rfl, rfl⟩ (hn ⟨h, 1, u, false, p⟩ (by simp))
/-- another name has another session -/
theorem other_step {w : World} {g xa xb p : Nat} (h : Mc) (a b : List UInt8) (hh : McOk h) (hne : h ≠ mc9) (hu : b.length ≤ 1000) (hab : a ≠ b) (hC : CnIs w g (cn1 5 xa xb 1) [⟨h, 1, a, false, p⟩] []) :
    Calls Try.prog 24 #[.pointer (some ⟨g, 0, none⟩), .agg (ethC mc9 h 34915 (discB 25 0 (tgsB (padT h b)))), .int .i64 6] w fun e w' => (∃ q, e = .returned (.slice (some ⟨q, 0, none⟩) 1 1)) ∧ (∃ p2, CnIs w' g (cn1 5 xa xb 2) [⟨h, 1, a, false, p⟩, ⟨h, 2, b, false, p2⟩] []) ∧ Fr [g, xa, xb] w w' := by
  refine (take_step h b hh hne hu rfl rfl hC (by unfold cn1; simp) (by simp) (by unfold cn1 cn9; simp)).mono ?_
  rintro e w' ⟨q, d, he, _, _, ⟨s, hs, hf, _⟩ | ⟨_, hf, _⟩ | ⟨_, _, _, p2, _, hCn, hF⟩⟩
  · simp at hs
    subst hs
    exact absurd hf.2.1 hab
  · unfold cn1 cn9 ofCard at hf; simp at hf
  · exact ⟨⟨q, he⟩, ⟨p2, hCn⟩, hF⟩
theorem live1 {L : List Ses} {s : Ses} (h : L.Perm [s]) : L = [s] := List.perm_singleton.1 h
theorem live2 {L : List Ses} {s t : Ses} (h : L.Perm [s, t]) (hs : L.Pairwise fun a b => a.n < b.n) (hst : s.n < t.n) : L = [s, t] := by
  have hl := h.length_eq
  match L, hl with
  | [x, y], _ =>
    have hx : x = s ∨ x = t := by simpa using h.subset (show x ∈ [x, y] by simp)
    have hy : y = s ∨ y = t := by simpa using h.subset (show y ∈ [x, y] by simp)
    have hxy : x.n < y.n := by simpa using hs
    rcases hx with rfl | rfl
    · rcases hy with rfl | rfl
      · omega
      · rfl
    · rcases hy with rfl | rfl
      · omega
      · omega
set_option maxRecDepth 100000 in
set_option maxHeartbeats 16000000 in
theorem acSame_walk (w : World) (h : Mc) (hh : McOk h) (a : ByteArray) (sa : a.size ≤ 140737488351232) (b : ByteArray) (sb : b.size ≤ 140737488351232) (n : Int) (_ : -9223372036854775808 ≤ n) (_ : n ≤ 9223372036854775807) :
    Calls Try.prog 9 #[.agg (mcL h).toArray, .string a, .string b, .int .i64 n] w fun e w' => e = .returned (.bool true) ∧ Below w.heap.size w w' := by
  obtain ⟨a, rfl⟩ : ∃ l, a = B l := ⟨_, B_of a⟩
  obtain ⟨b, rfl⟩ : ∃ l, b = B l := ⟨_, B_of b⟩
  rw [B_size] at sa sb
  have AL := Lib.hid fun W => alive7 W
  have HH := Lib.hid hh
  have heq := fun W => eq_mac 9998 h mc9 W
  have PA := Lib.hid fun W (hu : a.length ≤ 1000) => padr_ok W h mc9 a hu
  have PB := Lib.hid fun W (hu : b.length ≤ 1000) => padr_ok W h mc9 b hu
  have SSH := Lib.hid fun W g xa xb j (hne : h ≠ mc9) (hu : a.length ≤ 1000) (hS : Same1 W g xa xb h a j) => same_step h a hh hne hu hS
  have SBH := Lib.hid fun W g xa xb j (hne : h ≠ mc9) (hu : b.length ≤ 1000) (hS : Same1 W g xa xb h b j) => same_step h b hh hne hu hS
  have OTH := Lib.hid fun W g xa xb p (hne : h ≠ mc9) (hu : b.length ≤ 1000) (hab : a ≠ b) (hC : CnIs W g (cn1 5 xa xb 1) [⟨h, 1, a, false, p⟩] []) => other_step h a b hh hne hu hab hC
  obtain ⟨eqb, heqb⟩ : ∃ e, mcEq h mc9 = e := ⟨_, rfl⟩
  rw [heqb] at heq
  have HEQ := Lib.hid heqb
  obtain ⟨h1, h2, h3, h4, h5, h6⟩ := h
  have hF := ((Fr.refl [] w).alloc (.cells #[.int .u8 h1, .int .u8 h2, .int .u8 h3, .int .u8 h4, .int .u8 h5, .int .u8 h6] 28 (0, 0))).alloc (.cells #[.int .u8 9, .int .u8 0, .int .u8 0, .int .u8 0, .int .u8 0, .int .u8 0] 28 (0, 0))
  have hNh := (Blk.new w #[.int .u8 h1, .int .u8 h2, .int .u8 h3, .int .u8 h4, .int .u8 h5, .int .u8 h6] 28).alloc (.cells #[.int .u8 9, .int .u8 0, .int .u8 0, .int .u8 0, .int .u8 0, .int .u8 0] 28 (0, 0))
  have hNm := Blk.new (w.alloc (.cells #[.int .u8 h1, .int .u8 h2, .int .u8 h3, .int .u8 h4, .int .u8 h5, .int .u8 h6] 28 (0, 0))) #[.int .u8 9, .int .u8 0, .int .u8 0, .int .u8 0, .int .u8 0, .int .u8 0] 28
  rw [show (w.alloc (.cells #[.int .u8 h1, .int .u8 h2, .int .u8 h3, .int .u8 h4, .int .u8 h5, .int .u8 h6] 28 (0, 0))).heap.size = w.heap.size + 1 by simp] at hNm
  have hsz : ((w.alloc (.cells #[.int .u8 h1, .int .u8 h2, .int .u8 h3, .int .u8 h4, .int .u8 h5, .int .u8 h6] 28 (0, 0))).alloc (.cells #[.int .u8 9, .int .u8 0, .int .u8 0, .int .u8 0, .int .u8 0, .int .u8 0] 28 (0, 0))).heap.size = w.heap.size + 2 := by simp
  have HF := Lib.hid hF
  have HNH := Lib.hid hNh
  have HNM := Lib.hid hNm
  have HSZ := Lib.hid hsz
  unfold mcL mc9 at heq PA PB
  simp only at heq PA PB
  unfold mc9 at SSH SBH OTH
  unfold mcL
  simp only
  clear hh heqb hF hNh hNm hsz
  by_cases hb : eqb = false ∧ (a.length : Int) + b.length ≤ 200 ∧ 1 ≤ n ∧ n ≤ 20
  · obtain ⟨he, hab, n1, n2⟩ := hb
    subst he
    have HAL : Hid (a.length ≤ 1000 ∧ b.length ≤ 1000) := Lib.hid (by omega)
    have HNE : Hid ((⟨h1, h2, h3, h4, h5, h6⟩ : Mc) ≠ mc9) := Lib.hid fun e => by have := HEQ.out; rw [(mcEq_iff _ _).2 e] at this; cases this
    have NW := Lib.hid fun W => cnew_ok (w := W) mc9 5 (by decide) (by decide)
    unfold mcL B at NW
    rw [show mc9 = ⟨9, 0, 0, 0, 0, 0⟩ from rfl] at NW
    simp only at NW
    go_enter Try.func9, Try.ntmps9
    go_wp2_with fail
    refine (NW.out _).mono ?_
    rintro e w1 ⟨g, xa, xb, rfl, hg, hxa, hxb, hC, hF1⟩
    have hgs : w.heap.size + 2 ≤ g ∧ w.heap.size + 2 ≤ xa ∧ w.heap.size + 2 ≤ xb := by rw [HSZ.out] at hg hxa hxb; exact ⟨hg, hxa, hxb⟩
    have bh := hF1.blk HNH.out (by simp)
    have bm := hF1.blk HNM.out (by simp)
    have hFw := HF.out.trans hF1
    obtain ⟨qh, hqh⟩ : ∃ q, w.heap.size = q := ⟨_, rfl⟩
    obtain ⟨qm, hqm⟩ : ∃ q, qh + 1 = q := ⟨_, rfl⟩
    rw [hqh] at bh bm hgs ⊢
    rw [hqm] at bm ⊢
    have HGS : Hid (qh ∉ [g, xa, xb] ∧ qm ∉ [g, xa, xb] ∧ w.heap.size ≤ g ∧ w.heap.size ≤ xa ∧ w.heap.size ≤ xb) := Lib.hid (by simp; omega)
    have hS0 : Same1 w1 g xa xb ⟨h1, h2, h3, h4, h5, h6⟩ a 0 := Or.inl ⟨rfl, hC⟩
    have HN1 := Lib.hid n1
    clear hg hxa hxb hF1 hqh hqm hgs NW hC
    go_wp2_with fail
    go_loopw [12] (fun iv wr => ∃ j : Nat, (j : Int) ≤ n ∧ iv = .int .i64 j ∧ Same1 wr g xa xb ⟨h1, h2, h3, h4, h5, h6⟩ a j ∧ Blk wr qh #[.int .u8 h1, .int .u8 h2, .int .u8 h3, .int .u8 h4, .int .u8 h5, .int .u8 h6] 28 ∧ Blk wr qm #[.int .u8 9, .int .u8 0, .int .u8 0, .int .u8 0, .int .u8 0, .int .u8 0] 28 ∧ Fr [] w wr) (fun iv _ => n.toNat - (intOf iv).toNat)
    case atStart => exact ⟨0, by omega, rfl, hS0, bh, bm, hFw⟩
    case round =>
      clear hS0 bh bm hFw
      obtain ⟨j, hj, rfl, hS, bh, bm, hF⟩ := hrel
      have HSJ := Lib.hid hS
      have HB := Lib.hid (And.intro bh (And.intro bm hF))
      obtain ⟨z0, z1, z2, z3, z4, z5, z6, z7, z8, z9, z10, z11⟩ : wr.cell? ⟨qh, 0, none⟩ = some (.int .u8 h1) ∧ wr.cell? ⟨qh, 1, none⟩ = some (.int .u8 h2) ∧ wr.cell? ⟨qh, 2, none⟩ = some (.int .u8 h3) ∧ wr.cell? ⟨qh, 3, none⟩ = some (.int .u8 h4) ∧ wr.cell? ⟨qh, 4, none⟩ = some (.int .u8 h5) ∧ wr.cell? ⟨qh, 5, none⟩ = some (.int .u8 h6) ∧ wr.cell? ⟨qm, 0, none⟩ = some (.int .u8 9) ∧ wr.cell? ⟨qm, 1, none⟩ = some (.int .u8 0) ∧ wr.cell? ⟨qm, 2, none⟩ = some (.int .u8 0) ∧ wr.cell? ⟨qm, 3, none⟩ = some (.int .u8 0) ∧ wr.cell? ⟨qm, 4, none⟩ = some (.int .u8 0) ∧ wr.cell? ⟨qm, 5, none⟩ = some (.int .u8 0) := ⟨bh.c 0 _ rfl, bh.c 1 _ rfl, bh.c 2 _ rfl, bh.c 3 _ rfl, bh.c 4 _ rfl, bh.c 5 _ rfl, bm.c 0 _ rfl, bm.c 1 _ rfl, bm.c 2 _ rfl, bm.c 3 _ rfl, bm.c 4 _ rfl, bm.c 5 _ rfl⟩
      have hjb : (j : Int) ≤ 20 := by omega
      by_cases hjl : (j : Int) < n
      · clear hS bh bm hF
        go_wp2_with fail
        refine (PA.out _ HAL.out.1).mono ?_
        rintro e w2 ⟨rfl, hF2⟩
        have ST := Lib.hid (SSH.out w2 g xa xb j HNE.out HAL.out.1 (by
          rcases HSJ.out with ⟨a1, a2⟩ | ⟨a1, p, a2⟩
          · exact Or.inl ⟨a1, a2.fr0 hF2⟩
          · exact Or.inr ⟨a1, p, a2.fr0 hF2⟩))
        have HB2 := Lib.hid (And.intro (hF2.blk HB.out.1 (by simp)) (And.intro (hF2.blk HB.out.2.1 (by simp)) (HB.out.2.2.trans hF2)))
        clear z0 z1 z2 z3 z4 z5 z6 z7 z8 z9 z10 z11 hF2
        go_wp2_with fail
        refine ST.out.mono ?_
        rintro e w3 ⟨⟨q, rfl⟩, hS3, hF3⟩
        have HR := Lib.hid (And.intro hS3 (And.intro (hF3.blk HB2.out.1 HGS.out.1) (And.intro (hF3.blk HB2.out.2.1 HGS.out.2.1) (HB2.out.2.2.sub hF3 (by
          have := HGS.out.2.2
          intro x hx
          simp at hx
          right
          omega)))))
        clear hS3 hF3 ST
        go_wp2_with fail
        go_roundw
        case rel => exact ⟨j + 1, by omega, by go_num, HR.out.1, HR.out.2.1, HR.out.2.2.1, HR.out.2.2.2⟩
        case measure => (simp [intOf]) <;> omega
      · have hjn : (j : Int) = n := by omega
        have hC1 : ∃ p, CnIs wr g (cn1 5 xa xb 1) [⟨⟨h1, h2, h3, h4, h5, h6⟩, 1, a, false, p⟩] [] := by
          rcases hS with ⟨a1, _⟩ | ⟨_, h⟩
          · have := HN1.out; omega
          · exact h
        obtain ⟨p, hC1⟩ := hC1
        have LV := Lib.hid (live_ok hC1 (by simp))
        have HC1 := Lib.hid hC1
        clear hS bh bm hF hC1 HSJ
        go_wp2_with fail
        refine LV.out.mono ?_
        rintro e w2 ⟨A, cap, L, rfl, hLp, hLs, hLa, hLc, hLm, hF2⟩
        obtain rfl := live1 hLp
        have hL1 : ([⟨⟨h1, h2, h3, h4, h5, h6⟩, 1, a, false, p⟩] : List Ses).length = 1 := rfl
        rw [hL1]
        have HC2 := Lib.hid (HC1.out.fr0 hF2)
        have HB2 := Lib.hid (And.intro (hF2.blk HB.out.1 (by simp)) (And.intro (hF2.blk HB.out.2.1 (by simp)) (HB.out.2.2.trans hF2)))
        clear z0 z1 z2 z3 z4 z5 z6 z7 z8 z9 z10 z11 LV hLp hLs hLa hLc hLm hF2 hL1 HB
        obtain ⟨z0, z1, z2, z3, z4, z5, z6, z7, z8, z9, z10, z11⟩ : w2.cell? ⟨qh, 0, none⟩ = some (.int .u8 h1) ∧ w2.cell? ⟨qh, 1, none⟩ = some (.int .u8 h2) ∧ w2.cell? ⟨qh, 2, none⟩ = some (.int .u8 h3) ∧ w2.cell? ⟨qh, 3, none⟩ = some (.int .u8 h4) ∧ w2.cell? ⟨qh, 4, none⟩ = some (.int .u8 h5) ∧ w2.cell? ⟨qh, 5, none⟩ = some (.int .u8 h6) ∧ w2.cell? ⟨qm, 0, none⟩ = some (.int .u8 9) ∧ w2.cell? ⟨qm, 1, none⟩ = some (.int .u8 0) ∧ w2.cell? ⟨qm, 2, none⟩ = some (.int .u8 0) ∧ w2.cell? ⟨qm, 3, none⟩ = some (.int .u8 0) ∧ w2.cell? ⟨qm, 4, none⟩ = some (.int .u8 0) ∧ w2.cell? ⟨qm, 5, none⟩ = some (.int .u8 0) := ⟨HB2.out.1.c 0 _ rfl, HB2.out.1.c 1 _ rfl, HB2.out.1.c 2 _ rfl, HB2.out.1.c 3 _ rfl, HB2.out.1.c 4 _ rfl, HB2.out.1.c 5 _ rfl, HB2.out.2.1.c 0 _ rfl, HB2.out.2.1.c 1 _ rfl, HB2.out.2.1.c 2 _ rfl, HB2.out.2.1.c 3 _ rfl, HB2.out.2.1.c 4 _ rfl, HB2.out.2.1.c 5 _ rfl⟩
        go_wp2_with fail
        refine (PB.out _ HAL.out.2).mono ?_
        rintro e w3 ⟨rfl, hF3⟩
        have HF3 := Lib.hid (HB2.out.2.2.trans hF3)
        have HC3 := Lib.hid (HC2.out.fr0 hF3)
        clear z0 z1 z2 z3 z4 z5 z6 z7 z8 z9 z10 z11 hF3
        by_cases hab2 : a = b
        · subst hab2
          have ST := Lib.hid (SBH.out w3 g xa xb 1 HNE.out HAL.out.2 (Or.inr ⟨Nat.le_refl _, p, HC3.out⟩))
          go_wp2_with fail
          refine ST.out.mono ?_
          rintro e w4 ⟨⟨q, rfl⟩, hS4, hF4⟩
          have hC4 : ∃ p, CnIs w4 g (cn1 5 xa xb 1) [⟨⟨h1, h2, h3, h4, h5, h6⟩, 1, a, false, p⟩] [] := by
            rcases hS4 with ⟨a1, _⟩ | ⟨_, h⟩
            · omega
            · exact h
          obtain ⟨p4, hC4⟩ := hC4
          have LV := Lib.hid (live_ok hC4 (by simp))
          have HF4 := Lib.hid (HF3.out.sub hF4 (by
            have := HGS.out.2.2
            intro x hx
            simp at hx
            right
            omega))
          clear hC4 hF4 ST hS4
          go_wp2_with fail
          refine LV.out.mono ?_
          rintro e w5 ⟨A, cap, L, rfl, hLp, hLs, hLa, hLc, hLm, hF5⟩
          obtain rfl := live1 hLp
          obtain ⟨q3, rfl, hq3, hcell⟩ := hLa 0 _ rfl
          have hLn : ([⟨⟨h1, h2, h3, h4, h5, h6⟩, 1, a, false, p4⟩] : List Ses).length = 1 := rfl
          rw [hLn] at hLc ⊢
          have HCL : Hid (∀ W, Fr [] w5 W → W.cell? ⟨q3, 6, none⟩ = some (.int .i64 1) ∧ W.cell? ⟨q3, 7, none⟩ = some (.string (B a))) := Lib.hid fun W hW => ⟨hcell W hW 6 _ rfl, hcell W hW 7 _ rfl⟩
          have HF5 := Lib.hid (HF4.out.trans hF5)
          clear LV hLp hLs hLa hLm hF5 hcell hLn
          go_wp2_with fail
          refine (AL.out _).mono ?_
          rintro e w6 ⟨rfl, hF6⟩
          obtain ⟨y6, y7⟩ := HCL.out _ hF6
          have HF6 := Lib.hid (HF5.out.trans hF6)
          clear hF6
          go_wp2_with fail
          go_ret
          exact ⟨rfl, HF6.out.below (Nat.le_refl _) (by simp)⟩
        · have ST := Lib.hid (OTH.out w3 g xa xb p HNE.out HAL.out.2 hab2 HC3.out)
          have hs0 : ¬ B a = B b := fun e => hab2 (B_inj.1 e)
          have hs1 : (B a == B b) = false := by show ((B a).data == (B b).data) = false; rw [beq_eq_false_iff_ne]; exact fun h => hs0 (ByteArray.ext h)
          have hlb : (a == b) = false := by simpa using hab2
          clear hab2
          go_wp2_with fail
          refine ST.out.mono ?_
          rintro e w4 ⟨⟨q, rfl⟩, ⟨p4, hC4⟩, hF4⟩
          have LV := Lib.hid (live_ok hC4 (by simp))
          have HF4 := Lib.hid (HF3.out.sub hF4 (by
            have := HGS.out.2.2
            intro x hx
            simp at hx
            right
            omega))
          clear hC4 hF4 ST
          go_wp2_with fail
          refine LV.out.mono ?_
          rintro e w5 ⟨A, cap, L, rfl, hLp, hLs, hLa, hLc, hLm, hF5⟩
          obtain rfl := live2 hLp hLs (show (1 : Int) < 2 by decide)
          obtain ⟨q3, rfl, hq3, hcell⟩ := hLa 0 _ rfl
          have hLn : ([⟨⟨h1, h2, h3, h4, h5, h6⟩, 1, a, false, p⟩, ⟨⟨h1, h2, h3, h4, h5, h6⟩, 2, b, false, p4⟩] : List Ses).length = 2 := rfl
          rw [hLn] at hLc ⊢
          have HCL : Hid (∀ W, Fr [] w5 W → W.cell? ⟨q3, 6, none⟩ = some (.int .i64 1) ∧ W.cell? ⟨q3, 7, none⟩ = some (.string (B a))) := Lib.hid fun W hW => ⟨hcell W hW 6 _ rfl, hcell W hW 7 _ rfl⟩
          have HF5 := Lib.hid (HF4.out.trans hF5)
          clear LV hLp hLs hLa hLm hF5 hcell hLn
          go_wp2_with fail
          refine (AL.out _).mono ?_
          rintro e w6 ⟨rfl, hF6⟩
          obtain ⟨y6, y7⟩ := HCL.out _ hF6
          have HF6 := Lib.hid (HF5.out.trans hF6)
          clear hF6
          go_wp2_with fail
          go_ret
          exact ⟨rfl, HF6.out.below (Nat.le_refl _) (by simp)⟩
  · have hcase : eqb = true ∨ (eqb = false ∧ (200 : Int) < (a.length : Int) + b.length) ∨ (eqb = false ∧ ¬ (200 : Int) < (a.length : Int) + b.length ∧ n < 1) ∨ (eqb = false ∧ ¬ (200 : Int) < (a.length : Int) + b.length ∧ ¬ n < 1 ∧ 20 < n) := by
      cases eqb with
      | true => exact Or.inl rfl
      | false => right; simp only [true_and] at hb ⊢; omega
    clear hb
    rcases hcase with rfl | ⟨rfl, hc⟩ | ⟨rfl, hc1, hc⟩ | ⟨rfl, hc1, hc2, hc⟩
    all_goals
      go_enter Try.func9, Try.ntmps9
      go_wp2_with fail
      refine (AL.out _).mono ?_
      rintro e w1 ⟨rfl, hF1⟩
      have hF2 := HF.out.trans hF1
      go_wp2_with fail
      go_ret
      exact ⟨rfl, hF2.below (Nat.le_refl _) (by simp)⟩
end Go.Proofs.Ytcdencpkgfehlaa
