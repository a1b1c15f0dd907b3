/- AcUsed (printed by tools/gen_lawa4.py). -/
import Derived.Test.YtcdencpkgfehlaaUsed7
import Derived.Test.YtcdencpkgfehlaaLawA3
import Derived.Test.YtcdencpkgfehlaaAcW
import Derived.Below
namespace Go.Proofs.Ytcdencpkgfehlaa
open Go.RowKit Go.Maps
set_option linter.unusedVariables false
/-- what the walk keeps: the two cards, its own, and that nothing older is touched -/
def KeepU (w : World) (qh qo qm : Nat) (h o : Mc) (W : World) : Prop := (qh < w.heap.size + 3 ∧ qo < w.heap.size + 3 ∧ qm < w.heap.size + 3) ∧ Blk W qh (mcL h).toArray 28 ∧ Blk W qo (mcL o).toArray 28 ∧ Blk W qm (mcL ⟨9, 0, 0, 0, 0, 0⟩).toArray 28 ∧ Fr [] w W
theorem KeepU.step {w W W' : World} {qh qo qm : Nat} {h o : Mc} {S : List Nat} (hk : KeepU w qh qo qm h o W) (hF : Fr S W W') (hS : ∀ x, x ∈ S → w.heap.size + 3 ≤ x) : KeepU w qh qo qm h o W' := by
  obtain ⟨⟨a, b, c⟩, d, e, f, k⟩ := hk
  refine ⟨⟨a, b, c⟩, hF.blk d (fun hx => ?_), hF.blk e (fun hx => ?_), hF.blk f (fun hx => ?_), k.sub hF (fun x hx => ?_)⟩
  · have := hS _ hx; omega
  · have := hS _ hx; omega
  · have := hS _ hx; omega
  · have := hS _ hx; right; omega
theorem KeepU.cells {w W : World} {qh qo qm : Nat} {h1 h2 h3 h4 h5 h6 o1 o2 o3 o4 o5 o6 : Int} (hk : KeepU w qh qo qm ⟨h1, h2, h3, h4, h5, h6⟩ ⟨o1, o2, o3, o4, o5, o6⟩ W) : W.cell? ⟨qh, 0, none⟩ = some (.int .u8 h1) ∧ W.cell? ⟨qh, 1, none⟩ = some (.int .u8 h2) ∧ W.cell? ⟨qh, 2, none⟩ = some (.int .u8 h3) ∧ W.cell? ⟨qh, 3, none⟩ = some (.int .u8 h4) ∧ W.cell? ⟨qh, 4, none⟩ = some (.int .u8 h5) ∧ W.cell? ⟨qh, 5, none⟩ = some (.int .u8 h6) ∧ W.cell? ⟨qo, 0, none⟩ = some (.int .u8 o1) ∧ W.cell? ⟨qo, 1, none⟩ = some (.int .u8 o2) ∧ W.cell? ⟨qo, 2, none⟩ = some (.int .u8 o3) ∧ W.cell? ⟨qo, 3, none⟩ = some (.int .u8 o4) ∧ W.cell? ⟨qo, 4, none⟩ = some (.int .u8 o5) ∧ W.cell? ⟨qo, 5, none⟩ = some (.int .u8 o6) ∧ W.cell? ⟨qm, 0, none⟩ = some (.int .u8 9) ∧ W.cell? ⟨qm, 1, none⟩ = some (.int .u8 0) ∧ W.cell? ⟨qm, 2, none⟩ = some (.int .u8 0) ∧ W.cell? ⟨qm, 3, none⟩ = some (.int .u8 0) ∧ W.cell? ⟨qm, 4, none⟩ = some (.int .u8 0) ∧ W.cell? ⟨qm, 5, none⟩ = some (.int .u8 0) := by
  obtain ⟨_, d, e, f, _⟩ := hk
  exact ⟨d.c 0 _ rfl, d.c 1 _ rfl, d.c 2 _ rfl, d.c 3 _ rfl, d.c 4 _ rfl, d.c 5 _ rfl, e.c 0 _ rfl, e.c 1 _ rfl, e.c 2 _ rfl, e.c 3 _ rfl, e.c 4 _ rfl, e.c 5 _ rfl, f.c 0 _ rfl, f.c 1 _ rfl, f.c 2 _ rfl, f.c 3 _ rfl, f.c 4 _ rfl, f.c 5 _ rfl⟩
set_option maxRecDepth 100000 in
set_option maxHeartbeats 16000000 in
theorem acUsed_walk (w : World) (h : Mc) (hh : McOk h) (o : Mc) (ho : McOk o) (data : ByteArray) (sd : data.size ≤ 140737488351232) :
    Calls Try.prog 10 #[.agg (mcL h).toArray, .agg (mcL o).toArray, .string data] w fun e w' => e = .returned (.bool true) ∧ Below w.heap.size w w' := by
  obtain ⟨d, rfl⟩ : ∃ l, data = B l := ⟨_, B_of data⟩
  rw [B_size] at sd
  have AL := Lib.hid fun W => alive7 W
  have heq1 := fun W => eq_mac 9998 h mc9 W
  have heq2 := fun W => eq_mac 9998 o h W
  have heq3 := fun W => eq_mac 9998 o mc9 W
  have heq4 := fun W => eq_mac 9998 h h W
  have heq5 := fun W => eq_mac 9998 o o W
  have heq6 := fun W => eq_id (h, 1) (h, 1) W
  rw [mcEq_self] at heq4 heq5
  rw [idEq_self] at heq6
  obtain ⟨eqb, heqb⟩ : ∃ e, mcEq h mc9 = e := ⟨_, rfl⟩
  obtain ⟨eqc, heqc⟩ : ∃ e, mcEq o h = e := ⟨_, rfl⟩
  obtain ⟨eqo, heqo⟩ : ∃ e, mcEq o mc9 = e := ⟨_, rfl⟩
  rw [heqb] at heq1
  rw [heqc] at heq2
  rw [heqo] at heq3
  have PA := Lib.hid fun W => padr_ok W h mc9 [117] (by simp)
  have PO := Lib.hid fun W => padr_ok W o mc9 [117] (by simp)
  have TP := Lib.hid fun W (hd : d.length ≤ 1400) => tput_ok (w := W) 0 1 d (by decide) (by decide) (by decide) (by decide) (by omega)
  have U1 := Lib.hid fun W g xa xb (hb : eqb = false) (hC : CnIs W g (cnV xa xb 0) [] []) => use1 h hh (fun e => by rw [(mcEq_iff _ _).2 e] at heqb; rw [hb] at heqb; cases heqb) hC
  have U2 := Lib.hid fun W g xa xb p (hb : eqb = false) (hC : CnIs W g (cnV xa xb 1) [⟨h, 1, [117], true, p⟩] []) => use2 h hh (fun e => by rw [(mcEq_iff _ _).2 e] at heqb; rw [hb] at heqb; cases heqb) hC
  have U3 := Lib.hid fun W g xa xb p2 (hb : eqo = false) (hc : eqc = false) (hC : CnIs W g (cnV xa xb 2) [⟨h, 2, [117], false, p2⟩] []) => use3 h o ho (fun e => by rw [(mcEq_iff _ _).2 e] at heqo; rw [hb] at heqo; cases heqo) (fun e => by rw [(mcEq_iff _ _).2 e] at heqc; rw [hc] at heqc; cases heqc) hC
  have U3o := Lib.hid fun W g xa xb p2 (hb : eqo = true) (hC : CnIs W g (cnV xa xb 2) [⟨h, 2, [117], false, p2⟩] []) => show Calls Try.prog 24 #[.pointer (some ⟨g, 0, none⟩), .agg (ethC mc9 o 34915 (discB 25 0 (tgsB (padT o [117])))), .int .i64 6] W fun e w' => (∃ v, e = .returned v) ∧ CnIs w' g (cnV xa xb 2) [⟨h, 2, [117], false, p2⟩] [] ∧ Fr [g, xa, xb] W w' from by
    have e := (mcEq_iff _ _).1 (heqo.trans hb)
    rw [e]
    exact use3o h _ hC
  have UD := Lib.hid fun W g xa xb p (hd : d.length ≤ 1400) (hC : CnIs W g (cnV xa xb 1) [⟨h, 1, [117], false, p⟩] []) => useD h hh d (by omega) hC
  have UN := Lib.hid fun W g xa xb p (hd : d.length ≤ 1400) (hc : eqc = false) (hC : CnIs W g (cnV xa xb 1) [⟨h, 1, [117], true, p⟩] []) => useN h o ho (fun e => by rw [(mcEq_iff _ _).2 e] at heqc; rw [hc] at heqc; cases heqc) d (by omega) hC
  have UC := Lib.hid fun W g xa xb p p2 (hC : CnIs W g (cnV xa xb 2) [⟨h, 1, [117], true, p⟩, ⟨h, 2, [117], false, p2⟩] []) => useC h hh hC
  have UG := Lib.hid fun W g xa xb p2 va (hC : CnIs W g { cnV xa xb 2 with gone := va } [⟨h, 2, [117], false, p2⟩] [(h, 1)]) => useG h hC
  clear hh ho heqb heqc heqo
  obtain ⟨EA, hEA⟩ : ∃ x, ethC mc9 h 34915 (discB 25 0 (tgsB (padT h [117]))) = x := ⟨_, rfl⟩
  obtain ⟨EO, hEO⟩ : ∃ x, ethC mc9 o 34915 (discB 25 0 (tgsB (padT o [117]))) = x := ⟨_, rfl⟩
  obtain ⟨D, hD⟩ : ∃ x, discB 0 1 d = x := ⟨_, rfl⟩
  rw [hEA] at PA U1 U2
  rw [hEO] at PO U3 U3o
  rw [hD] at TP UD UN
  clear hEA hEO hD
  obtain ⟨h1, h2, h3, h4, h5, h6⟩ := h
  obtain ⟨o1, o2, o3, o4, o5, o6⟩ := o
  have hF := (((Fr.refl [] w).alloc (.cells #[.int .u8 h1, .int .u8 h2, .int .u8 h3, .int .u8 h4, .int .u8 h5, .int .u8 h6] 28 (0, 0))).alloc (.cells #[.int .u8 o1, .int .u8 o2, .int .u8 o3, .int .u8 o4, .int .u8 o5, .int .u8 o6] 28 (0, 0))).alloc (.cells #[.int .u8 9, .int .u8 0, .int .u8 0, .int .u8 0, .int .u8 0, .int .u8 0] 28 (0, 0))
  have hNh := ((Blk.new w #[.int .u8 h1, .int .u8 h2, .int .u8 h3, .int .u8 h4, .int .u8 h5, .int .u8 h6] 28).alloc (.cells #[.int .u8 o1, .int .u8 o2, .int .u8 o3, .int .u8 o4, .int .u8 o5, .int .u8 o6] 28 (0, 0))).alloc (.cells #[.int .u8 9, .int .u8 0, .int .u8 0, .int .u8 0, .int .u8 0, .int .u8 0] 28 (0, 0))
  have hNo := (Blk.new (w.alloc (.cells #[.int .u8 h1, .int .u8 h2, .int .u8 h3, .int .u8 h4, .int .u8 h5, .int .u8 h6] 28 (0, 0))) #[.int .u8 o1, .int .u8 o2, .int .u8 o3, .int .u8 o4, .int .u8 o5, .int .u8 o6] 28).alloc (.cells #[.int .u8 9, .int .u8 0, .int .u8 0, .int .u8 0, .int .u8 0, .int .u8 0] 28 (0, 0))
  have hNm := Blk.new ((w.alloc (.cells #[.int .u8 h1, .int .u8 h2, .int .u8 h3, .int .u8 h4, .int .u8 h5, .int .u8 h6] 28 (0, 0))).alloc (.cells #[.int .u8 o1, .int .u8 o2, .int .u8 o3, .int .u8 o4, .int .u8 o5, .int .u8 o6] 28 (0, 0))) #[.int .u8 9, .int .u8 0, .int .u8 0, .int .u8 0, .int .u8 0, .int .u8 0] 28
  rw [show (w.alloc (.cells #[.int .u8 h1, .int .u8 h2, .int .u8 h3, .int .u8 h4, .int .u8 h5, .int .u8 h6] 28 (0, 0))).heap.size = w.heap.size + 1 by simp] at hNo
  rw [show ((w.alloc (.cells #[.int .u8 h1, .int .u8 h2, .int .u8 h3, .int .u8 h4, .int .u8 h5, .int .u8 h6] 28 (0, 0))).alloc (.cells #[.int .u8 o1, .int .u8 o2, .int .u8 o3, .int .u8 o4, .int .u8 o5, .int .u8 o6] 28 (0, 0))).heap.size = w.heap.size + 2 by simp] at hNm
  have HK0 : Hid (KeepU w w.heap.size (w.heap.size + 1) (w.heap.size + 2) ⟨h1, h2, h3, h4, h5, h6⟩ ⟨o1, o2, o3, o4, o5, o6⟩ (((w.alloc (.cells #[.int .u8 h1, .int .u8 h2, .int .u8 h3, .int .u8 h4, .int .u8 h5, .int .u8 h6] 28 (0, 0))).alloc (.cells #[.int .u8 o1, .int .u8 o2, .int .u8 o3, .int .u8 o4, .int .u8 o5, .int .u8 o6] 28 (0, 0))).alloc (.cells #[.int .u8 9, .int .u8 0, .int .u8 0, .int .u8 0, .int .u8 0, .int .u8 0] 28 (0, 0)))) := Lib.hid ⟨⟨by omega, by omega, by omega⟩, hNh, hNo, hNm, hF⟩
  have HSZ : Hid ((((w.alloc (.cells #[.int .u8 h1, .int .u8 h2, .int .u8 h3, .int .u8 h4, .int .u8 h5, .int .u8 h6] 28 (0, 0))).alloc (.cells #[.int .u8 o1, .int .u8 o2, .int .u8 o3, .int .u8 o4, .int .u8 o5, .int .u8 o6] 28 (0, 0))).alloc (.cells #[.int .u8 9, .int .u8 0, .int .u8 0, .int .u8 0, .int .u8 0, .int .u8 0] 28 (0, 0))).heap.size = w.heap.size + 3) := Lib.hid (by simp)
  have HF0 := Lib.hid hF
  unfold mcL mc9 at heq1 heq3
  unfold mcL at heq2 heq4 heq5
  unfold idC idL mcL at heq6
  unfold mcL mc9 B at PA PO
  unfold ethC mc9 at UD UN
  unfold idC idL at UD UC
  unfold mcL at UD UC
  unfold mcL
  simp only [List.cons_append, List.nil_append] at heq1 heq2 heq3 heq4 heq5 heq6 PA PO UD UN UC
  simp only
  clear hF hNh hNo hNm
  by_cases hb : eqb = false ∧ (d.length : Int) ≤ 1400 ∧ eqc = false
  · obtain ⟨hb1, hdl, hc1⟩ := hb
    subst hb1 hc1
    have HDL : Hid (d.length ≤ 1400) := Lib.hid (by omega)
    have NW := Lib.hid fun W => cnew_ok (w := W) mc9 5 (by decide) (by decide)
    unfold mcL B at NW
    rw [show mc9 = ⟨9, 0, 0, 0, 0, 0⟩ from rfl] at NW
    simp only at NW
    go_enter Try.func10, Try.ntmps10
    go_wp2_with fail
    refine (NW.out _).mono ?_
    rintro e w1 ⟨g, xa, xb, rfl, hg, hxa, hxb, hC, hF1⟩
    have hgs : w.heap.size + 3 ≤ g ∧ w.heap.size + 3 ≤ xa ∧ w.heap.size + 3 ≤ xb := by rw [HSZ.out] at hg hxa hxb; exact ⟨hg, hxa, hxb⟩
    have HK1 := Lib.hid (HK0.out.step hF1 (by simp))
    have HS3 : Hid (∀ x, x ∈ [g, xa, xb] → w.heap.size + 3 ≤ x) := Lib.hid (by
      intro x hx
      simp at hx
      omega)
    have HSG : Hid (∀ x, x ∈ [g] → w.heap.size + 3 ≤ x) := Lib.hid (by
      intro x hx
      simp at hx
      omega)
    have HW1 : Hid (w.heap.size + 3 ≤ w1.heap.size) := Lib.hid (by have := hF1.size; have := HSZ.out; omega)
    obtain ⟨qh, hqh⟩ : ∃ q, w.heap.size = q := ⟨_, rfl⟩
    obtain ⟨qo, hqo⟩ : ∃ q, qh + 1 = q := ⟨_, rfl⟩
    obtain ⟨qm, hqm⟩ : ∃ q, qo + 1 = q := ⟨_, rfl⟩
    have HK1' : Hid (KeepU w qh qo qm ⟨h1, h2, h3, h4, h5, h6⟩ ⟨o1, o2, o3, o4, o5, o6⟩ w1) := Lib.hid (by rw [← hqm, ← hqo, ← hqh]; exact HK1.out)
    rw [hqh, hqo, hqm]
    have HC1 : Hid (CnIs w1 g (cnV xa xb 0) [] []) := Lib.hid hC
    clear hg hxa hxb hF1 hgs hqh hqo hqm NW hC HK0 HK1 HSZ HF0
    obtain ⟨z0, z1, z2, z3, z4, z5, z6, z7, z8, z9, z10, z11, z12, z13, z14, z15, z16, z17⟩ := HK1'.out.cells
    go_wp2_with fail
    refine (PA.out _).mono ?_
    rintro e w2 ⟨rfl, hF2⟩
    have HK2 := Lib.hid (HK1'.out.step hF2 (by simp))
    have HU1 := Lib.hid (U1.out w2 g xa xb (by simp) (HC1.out.fr0 hF2))
    have HW2 : Hid (w.heap.size + 3 ≤ w2.heap.size) := Lib.hid (Nat.le_trans HW1.out hF2.size)
    clear z0 z1 z2 z3 z4 z5 z6 z7 z8 z9 z10 z11 z12 z13 z14 z15 z16 z17 hF2 U1 HC1 HK1'
    go_wp2_with fail
    refine HU1.out.mono ?_
    rintro e w3 ⟨⟨q0, rfl⟩, ⟨p, hp, hC⟩, hF3⟩
    have HK3 := Lib.hid (HK2.out.step hF3 HS3.out)
    have HC3 := Lib.hid hC
    have HSP : Hid (∀ x, x ∈ [p] → w.heap.size + 3 ≤ x) := Lib.hid (by
      have := HW2.out
      intro x hx
      simp at hx
      omega)
    clear hF3 hp hC HU1 HK2
    go_wp2_with fail
    refine (TP.out _ HDL.out).mono ?_
    rintro e w4 ⟨rfl, hF4⟩
    have HK4 := Lib.hid (HK3.out.step hF4 (by simp))
    have HU2 := Lib.hid (UD.out w4 g xa xb p HDL.out (HC3.out.fr0 hF4))
    clear hF4 HC3 HK3 UD
    obtain ⟨z0, z1, z2, z3, z4, z5, z6, z7, z8, z9, z10, z11, z12, z13, z14, z15, z16, z17⟩ := HK4.out.cells
    go_wp2_with fail
    refine HU2.out.mono ?_
    rintro e w5 ⟨rfl, hC, hF5⟩
    have HK5 := Lib.hid (HK4.out.step hF5 HSP.out)
    have hFa := (Fr.refl [] w5).alloc (.cells #[.int .u8 h1, .int .u8 h2, .int .u8 h3, .int .u8 h4, .int .u8 h5, .int .u8 h6, .int .i64 1] 61 (0, 0))
    have hNx := Blk.new w5 #[.int .u8 h1, .int .u8 h2, .int .u8 h3, .int .u8 h4, .int .u8 h5, .int .u8 h6, .int .i64 1] 61
    obtain ⟨qx, hqx⟩ : ∃ q, w5.heap.size = q := ⟨_, rfl⟩
    have HQX : Hid (qx ∉ [g, xa, xb] ∧ qx ∉ [g]) := Lib.hid (by
      have a := hC.st.lt
      have b := hC.hM.lt
      have c := hC.tM.lt
      simp only [cnV] at b c
      simp
      omega)
    obtain ⟨W5, hW5⟩ : ∃ W, w5.alloc (.cells #[.int .u8 h1, .int .u8 h2, .int .u8 h3, .int .u8 h4, .int .u8 h5, .int .u8 h6, .int .i64 1] 61 (0, 0)) = W := ⟨_, rfl⟩
    rw [hW5] at hFa hNx
    rw [hqx] at hNx
    have HK5a := Lib.hid (HK5.out.step hFa (by simp))
    have HX5 := Lib.hid hNx
    have HU3 := Lib.hid (UN.out W5 g xa xb p HDL.out (by simp) (hC.fr0 hFa))
    clear z0 z1 z2 z3 z4 z5 z6 z7 z8 z9 z10 z11 z12 z13 z14 z15 z16 z17 hF5 hC hFa hNx UN HU2 HK5 HK4
    obtain ⟨z0, z1, z2, z3, z4, z5, z6, z7, z8, z9, z10, z11, z12, z13, z14, z15, z16, z17⟩ := HK5a.out.cells
    go_wp2_with fail
    refine HU3.out.mono ?_
    rintro e w6 ⟨rfl, hC, hF6⟩
    have HK6 := Lib.hid (HK5a.out.step hF6 (by simp))
    have HX6 := Lib.hid (hF6.blk HX5.out (by simp))
    have HC6 := Lib.hid hC
    have hFb := (Fr.refl [] w6).alloc (.cells #[.int .u8 0, .int .u8 0, .int .u8 0, .int .u8 0, .int .u8 0, .int .u8 0, .int .i64 0] 61 (0, 0))
    have HK6b := Lib.hid (HK6.out.step hFb (by simp))
    clear z0 z1 z2 z3 z4 z5 z6 z7 z8 z9 z10 z11 z12 z13 z14 z15 z16 z17 hF6 hFb hC hqx hW5 HU3 HX5 HK5a
    obtain ⟨z0, z1, z2, z3, z4, z5, z6, z7, z8, z9, z10, z11, z12, z13, z14, z15, z16, z17⟩ := HK6b.out.cells
    go_wp2_with fail
    refine (PA.out _).mono ?_
    rintro e w7 ⟨rfl, hF7a⟩
    have hF7 := ((Fr.refl [] w6).alloc (.cells #[.int .u8 0, .int .u8 0, .int .u8 0, .int .u8 0, .int .u8 0, .int .u8 0, .int .i64 0] 61 (0, 0))).trans hF7a
    have HK7 := Lib.hid (HK6.out.step hF7 (by simp))
    have HX7 := Lib.hid (hF7.blk HX6.out (by simp))
    have HU4 := Lib.hid (U2.out w7 g xa xb p (by simp) (HC6.out.fr0 hF7))
    clear z0 z1 z2 z3 z4 z5 z6 z7 z8 z9 z10 z11 z12 z13 z14 z15 z16 z17 hF7 hF7a HC6 HK6 HK6b HX6 U2
    go_wp2_with fail
    refine HU4.out.mono ?_
    rintro e w8 ⟨⟨q1, rfl⟩, ⟨p2, hC⟩, hF8⟩
    have HK8 := Lib.hid (HK7.out.step hF8 HS3.out)
    have HX8 := Lib.hid (hF8.blk HX7.out HQX.out.1)
    have HC8 := Lib.hid hC
    have LV := Lib.hid (live_ok hC (by simp))
    clear hF8 hC HU4 HK7 HX7
    go_wp2_with fail
    refine LV.out.mono ?_
    rintro e w9 ⟨A, cap, L, rfl, hLp, hLs, hLa, hLc, hLm, hF9⟩
    obtain rfl := live2 hLp hLs (show (1 : Int) < 2 by decide)
    obtain ⟨q3, rfl, hq3, hc0⟩ := hLa 0 _ rfl
    obtain ⟨q4, hq4e, hq4, hc1⟩ := hLa 1 _ rfl
    cases hq4e
    have hLn : ([⟨⟨h1, h2, h3, h4, h5, h6⟩, 1, [117], true, p⟩, ⟨⟨h1, h2, h3, h4, h5, h6⟩, 2, [117], false, p2⟩] : List Ses).length = 2 := rfl
    rw [hLn] at hLc ⊢
    have y8 : w9.cell? ⟨q3, 8, none⟩ = some (.bool true) := hc0 _ (Fr.refl [] w9) 8 _ rfl
    have y17 : w9.cell? ⟨q3, 17, none⟩ = some (.bool false) := hc1 _ (Fr.refl [] w9) 8 _ rfl
    have y15 : w9.cell? ⟨q3, 15, none⟩ = some (.int .i64 2) := hc1 _ (Fr.refl [] w9) 6 _ rfl
    have HK9 := Lib.hid (HK8.out.step hF9 (by simp))
    have HX9 := Lib.hid (hF9.blk HX8.out (by simp))
    have hC9 := HC8.out.fr0 hF9
    have HGL : Hid (∀ x, w9.heap.size ≤ x → x ∉ [g, xa, xb] ∧ x ∉ [g]) := Lib.hid (by
      have a := hC9.st.lt
      have b := hC9.hM.lt
      have c := hC9.tM.lt
      simp only [cnV] at b c
      intro x hx
      simp
      omega)
    have HU5 := Lib.hid (UC.out w9 g xa xb p p2 hC9)
    clear LV hLp hLs hLa hLm hF9 hc0 hc1 hLn hC9 HC8 HK8 HX8 UC hq3 hq4
    obtain ⟨z0, z1, z2, z3, z4, z5, z6, z7, z8, z9, z10, z11, z12, z13, z14, z15, z16, z17⟩ := HK9.out.cells
    obtain ⟨x0, x1, x2, x3, x4, x5, x6⟩ : w9.cell? ⟨qx, 0, none⟩ = some (.int .u8 h1) ∧ w9.cell? ⟨qx, 1, none⟩ = some (.int .u8 h2) ∧ w9.cell? ⟨qx, 2, none⟩ = some (.int .u8 h3) ∧ w9.cell? ⟨qx, 3, none⟩ = some (.int .u8 h4) ∧ w9.cell? ⟨qx, 4, none⟩ = some (.int .u8 h5) ∧ w9.cell? ⟨qx, 5, none⟩ = some (.int .u8 h6) ∧ w9.cell? ⟨qx, 6, none⟩ = some (.int .i64 1) := ⟨HX9.out.c 0 _ rfl, HX9.out.c 1 _ rfl, HX9.out.c 2 _ rfl, HX9.out.c 3 _ rfl, HX9.out.c 4 _ rfl, HX9.out.c 5 _ rfl, HX9.out.c 6 _ rfl⟩
    go_wp2_with fail
    refine HU5.out.mono ?_
    rintro e w10 ⟨q, dd, va, rfl, hq, hB, hC, hF10⟩
    have HK10 := Lib.hid (HK9.out.step hF10 HS3.out)
    have HX10 := Lib.hid (hF10.blk HX9.out HQX.out.1)
    have HQ := Lib.hid (HGL.out q hq)
    have HB10 := Lib.hid hB
    have HU6 := Lib.hid (UG.out w10 g xa xb p2 va hC)
    clear z0 z1 z2 z3 z4 z5 z6 z7 z8 z9 z10 z11 z12 z13 z14 z15 z16 z17 x0 x1 x2 x3 x4 x5 x6 y8 y17 y15 hq hB hC hF10 HU5 HK9 HX9 UG HGL
    go_wp2_with fail
    refine HU6.out.mono ?_
    rintro e w11 ⟨qg, gcap, rfl, hgc, hC, hgn, hF11⟩
    have HK11 := Lib.hid (HK10.out.step hF11 HSG.out)
    have HX11 := Lib.hid (hF11.blk HX10.out HQX.out.2)
    have HB11 := Lib.hid (hF11.blk HB10.out HQ.out.2)
    have HC11 := Lib.hid hC
    have HQG0 := Lib.hid hgn
    clear hC hgn hF11 HU6 HK10 HX10 HB10
    obtain ⟨z0, z1, z2, z3, z4, z5, z6, z7, z8, z9, z10, z11, z12, z13, z14, z15, z16, z17⟩ := HK11.out.cells
    go_wp2_with fail
    refine (PO.out _).mono ?_
    rintro e w12 ⟨rfl, hF12⟩
    have HK12 := Lib.hid (HK11.out.step hF12 (by simp))
    have HX12 := Lib.hid (hF12.blk HX11.out (by simp))
    have HB12 := Lib.hid (hF12.blk HB11.out (by simp))
    have HC12 := Lib.hid (HC11.out.fr0 hF12)
    have HG12 := Lib.hid hF12
    clear z0 z1 z2 z3 z4 z5 z6 z7 z8 z9 z10 z11 z12 z13 z14 z15 z16 z17 hF12 HK11 HX11 HB11 HC11
    cases eqo with
    | true =>
      have HU7 := Lib.hid (U3o.out w12 g xa xb p2 (by simp) HC12.out)
      clear U3 U3o
      go_wp2_with fail
      refine HU7.out.mono ?_
      rintro e w13 ⟨⟨v, rfl⟩, hC, hF13⟩
      have HK13 := Lib.hid (HK12.out.step hF13 HS3.out)
      have HX13 := Lib.hid (hF13.blk HX12.out HQX.out.1)
      have HB13 := Lib.hid (hF13.blk HB12.out HQ.out.1)
      have HG13 := Lib.hid ((HG12.out.mono (by simp)).trans hF13)
      have LV := Lib.hid (live_ok hC (by simp))
      clear hF13 hC HU7 HC12 HK12 HX12 HB12 HG12
      go_wp2_with fail
      refine LV.out.mono ?_
      rintro e w14 ⟨A, cap2, L, rfl, hLp, hLs, hLa, hLc, hLm, hF14⟩
      have HK14 := Lib.hid (HK13.out.step hF14 (by simp))
      have HX14 := Lib.hid (hF14.blk HX13.out (by simp))
      have HB14 := Lib.hid (hF14.blk HB13.out (by simp))
      have HFG := Lib.hid (HG13.out.trans (hF14.mono (by simp)))
      have HQG := HQG0
      have HFIN := Lib.hid HK14.out.2.2.2.2
      clear HK13 HX13 HB13 HG13
      obtain rfl := live1 hLp
      have hLn : ([⟨⟨h1, h2, h3, h4, h5, h6⟩, 2, [117], false, p2⟩] : List Ses).length = 1 := rfl
      rw [hLn] at hLc ⊢
      have HX : Hid (∀ W, Fr [] w14 W → (fun W => (W.cell? ⟨q, 0, none⟩ = some (.int .u8 h1) ∧ W.cell? ⟨q, 1, none⟩ = some (.int .u8 h2) ∧ W.cell? ⟨q, 2, none⟩ = some (.int .u8 h3) ∧ W.cell? ⟨q, 3, none⟩ = some (.int .u8 h4) ∧ W.cell? ⟨q, 4, none⟩ = some (.int .u8 h5) ∧ W.cell? ⟨q, 5, none⟩ = some (.int .u8 h6) ∧ W.cell? ⟨qh, 0, none⟩ = some (.int .u8 h1) ∧ W.cell? ⟨qh, 1, none⟩ = some (.int .u8 h2) ∧ W.cell? ⟨qh, 2, none⟩ = some (.int .u8 h3) ∧ W.cell? ⟨qh, 3, none⟩ = some (.int .u8 h4) ∧ W.cell? ⟨qh, 4, none⟩ = some (.int .u8 h5) ∧ W.cell? ⟨qh, 5, none⟩ = some (.int .u8 h6) ∧ W.cell? ⟨qo, 0, none⟩ = some (.int .u8 o1) ∧ W.cell? ⟨qo, 1, none⟩ = some (.int .u8 o2) ∧ W.cell? ⟨qo, 2, none⟩ = some (.int .u8 o3) ∧ W.cell? ⟨qo, 3, none⟩ = some (.int .u8 o4) ∧ W.cell? ⟨qo, 4, none⟩ = some (.int .u8 o5) ∧ W.cell? ⟨qo, 5, none⟩ = some (.int .u8 o6) ∧ W.cell? ⟨qm, 0, none⟩ = some (.int .u8 9) ∧ W.cell? ⟨qm, 1, none⟩ = some (.int .u8 0) ∧ W.cell? ⟨qm, 2, none⟩ = some (.int .u8 0) ∧ W.cell? ⟨qm, 3, none⟩ = some (.int .u8 0) ∧ W.cell? ⟨qm, 4, none⟩ = some (.int .u8 0) ∧ W.cell? ⟨qm, 5, none⟩ = some (.int .u8 0) ∧ W.cell? ⟨qx, 0, none⟩ = some (.int .u8 h1) ∧ W.cell? ⟨qx, 1, none⟩ = some (.int .u8 h2) ∧ W.cell? ⟨qx, 2, none⟩ = some (.int .u8 h3) ∧ W.cell? ⟨qx, 3, none⟩ = some (.int .u8 h4) ∧ W.cell? ⟨qx, 4, none⟩ = some (.int .u8 h5) ∧ W.cell? ⟨qx, 5, none⟩ = some (.int .u8 h6) ∧ W.cell? ⟨qx, 6, none⟩ = some (.int .i64 1) ∧ W.cell? ⟨qg, 0, none⟩ = some (.int .u8 h1) ∧ W.cell? ⟨qg, 1, none⟩ = some (.int .u8 h2) ∧ W.cell? ⟨qg, 2, none⟩ = some (.int .u8 h3) ∧ W.cell? ⟨qg, 3, none⟩ = some (.int .u8 h4) ∧ W.cell? ⟨qg, 4, none⟩ = some (.int .u8 h5) ∧ W.cell? ⟨qg, 5, none⟩ = some (.int .u8 h6) ∧ W.cell? ⟨qg, 6, none⟩ = some (.int .i64 1)) ∧ Fr [] w14 W) W) := Lib.hid fun W hW => by
        have hk := HK14.out.step hW (by simp)
        obtain ⟨k0, k1, k2, k3, k4, k5, k6, k7, k8, k9, k10, k11, k12, k13, k14, k15, k16, k17⟩ := hk.cells
        have bq := hW.blk HB14.out (by simp)
        have bx := hW.blk HX14.out (by simp)
        have hWg := HFG.out.trans (hW.mono (by simp))
        exact ⟨⟨bq.c 0 _ rfl, bq.c 1 _ rfl, bq.c 2 _ rfl, bq.c 3 _ rfl, bq.c 4 _ rfl, bq.c 5 _ rfl, k0, k1, k2, k3, k4, k5, k6, k7, k8, k9, k10, k11, k12, k13, k14, k15, k16, k17, bx.c 0 _ rfl, bx.c 1 _ rfl, bx.c 2 _ rfl, bx.c 3 _ rfl, bx.c 4 _ rfl, bx.c 5 _ rfl, bx.c 6 _ rfl, HQG.out _ hWg 0 _ rfl, HQG.out _ hWg 1 _ rfl, HQG.out _ hWg 2 _ rfl, HQG.out _ hWg 3 _ rfl, HQG.out _ hWg 4 _ rfl, HQG.out _ hWg 5 _ rfl, HQG.out _ hWg 6 _ rfl⟩, hW⟩
      clear LV hLp hLs hLa hLm hF14 hLn HK14 HX14 HB14 HFG HQG HQ HQX HS3 HSG HSP PA PO TP HDL HW1 HW2
      go_wp2_with fail
      refine wp_region_held_drew (S := (fun W => (W.cell? ⟨q, 0, none⟩ = some (.int .u8 h1) ∧ W.cell? ⟨q, 1, none⟩ = some (.int .u8 h2) ∧ W.cell? ⟨q, 2, none⟩ = some (.int .u8 h3) ∧ W.cell? ⟨q, 3, none⟩ = some (.int .u8 h4) ∧ W.cell? ⟨q, 4, none⟩ = some (.int .u8 h5) ∧ W.cell? ⟨q, 5, none⟩ = some (.int .u8 h6) ∧ W.cell? ⟨qh, 0, none⟩ = some (.int .u8 h1) ∧ W.cell? ⟨qh, 1, none⟩ = some (.int .u8 h2) ∧ W.cell? ⟨qh, 2, none⟩ = some (.int .u8 h3) ∧ W.cell? ⟨qh, 3, none⟩ = some (.int .u8 h4) ∧ W.cell? ⟨qh, 4, none⟩ = some (.int .u8 h5) ∧ W.cell? ⟨qh, 5, none⟩ = some (.int .u8 h6) ∧ W.cell? ⟨qo, 0, none⟩ = some (.int .u8 o1) ∧ W.cell? ⟨qo, 1, none⟩ = some (.int .u8 o2) ∧ W.cell? ⟨qo, 2, none⟩ = some (.int .u8 o3) ∧ W.cell? ⟨qo, 3, none⟩ = some (.int .u8 o4) ∧ W.cell? ⟨qo, 4, none⟩ = some (.int .u8 o5) ∧ W.cell? ⟨qo, 5, none⟩ = some (.int .u8 o6) ∧ W.cell? ⟨qm, 0, none⟩ = some (.int .u8 9) ∧ W.cell? ⟨qm, 1, none⟩ = some (.int .u8 0) ∧ W.cell? ⟨qm, 2, none⟩ = some (.int .u8 0) ∧ W.cell? ⟨qm, 3, none⟩ = some (.int .u8 0) ∧ W.cell? ⟨qm, 4, none⟩ = some (.int .u8 0) ∧ W.cell? ⟨qm, 5, none⟩ = some (.int .u8 0) ∧ W.cell? ⟨qx, 0, none⟩ = some (.int .u8 h1) ∧ W.cell? ⟨qx, 1, none⟩ = some (.int .u8 h2) ∧ W.cell? ⟨qx, 2, none⟩ = some (.int .u8 h3) ∧ W.cell? ⟨qx, 3, none⟩ = some (.int .u8 h4) ∧ W.cell? ⟨qx, 4, none⟩ = some (.int .u8 h5) ∧ W.cell? ⟨qx, 5, none⟩ = some (.int .u8 h6) ∧ W.cell? ⟨qx, 6, none⟩ = some (.int .i64 1) ∧ W.cell? ⟨qg, 0, none⟩ = some (.int .u8 h1) ∧ W.cell? ⟨qg, 1, none⟩ = some (.int .u8 h2) ∧ W.cell? ⟨qg, 2, none⟩ = some (.int .u8 h3) ∧ W.cell? ⟨qg, 3, none⟩ = some (.int .u8 h4) ∧ W.cell? ⟨qg, 4, none⟩ = some (.int .u8 h5) ∧ W.cell? ⟨qg, 5, none⟩ = some (.int .u8 h6) ∧ W.cell? ⟨qg, 6, none⟩ = some (.int .i64 1)) ∧ Fr [] w14 W)) (by kernel_rfl) ?_ (fun hHeld => ?_)
      · (try dsimp only); exact HX.out _ (Fr.refl [] w14).drew
      refine wpAnyH_ready (rs := [0]) (by kernel_rfl) (by simp) ?_
      refine AllReadyH.cons (o := _) rfl (fun K hK => ?_) AllReadyH.nil
      go_simp
      refine (AL.out _).mono ?_
      rintro e w15 ⟨rfl, hF15⟩
      (try go_wp2_with fail)
      refine hK.out _ _ ?_ (fun hHeld => ?_)
      · (try dsimp only); exact HX.out _ (Fr.trans (And.right hHeld) hF15)
      clear hK K
      try simp only [Act.put, List.setIfInBounds_toArray, List.set_cons_zero, List.set_cons_succ]
      refine take_yes 1 149 rfl rfl (by kernel_rfl) (by kernel_rfl) (by kernel_rfl) (fun _ _ _ h => h) (by rfl) (by assumption) (v := ?_) ?_ ?_
      rotate_left
      · intro w hSw; (try dsimp only at hSw); go_simp; (try with_reducible rfl)
      try simp only [Act.put, List.setIfInBounds_toArray, List.set_cons_zero, List.set_cons_succ]
      refine take_yes 2 150 rfl rfl (by kernel_rfl) (by kernel_rfl) (by kernel_rfl) (fun _ _ _ h => h) (by rfl) (by assumption) (v := ?_) ?_ ?_
      rotate_left
      · intro w hSw; (try dsimp only at hSw); go_simp; (try with_reducible rfl)
      try simp only [Act.put, List.setIfInBounds_toArray, List.set_cons_zero, List.set_cons_succ]
      refine take_yes 3 151 rfl rfl (by kernel_rfl) (by kernel_rfl) (by kernel_rfl) (fun _ _ _ h => h) (by rfl) (by assumption) (v := ?_) ?_ ?_
      rotate_left
      · intro w hSw; (try dsimp only at hSw); go_simp; (try with_reducible rfl)
      try simp only [Act.put, List.setIfInBounds_toArray, List.set_cons_zero, List.set_cons_succ]
      refine take_yes 4 152 rfl rfl (by kernel_rfl) (by kernel_rfl) (by kernel_rfl) (fun _ _ _ h => h) (by rfl) (by assumption) (v := ?_) ?_ ?_
      rotate_left
      · intro w hSw; (try dsimp only at hSw); go_simp; (try with_reducible rfl)
      try simp only [Act.put, List.setIfInBounds_toArray, List.set_cons_zero, List.set_cons_succ]
      refine take_yes 5 153 rfl rfl (by kernel_rfl) (by kernel_rfl) (by kernel_rfl) (fun _ _ _ h => h) (by rfl) (by assumption) (v := ?_) ?_ ?_
      rotate_left
      · intro w hSw; (try dsimp only at hSw); go_simp; (try with_reducible rfl)
      try simp only [Act.put, List.setIfInBounds_toArray, List.set_cons_zero, List.set_cons_succ]
      refine take_yes 6 154 rfl rfl (by kernel_rfl) (by kernel_rfl) (by kernel_rfl) (fun _ _ _ h => h) (by rfl) (by assumption) (v := ?_) ?_ ?_
      rotate_left
      · intro w hSw; (try dsimp only at hSw); go_simp; (try with_reducible rfl)
      try simp only [Act.put, List.setIfInBounds_toArray, List.set_cons_zero, List.set_cons_succ]
      refine take_yes 7 155 rfl rfl (by kernel_rfl) (by kernel_rfl) (by kernel_rfl) (fun _ _ _ h => h) (by rfl) (by assumption) (v := ?_) ?_ ?_
      rotate_left
      · intro w hSw; (try dsimp only at hSw); go_simp; (try with_reducible rfl)
      try simp only [Act.put, List.setIfInBounds_toArray, List.set_cons_zero, List.set_cons_succ]
      refine take_yes 8 156 rfl rfl (by kernel_rfl) (by kernel_rfl) (by kernel_rfl) (fun _ _ _ h => h) (by rfl) (by assumption) (v := ?_) ?_ ?_
      rotate_left
      · intro w hSw; (try dsimp only at hSw); go_simp; (try with_reducible rfl)
      try simp only [Act.put, List.setIfInBounds_toArray, List.set_cons_zero, List.set_cons_succ]
      refine take_yes 9 157 rfl rfl (by kernel_rfl) (by kernel_rfl) (by kernel_rfl) (fun _ _ _ h => h) (by rfl) (by assumption) (v := ?_) ?_ ?_
      rotate_left
      · intro w hSw; (try dsimp only at hSw); go_simp; (try with_reducible rfl)
      try simp only [Act.put, List.setIfInBounds_toArray, List.set_cons_zero, List.set_cons_succ]
      refine take_yes 10 158 rfl rfl (by kernel_rfl) (by kernel_rfl) (by kernel_rfl) (fun _ _ _ h => h) (by rfl) (by assumption) (v := ?_) ?_ ?_
      rotate_left
      · intro w hSw; (try dsimp only at hSw); go_simp; (try with_reducible rfl)
      try simp only [Act.put, List.setIfInBounds_toArray, List.set_cons_zero, List.set_cons_succ]
      refine take_yes 11 159 rfl rfl (by kernel_rfl) (by kernel_rfl) (by kernel_rfl) (fun _ _ _ h => h) (by rfl) (by assumption) (v := ?_) ?_ ?_
      rotate_left
      · intro w hSw; (try dsimp only at hSw); go_simp; (try with_reducible rfl)
      try simp only [Act.put, List.setIfInBounds_toArray, List.set_cons_zero, List.set_cons_succ]
      refine take_yes 12 160 rfl rfl (by kernel_rfl) (by kernel_rfl) (by kernel_rfl) (fun _ _ _ h => h) (by rfl) (by assumption) (v := ?_) ?_ ?_
      rotate_left
      · intro w hSw; (try dsimp only at hSw); go_simp; (try with_reducible rfl)
      try simp only [Act.put, List.setIfInBounds_toArray, List.set_cons_zero, List.set_cons_succ]
      refine take_yes 13 161 rfl rfl (by kernel_rfl) (by kernel_rfl) (by kernel_rfl) (fun _ _ _ h => h) (by rfl) (by assumption) (v := ?_) ?_ ?_
      rotate_left
      · intro w hSw; (try dsimp only at hSw); go_simp; (try with_reducible rfl)
      try simp only [Act.put, List.setIfInBounds_toArray, List.set_cons_zero, List.set_cons_succ]
      refine take_yes 14 162 rfl rfl (by kernel_rfl) (by kernel_rfl) (by kernel_rfl) (fun _ _ _ h => h) (by rfl) (by assumption) (v := ?_) ?_ ?_
      rotate_left
      · intro w hSw; (try dsimp only at hSw); go_simp; (try with_reducible rfl)
      try simp only [Act.put, List.setIfInBounds_toArray, List.set_cons_zero, List.set_cons_succ]
      refine take_yes 15 163 rfl rfl (by kernel_rfl) (by kernel_rfl) (by kernel_rfl) (fun _ _ _ h => h) (by rfl) (by assumption) (v := ?_) ?_ ?_
      rotate_left
      · intro w hSw; (try dsimp only at hSw); go_simp; (try with_reducible rfl)
      try simp only [Act.put, List.setIfInBounds_toArray, List.set_cons_zero, List.set_cons_succ]
      refine take_yes 16 164 rfl rfl (by kernel_rfl) (by kernel_rfl) (by kernel_rfl) (fun _ _ _ h => h) (by rfl) (by assumption) (v := ?_) ?_ ?_
      rotate_left
      · intro w hSw; (try dsimp only at hSw); go_simp; (try with_reducible rfl)
      try simp only [Act.put, List.setIfInBounds_toArray, List.set_cons_zero, List.set_cons_succ]
      refine take_yes 17 165 rfl rfl (by kernel_rfl) (by kernel_rfl) (by kernel_rfl) (fun _ _ _ h => h) (by rfl) (by assumption) (v := ?_) ?_ ?_
      rotate_left
      · intro w hSw; (try dsimp only at hSw); go_simp; (try with_reducible rfl)
      try simp only [Act.put, List.setIfInBounds_toArray, List.set_cons_zero, List.set_cons_succ]
      refine take_yes 18 166 rfl rfl (by kernel_rfl) (by kernel_rfl) (by kernel_rfl) (fun _ _ _ h => h) (by rfl) (by assumption) (v := ?_) ?_ ?_
      rotate_left
      · intro w hSw; (try dsimp only at hSw); go_simp; (try with_reducible rfl)
      try simp only [Act.put, List.setIfInBounds_toArray, List.set_cons_zero, List.set_cons_succ]
      refine take_yes 19 167 rfl rfl (by kernel_rfl) (by kernel_rfl) (by kernel_rfl) (fun _ _ _ h => h) (by rfl) (by assumption) (v := ?_) ?_ ?_
      rotate_left
      · intro w hSw; (try dsimp only at hSw); go_simp; (try with_reducible rfl)
      try simp only [Act.put, List.setIfInBounds_toArray, List.set_cons_zero, List.set_cons_succ]
      refine take_yes 20 168 rfl rfl (by kernel_rfl) (by kernel_rfl) (by kernel_rfl) (fun _ _ _ h => h) (by rfl) (by assumption) (v := ?_) ?_ ?_
      rotate_left
      · intro w hSw; (try dsimp only at hSw); go_simp; (try with_reducible rfl)
      try simp only [Act.put, List.setIfInBounds_toArray, List.set_cons_zero, List.set_cons_succ]
      refine take_yes 21 169 rfl rfl (by kernel_rfl) (by kernel_rfl) (by kernel_rfl) (fun _ _ _ h => h) (by rfl) (by assumption) (v := ?_) ?_ ?_
      rotate_left
      · intro w hSw; (try dsimp only at hSw); go_simp; (try with_reducible rfl)
      try simp only [Act.put, List.setIfInBounds_toArray, List.set_cons_zero, List.set_cons_succ]
      refine take_yes 22 170 rfl rfl (by kernel_rfl) (by kernel_rfl) (by kernel_rfl) (fun _ _ _ h => h) (by rfl) (by assumption) (v := ?_) ?_ ?_
      rotate_left
      · intro w hSw; (try dsimp only at hSw); go_simp; (try with_reducible rfl)
      try simp only [Act.put, List.setIfInBounds_toArray, List.set_cons_zero, List.set_cons_succ]
      refine take_yes 23 171 rfl rfl (by kernel_rfl) (by kernel_rfl) (by kernel_rfl) (fun _ _ _ h => h) (by rfl) (by assumption) (v := ?_) ?_ ?_
      rotate_left
      · intro w hSw; (try dsimp only at hSw); go_simp; (try with_reducible rfl)
      try simp only [Act.put, List.setIfInBounds_toArray, List.set_cons_zero, List.set_cons_succ]
      refine take_yes 24 172 rfl rfl (by kernel_rfl) (by kernel_rfl) (by kernel_rfl) (fun _ _ _ h => h) (by rfl) (by assumption) (v := ?_) ?_ ?_
      rotate_left
      · intro w hSw; (try dsimp only at hSw); go_simp; (try with_reducible rfl)
      try simp only [Act.put, List.setIfInBounds_toArray, List.set_cons_zero, List.set_cons_succ]
      refine take_yes 25 173 rfl rfl (by kernel_rfl) (by kernel_rfl) (by kernel_rfl) (fun _ _ _ h => h) (by rfl) (by assumption) (v := ?_) ?_ ?_
      rotate_left
      · intro w hSw; (try dsimp only at hSw); go_simp; (try with_reducible rfl)
      try simp only [Act.put, List.setIfInBounds_toArray, List.set_cons_zero, List.set_cons_succ]
      refine take_yes 26 174 rfl rfl (by kernel_rfl) (by kernel_rfl) (by kernel_rfl) (fun _ _ _ h => h) (by rfl) (by assumption) (v := ?_) ?_ ?_
      rotate_left
      · intro w hSw; (try dsimp only at hSw); go_simp; (try with_reducible rfl)
      try simp only [Act.put, List.setIfInBounds_toArray, List.set_cons_zero, List.set_cons_succ]
      refine take_yes 27 175 rfl rfl (by kernel_rfl) (by kernel_rfl) (by kernel_rfl) (fun _ _ _ h => h) (by rfl) (by assumption) (v := ?_) ?_ ?_
      rotate_left
      · intro w hSw; (try dsimp only at hSw); go_simp; (try with_reducible rfl)
      try simp only [Act.put, List.setIfInBounds_toArray, List.set_cons_zero, List.set_cons_succ]
      refine take_yes 28 176 rfl rfl (by kernel_rfl) (by kernel_rfl) (by kernel_rfl) (fun _ _ _ h => h) (by rfl) (by assumption) (v := ?_) ?_ ?_
      rotate_left
      · intro w hSw; (try dsimp only at hSw); go_simp; (try with_reducible rfl)
      try simp only [Act.put, List.setIfInBounds_toArray, List.set_cons_zero, List.set_cons_succ]
      refine take_yes 29 177 rfl rfl (by kernel_rfl) (by kernel_rfl) (by kernel_rfl) (fun _ _ _ h => h) (by rfl) (by assumption) (v := ?_) ?_ ?_
      rotate_left
      · intro w hSw; (try dsimp only at hSw); go_simp; (try with_reducible rfl)
      try simp only [Act.put, List.setIfInBounds_toArray, List.set_cons_zero, List.set_cons_succ]
      refine take_yes 30 178 rfl rfl (by kernel_rfl) (by kernel_rfl) (by kernel_rfl) (fun _ _ _ h => h) (by rfl) (by assumption) (v := ?_) ?_ ?_
      rotate_left
      · intro w hSw; (try dsimp only at hSw); go_simp; (try with_reducible rfl)
      try simp only [Act.put, List.setIfInBounds_toArray, List.set_cons_zero, List.set_cons_succ]
      refine take_yes 31 179 rfl rfl (by kernel_rfl) (by kernel_rfl) (by kernel_rfl) (fun _ _ _ h => h) (by rfl) (by assumption) (v := ?_) ?_ ?_
      rotate_left
      · intro w hSw; (try dsimp only at hSw); go_simp; (try with_reducible rfl)
      try simp only [Act.put, List.setIfInBounds_toArray, List.set_cons_zero, List.set_cons_succ]
      refine take_yes 32 180 rfl rfl (by kernel_rfl) (by kernel_rfl) (by kernel_rfl) (fun _ _ _ h => h) (by rfl) (by assumption) (v := ?_) ?_ ?_
      rotate_left
      · intro w hSw; (try dsimp only at hSw); go_simp; (try with_reducible rfl)
      try simp only [Act.put, List.setIfInBounds_toArray, List.set_cons_zero, List.set_cons_succ]
      refine take_yes 33 181 rfl rfl (by kernel_rfl) (by kernel_rfl) (by kernel_rfl) (fun _ _ _ h => h) (by rfl) (by assumption) (v := ?_) ?_ ?_
      rotate_left
      · intro w hSw; (try dsimp only at hSw); go_simp; (try with_reducible rfl)
      try simp only [Act.put, List.setIfInBounds_toArray, List.set_cons_zero, List.set_cons_succ]
      refine take_yes 34 182 rfl rfl (by kernel_rfl) (by kernel_rfl) (by kernel_rfl) (fun _ _ _ h => h) (by rfl) (by assumption) (v := ?_) ?_ ?_
      rotate_left
      · intro w hSw; (try dsimp only at hSw); go_simp; (try with_reducible rfl)
      try simp only [Act.put, List.setIfInBounds_toArray, List.set_cons_zero, List.set_cons_succ]
      refine take_no 35 183 rfl rfl (by kernel_rfl) (by kernel_rfl) (by kernel_rfl) (fun _ _ _ h => h) (by rfl) (by assumption) ?_
      try simp only [Act.put, List.setIfInBounds_toArray, List.set_cons_zero, List.set_cons_succ]
      refine take_no 36 184 rfl rfl (by kernel_rfl) (by kernel_rfl) (by kernel_rfl) (fun _ _ _ h => h) (by rfl) (by assumption) ?_
      try simp only [Act.put, List.setIfInBounds_toArray, List.set_cons_zero, List.set_cons_succ]
      refine take_no 37 185 rfl rfl (by kernel_rfl) (by kernel_rfl) (by kernel_rfl) (fun _ _ _ h => h) (by rfl) (by assumption) ?_
      try simp only [Act.put, List.setIfInBounds_toArray, List.set_cons_zero, List.set_cons_succ]
      refine take_no 38 186 rfl rfl (by kernel_rfl) (by kernel_rfl) (by kernel_rfl) (fun _ _ _ h => h) (by rfl) (by assumption) ?_
      try simp only [Act.put, List.setIfInBounds_toArray, List.set_cons_zero, List.set_cons_succ]
      refine take_no 39 187 rfl rfl (by kernel_rfl) (by kernel_rfl) (by kernel_rfl) (fun _ _ _ h => h) (by rfl) (by assumption) ?_
      try simp only [Act.put, List.setIfInBounds_toArray, List.set_cons_zero, List.set_cons_succ]
      refine take_no 40 188 rfl rfl (by kernel_rfl) (by kernel_rfl) (by kernel_rfl) (fun _ _ _ h => h) (by rfl) (by assumption) ?_
      try simp only [Act.put, List.setIfInBounds_toArray, List.set_cons_zero, List.set_cons_succ]
      refine take_no 41 189 rfl rfl (by kernel_rfl) (by kernel_rfl) (by kernel_rfl) (fun _ _ _ h => h) (by rfl) (by assumption) ?_
      try simp only [Act.put, List.setIfInBounds_toArray, List.set_cons_zero, List.set_cons_succ]
      refine take_no 42 190 rfl rfl (by kernel_rfl) (by kernel_rfl) (by kernel_rfl) (fun _ _ _ h => h) (by rfl) (by assumption) ?_
      try simp only [Act.put, List.setIfInBounds_toArray, List.set_cons_zero, List.set_cons_succ]
      refine take_no 43 191 rfl rfl (by kernel_rfl) (by kernel_rfl) (by kernel_rfl) (fun _ _ _ h => h) (by rfl) (by assumption) ?_
      try simp only [Act.put, List.setIfInBounds_toArray, List.set_cons_zero, List.set_cons_succ]
      refine take_no 44 192 rfl rfl (by kernel_rfl) (by kernel_rfl) (by kernel_rfl) (fun _ _ _ h => h) (by rfl) (by assumption) ?_
      try simp only [Act.put, List.setIfInBounds_toArray, List.set_cons_zero, List.set_cons_succ]
      refine take_no 45 193 rfl rfl (by kernel_rfl) (by kernel_rfl) (by kernel_rfl) (fun _ _ _ h => h) (by rfl) (by assumption) ?_
      try simp only [Act.put, List.setIfInBounds_toArray, List.set_cons_zero, List.set_cons_succ]
      refine take_no 46 194 rfl rfl (by kernel_rfl) (by kernel_rfl) (by kernel_rfl) (fun _ _ _ h => h) (by rfl) (by assumption) ?_
      try simp only [Act.put, List.setIfInBounds_toArray, List.set_cons_zero, List.set_cons_succ]
      refine take_no 47 195 rfl rfl (by kernel_rfl) (by kernel_rfl) (by kernel_rfl) (fun _ _ _ h => h) (by rfl) (by assumption) ?_
      try simp only [Act.put, List.setIfInBounds_toArray, List.set_cons_zero, List.set_cons_succ]
      refine take_no 48 196 rfl rfl (by kernel_rfl) (by kernel_rfl) (by kernel_rfl) (fun _ _ _ h => h) (by rfl) (by assumption) ?_
      try simp only [Act.put, List.setIfInBounds_toArray, List.set_cons_zero, List.set_cons_succ]
      refine take_no 49 197 rfl rfl (by kernel_rfl) (by kernel_rfl) (by kernel_rfl) (fun _ _ _ h => h) (by rfl) (by assumption) ?_
      try simp only [Act.put, List.setIfInBounds_toArray, List.set_cons_zero, List.set_cons_succ]
      refine take_no 50 198 rfl rfl (by kernel_rfl) (by kernel_rfl) (by kernel_rfl) (fun _ _ _ h => h) (by rfl) (by assumption) ?_
      try simp only [Act.put, List.setIfInBounds_toArray, List.set_cons_zero, List.set_cons_succ]
      refine take_no 51 199 rfl rfl (by kernel_rfl) (by kernel_rfl) (by kernel_rfl) (fun _ _ _ h => h) (by rfl) (by assumption) ?_
      try simp only [Act.put, List.setIfInBounds_toArray, List.set_cons_zero, List.set_cons_succ]
      refine take_no 52 200 rfl rfl (by kernel_rfl) (by kernel_rfl) (by kernel_rfl) (fun _ _ _ h => h) (by rfl) (by assumption) ?_
      try simp only [Act.put, List.setIfInBounds_toArray, List.set_cons_zero, List.set_cons_succ]
      refine take_no 53 201 rfl rfl (by kernel_rfl) (by kernel_rfl) (by kernel_rfl) (fun _ _ _ h => h) (by rfl) (by assumption) ?_
      try simp only [Act.put, List.setIfInBounds_toArray, List.set_cons_zero, List.set_cons_succ]
      refine take_no 54 202 rfl rfl (by kernel_rfl) (by kernel_rfl) (by kernel_rfl) (fun _ _ _ h => h) (by rfl) (by assumption) ?_
      try simp only [Act.put, List.setIfInBounds_toArray, List.set_cons_zero, List.set_cons_succ]
      refine take_yes 55 203 rfl rfl (by kernel_rfl) (by kernel_rfl) (by kernel_rfl) (fun _ _ _ h => h) (by rfl) (by assumption) (v := ?_) ?_ ?_
      rotate_left
      · intro w hSw; (try dsimp only at hSw); go_simp; (try with_reducible rfl)
      try simp only [Act.put, List.setIfInBounds_toArray, List.set_cons_zero, List.set_cons_succ]
      refine take_yes 56 204 rfl rfl (by kernel_rfl) (by kernel_rfl) (by kernel_rfl) (fun _ _ _ h => h) (by rfl) (by assumption) (v := ?_) ?_ ?_
      rotate_left
      · intro w hSw; (try dsimp only at hSw); go_simp; (try with_reducible rfl)
      try simp only [Act.put, List.setIfInBounds_toArray, List.set_cons_zero, List.set_cons_succ]
      refine take_yes 57 6 rfl rfl (by kernel_rfl) (by kernel_rfl) (by kernel_rfl) (fun _ _ _ h => h) (by rfl) (by assumption) (v := ?_) ?_ ?_
      rotate_left
      · intro w hSw; (try dsimp only at hSw); go_simp; (try with_reducible rfl)
      try simp only [Act.put, List.setIfInBounds_toArray, List.set_cons_zero, List.set_cons_succ]
      refine wpAnyH_done (by kernel_rfl) ?_ _
      go_wp2_with fail
      go_ret
      exact ⟨rfl, (HFIN.out.trans (And.right hHeld)).below (Nat.le_refl _) (by simp)⟩
    | false =>
      have HU7 := Lib.hid (U3.out w12 g xa xb p2 (by simp) (by simp) HC12.out)
      clear U3 U3o
      go_wp2_with fail
      refine HU7.out.mono ?_
      rintro e w13 ⟨⟨v, rfl⟩, ⟨p3, hC⟩, hF13⟩
      have HK13 := Lib.hid (HK12.out.step hF13 HS3.out)
      have HX13 := Lib.hid (hF13.blk HX12.out HQX.out.1)
      have HB13 := Lib.hid (hF13.blk HB12.out HQ.out.1)
      have HG13 := Lib.hid ((HG12.out.mono (by simp)).trans hF13)
      have LV := Lib.hid (live_ok hC (by simp))
      clear hF13 hC HU7 HC12 HK12 HX12 HB12 HG12
      go_wp2_with fail
      refine LV.out.mono ?_
      rintro e w14 ⟨A, cap2, L, rfl, hLp, hLs, hLa, hLc, hLm, hF14⟩
      have HK14 := Lib.hid (HK13.out.step hF14 (by simp))
      have HX14 := Lib.hid (hF14.blk HX13.out (by simp))
      have HB14 := Lib.hid (hF14.blk HB13.out (by simp))
      have HFG := Lib.hid (HG13.out.trans (hF14.mono (by simp)))
      have HQG := HQG0
      have HFIN := Lib.hid HK14.out.2.2.2.2
      clear HK13 HX13 HB13 HG13
      obtain rfl := live2 hLp hLs (show (2 : Int) < 3 by decide)
      obtain ⟨qL, rfl, hq4, hc1⟩ := hLa 1 _ rfl
      have hLn : ([⟨⟨h1, h2, h3, h4, h5, h6⟩, 2, [117], false, p2⟩, ⟨⟨o1, o2, o3, o4, o5, o6⟩, 3, [117], false, p3⟩] : List Ses).length = 2 := rfl
      rw [hLn] at hLc ⊢
      have HX : Hid (∀ W, Fr [] w14 W → (fun W => (W.cell? ⟨q, 0, none⟩ = some (.int .u8 h1) ∧ W.cell? ⟨q, 1, none⟩ = some (.int .u8 h2) ∧ W.cell? ⟨q, 2, none⟩ = some (.int .u8 h3) ∧ W.cell? ⟨q, 3, none⟩ = some (.int .u8 h4) ∧ W.cell? ⟨q, 4, none⟩ = some (.int .u8 h5) ∧ W.cell? ⟨q, 5, none⟩ = some (.int .u8 h6) ∧ W.cell? ⟨qh, 0, none⟩ = some (.int .u8 h1) ∧ W.cell? ⟨qh, 1, none⟩ = some (.int .u8 h2) ∧ W.cell? ⟨qh, 2, none⟩ = some (.int .u8 h3) ∧ W.cell? ⟨qh, 3, none⟩ = some (.int .u8 h4) ∧ W.cell? ⟨qh, 4, none⟩ = some (.int .u8 h5) ∧ W.cell? ⟨qh, 5, none⟩ = some (.int .u8 h6) ∧ W.cell? ⟨qo, 0, none⟩ = some (.int .u8 o1) ∧ W.cell? ⟨qo, 1, none⟩ = some (.int .u8 o2) ∧ W.cell? ⟨qo, 2, none⟩ = some (.int .u8 o3) ∧ W.cell? ⟨qo, 3, none⟩ = some (.int .u8 o4) ∧ W.cell? ⟨qo, 4, none⟩ = some (.int .u8 o5) ∧ W.cell? ⟨qo, 5, none⟩ = some (.int .u8 o6) ∧ W.cell? ⟨qm, 0, none⟩ = some (.int .u8 9) ∧ W.cell? ⟨qm, 1, none⟩ = some (.int .u8 0) ∧ W.cell? ⟨qm, 2, none⟩ = some (.int .u8 0) ∧ W.cell? ⟨qm, 3, none⟩ = some (.int .u8 0) ∧ W.cell? ⟨qm, 4, none⟩ = some (.int .u8 0) ∧ W.cell? ⟨qm, 5, none⟩ = some (.int .u8 0) ∧ W.cell? ⟨qx, 0, none⟩ = some (.int .u8 h1) ∧ W.cell? ⟨qx, 1, none⟩ = some (.int .u8 h2) ∧ W.cell? ⟨qx, 2, none⟩ = some (.int .u8 h3) ∧ W.cell? ⟨qx, 3, none⟩ = some (.int .u8 h4) ∧ W.cell? ⟨qx, 4, none⟩ = some (.int .u8 h5) ∧ W.cell? ⟨qx, 5, none⟩ = some (.int .u8 h6) ∧ W.cell? ⟨qx, 6, none⟩ = some (.int .i64 1) ∧ W.cell? ⟨qg, 0, none⟩ = some (.int .u8 h1) ∧ W.cell? ⟨qg, 1, none⟩ = some (.int .u8 h2) ∧ W.cell? ⟨qg, 2, none⟩ = some (.int .u8 h3) ∧ W.cell? ⟨qg, 3, none⟩ = some (.int .u8 h4) ∧ W.cell? ⟨qg, 4, none⟩ = some (.int .u8 h5) ∧ W.cell? ⟨qg, 5, none⟩ = some (.int .u8 h6) ∧ W.cell? ⟨qg, 6, none⟩ = some (.int .i64 1) ∧ W.cell? ⟨qL, 9, none⟩ = some (.int .u8 o1) ∧ W.cell? ⟨qL, 10, none⟩ = some (.int .u8 o2) ∧ W.cell? ⟨qL, 11, none⟩ = some (.int .u8 o3) ∧ W.cell? ⟨qL, 12, none⟩ = some (.int .u8 o4) ∧ W.cell? ⟨qL, 13, none⟩ = some (.int .u8 o5) ∧ W.cell? ⟨qL, 14, none⟩ = some (.int .u8 o6) ∧ W.cell? ⟨qL, 15, none⟩ = some (.int .i64 3)) ∧ Fr [] w14 W) W) := Lib.hid fun W hW => by
        have hk := HK14.out.step hW (by simp)
        obtain ⟨k0, k1, k2, k3, k4, k5, k6, k7, k8, k9, k10, k11, k12, k13, k14, k15, k16, k17⟩ := hk.cells
        have bq := hW.blk HB14.out (by simp)
        have bx := hW.blk HX14.out (by simp)
        have hWg := HFG.out.trans (hW.mono (by simp))
        have hL := hc1
        exact ⟨⟨bq.c 0 _ rfl, bq.c 1 _ rfl, bq.c 2 _ rfl, bq.c 3 _ rfl, bq.c 4 _ rfl, bq.c 5 _ rfl, k0, k1, k2, k3, k4, k5, k6, k7, k8, k9, k10, k11, k12, k13, k14, k15, k16, k17, bx.c 0 _ rfl, bx.c 1 _ rfl, bx.c 2 _ rfl, bx.c 3 _ rfl, bx.c 4 _ rfl, bx.c 5 _ rfl, bx.c 6 _ rfl, HQG.out _ hWg 0 _ rfl, HQG.out _ hWg 1 _ rfl, HQG.out _ hWg 2 _ rfl, HQG.out _ hWg 3 _ rfl, HQG.out _ hWg 4 _ rfl, HQG.out _ hWg 5 _ rfl, HQG.out _ hWg 6 _ rfl, hL W hW 0 _ rfl, hL W hW 1 _ rfl, hL W hW 2 _ rfl, hL W hW 3 _ rfl, hL W hW 4 _ rfl, hL W hW 5 _ rfl, hL W hW 6 _ rfl⟩, hW⟩
      clear LV hLp hLs hLa hLm hF14 hLn hc1 hq4 HK14 HX14 HB14 HFG HQG HQ HQX HS3 HSG HSP PA PO TP HDL HW1 HW2
      go_wp2_with fail
      refine wp_region_held_drew (S := (fun W => (W.cell? ⟨q, 0, none⟩ = some (.int .u8 h1) ∧ W.cell? ⟨q, 1, none⟩ = some (.int .u8 h2) ∧ W.cell? ⟨q, 2, none⟩ = some (.int .u8 h3) ∧ W.cell? ⟨q, 3, none⟩ = some (.int .u8 h4) ∧ W.cell? ⟨q, 4, none⟩ = some (.int .u8 h5) ∧ W.cell? ⟨q, 5, none⟩ = some (.int .u8 h6) ∧ W.cell? ⟨qh, 0, none⟩ = some (.int .u8 h1) ∧ W.cell? ⟨qh, 1, none⟩ = some (.int .u8 h2) ∧ W.cell? ⟨qh, 2, none⟩ = some (.int .u8 h3) ∧ W.cell? ⟨qh, 3, none⟩ = some (.int .u8 h4) ∧ W.cell? ⟨qh, 4, none⟩ = some (.int .u8 h5) ∧ W.cell? ⟨qh, 5, none⟩ = some (.int .u8 h6) ∧ W.cell? ⟨qo, 0, none⟩ = some (.int .u8 o1) ∧ W.cell? ⟨qo, 1, none⟩ = some (.int .u8 o2) ∧ W.cell? ⟨qo, 2, none⟩ = some (.int .u8 o3) ∧ W.cell? ⟨qo, 3, none⟩ = some (.int .u8 o4) ∧ W.cell? ⟨qo, 4, none⟩ = some (.int .u8 o5) ∧ W.cell? ⟨qo, 5, none⟩ = some (.int .u8 o6) ∧ W.cell? ⟨qm, 0, none⟩ = some (.int .u8 9) ∧ W.cell? ⟨qm, 1, none⟩ = some (.int .u8 0) ∧ W.cell? ⟨qm, 2, none⟩ = some (.int .u8 0) ∧ W.cell? ⟨qm, 3, none⟩ = some (.int .u8 0) ∧ W.cell? ⟨qm, 4, none⟩ = some (.int .u8 0) ∧ W.cell? ⟨qm, 5, none⟩ = some (.int .u8 0) ∧ W.cell? ⟨qx, 0, none⟩ = some (.int .u8 h1) ∧ W.cell? ⟨qx, 1, none⟩ = some (.int .u8 h2) ∧ W.cell? ⟨qx, 2, none⟩ = some (.int .u8 h3) ∧ W.cell? ⟨qx, 3, none⟩ = some (.int .u8 h4) ∧ W.cell? ⟨qx, 4, none⟩ = some (.int .u8 h5) ∧ W.cell? ⟨qx, 5, none⟩ = some (.int .u8 h6) ∧ W.cell? ⟨qx, 6, none⟩ = some (.int .i64 1) ∧ W.cell? ⟨qg, 0, none⟩ = some (.int .u8 h1) ∧ W.cell? ⟨qg, 1, none⟩ = some (.int .u8 h2) ∧ W.cell? ⟨qg, 2, none⟩ = some (.int .u8 h3) ∧ W.cell? ⟨qg, 3, none⟩ = some (.int .u8 h4) ∧ W.cell? ⟨qg, 4, none⟩ = some (.int .u8 h5) ∧ W.cell? ⟨qg, 5, none⟩ = some (.int .u8 h6) ∧ W.cell? ⟨qg, 6, none⟩ = some (.int .i64 1) ∧ W.cell? ⟨qL, 9, none⟩ = some (.int .u8 o1) ∧ W.cell? ⟨qL, 10, none⟩ = some (.int .u8 o2) ∧ W.cell? ⟨qL, 11, none⟩ = some (.int .u8 o3) ∧ W.cell? ⟨qL, 12, none⟩ = some (.int .u8 o4) ∧ W.cell? ⟨qL, 13, none⟩ = some (.int .u8 o5) ∧ W.cell? ⟨qL, 14, none⟩ = some (.int .u8 o6) ∧ W.cell? ⟨qL, 15, none⟩ = some (.int .i64 3)) ∧ Fr [] w14 W)) (by kernel_rfl) ?_ (fun hHeld => ?_)
      · (try dsimp only); exact HX.out _ (Fr.refl [] w14).drew
      refine wpAnyH_ready (rs := [0]) (by kernel_rfl) (by simp) ?_
      refine AllReadyH.cons (o := _) rfl (fun K hK => ?_) AllReadyH.nil
      go_simp
      refine (AL.out _).mono ?_
      rintro e w15 ⟨rfl, hF15⟩
      (try go_wp2_with fail)
      refine hK.out _ _ ?_ (fun hHeld => ?_)
      · (try dsimp only); exact HX.out _ (Fr.trans (And.right hHeld) hF15)
      clear hK K
      try simp only [Act.put, List.setIfInBounds_toArray, List.set_cons_zero, List.set_cons_succ]
      refine take_yes 1 149 rfl rfl (by kernel_rfl) (by kernel_rfl) (by kernel_rfl) (fun _ _ _ h => h) (by rfl) (by assumption) (v := ?_) ?_ ?_
      rotate_left
      · intro w hSw; (try dsimp only at hSw); go_simp; (try with_reducible rfl)
      try simp only [Act.put, List.setIfInBounds_toArray, List.set_cons_zero, List.set_cons_succ]
      refine take_yes 2 150 rfl rfl (by kernel_rfl) (by kernel_rfl) (by kernel_rfl) (fun _ _ _ h => h) (by rfl) (by assumption) (v := ?_) ?_ ?_
      rotate_left
      · intro w hSw; (try dsimp only at hSw); go_simp; (try with_reducible rfl)
      try simp only [Act.put, List.setIfInBounds_toArray, List.set_cons_zero, List.set_cons_succ]
      refine take_yes 3 151 rfl rfl (by kernel_rfl) (by kernel_rfl) (by kernel_rfl) (fun _ _ _ h => h) (by rfl) (by assumption) (v := ?_) ?_ ?_
      rotate_left
      · intro w hSw; (try dsimp only at hSw); go_simp; (try with_reducible rfl)
      try simp only [Act.put, List.setIfInBounds_toArray, List.set_cons_zero, List.set_cons_succ]
      refine take_yes 4 152 rfl rfl (by kernel_rfl) (by kernel_rfl) (by kernel_rfl) (fun _ _ _ h => h) (by rfl) (by assumption) (v := ?_) ?_ ?_
      rotate_left
      · intro w hSw; (try dsimp only at hSw); go_simp; (try with_reducible rfl)
      try simp only [Act.put, List.setIfInBounds_toArray, List.set_cons_zero, List.set_cons_succ]
      refine take_yes 5 153 rfl rfl (by kernel_rfl) (by kernel_rfl) (by kernel_rfl) (fun _ _ _ h => h) (by rfl) (by assumption) (v := ?_) ?_ ?_
      rotate_left
      · intro w hSw; (try dsimp only at hSw); go_simp; (try with_reducible rfl)
      try simp only [Act.put, List.setIfInBounds_toArray, List.set_cons_zero, List.set_cons_succ]
      refine take_yes 6 154 rfl rfl (by kernel_rfl) (by kernel_rfl) (by kernel_rfl) (fun _ _ _ h => h) (by rfl) (by assumption) (v := ?_) ?_ ?_
      rotate_left
      · intro w hSw; (try dsimp only at hSw); go_simp; (try with_reducible rfl)
      try simp only [Act.put, List.setIfInBounds_toArray, List.set_cons_zero, List.set_cons_succ]
      refine take_yes 7 155 rfl rfl (by kernel_rfl) (by kernel_rfl) (by kernel_rfl) (fun _ _ _ h => h) (by rfl) (by assumption) (v := ?_) ?_ ?_
      rotate_left
      · intro w hSw; (try dsimp only at hSw); go_simp; (try with_reducible rfl)
      try simp only [Act.put, List.setIfInBounds_toArray, List.set_cons_zero, List.set_cons_succ]
      refine take_yes 8 156 rfl rfl (by kernel_rfl) (by kernel_rfl) (by kernel_rfl) (fun _ _ _ h => h) (by rfl) (by assumption) (v := ?_) ?_ ?_
      rotate_left
      · intro w hSw; (try dsimp only at hSw); go_simp; (try with_reducible rfl)
      try simp only [Act.put, List.setIfInBounds_toArray, List.set_cons_zero, List.set_cons_succ]
      refine take_yes 9 157 rfl rfl (by kernel_rfl) (by kernel_rfl) (by kernel_rfl) (fun _ _ _ h => h) (by rfl) (by assumption) (v := ?_) ?_ ?_
      rotate_left
      · intro w hSw; (try dsimp only at hSw); go_simp; (try with_reducible rfl)
      try simp only [Act.put, List.setIfInBounds_toArray, List.set_cons_zero, List.set_cons_succ]
      refine take_yes 10 158 rfl rfl (by kernel_rfl) (by kernel_rfl) (by kernel_rfl) (fun _ _ _ h => h) (by rfl) (by assumption) (v := ?_) ?_ ?_
      rotate_left
      · intro w hSw; (try dsimp only at hSw); go_simp; (try with_reducible rfl)
      try simp only [Act.put, List.setIfInBounds_toArray, List.set_cons_zero, List.set_cons_succ]
      refine take_yes 11 159 rfl rfl (by kernel_rfl) (by kernel_rfl) (by kernel_rfl) (fun _ _ _ h => h) (by rfl) (by assumption) (v := ?_) ?_ ?_
      rotate_left
      · intro w hSw; (try dsimp only at hSw); go_simp; (try with_reducible rfl)
      try simp only [Act.put, List.setIfInBounds_toArray, List.set_cons_zero, List.set_cons_succ]
      refine take_yes 12 160 rfl rfl (by kernel_rfl) (by kernel_rfl) (by kernel_rfl) (fun _ _ _ h => h) (by rfl) (by assumption) (v := ?_) ?_ ?_
      rotate_left
      · intro w hSw; (try dsimp only at hSw); go_simp; (try with_reducible rfl)
      try simp only [Act.put, List.setIfInBounds_toArray, List.set_cons_zero, List.set_cons_succ]
      refine take_yes 13 161 rfl rfl (by kernel_rfl) (by kernel_rfl) (by kernel_rfl) (fun _ _ _ h => h) (by rfl) (by assumption) (v := ?_) ?_ ?_
      rotate_left
      · intro w hSw; (try dsimp only at hSw); go_simp; (try with_reducible rfl)
      try simp only [Act.put, List.setIfInBounds_toArray, List.set_cons_zero, List.set_cons_succ]
      refine take_yes 14 162 rfl rfl (by kernel_rfl) (by kernel_rfl) (by kernel_rfl) (fun _ _ _ h => h) (by rfl) (by assumption) (v := ?_) ?_ ?_
      rotate_left
      · intro w hSw; (try dsimp only at hSw); go_simp; (try with_reducible rfl)
      try simp only [Act.put, List.setIfInBounds_toArray, List.set_cons_zero, List.set_cons_succ]
      refine take_yes 15 163 rfl rfl (by kernel_rfl) (by kernel_rfl) (by kernel_rfl) (fun _ _ _ h => h) (by rfl) (by assumption) (v := ?_) ?_ ?_
      rotate_left
      · intro w hSw; (try dsimp only at hSw); go_simp; (try with_reducible rfl)
      try simp only [Act.put, List.setIfInBounds_toArray, List.set_cons_zero, List.set_cons_succ]
      refine take_yes 16 164 rfl rfl (by kernel_rfl) (by kernel_rfl) (by kernel_rfl) (fun _ _ _ h => h) (by rfl) (by assumption) (v := ?_) ?_ ?_
      rotate_left
      · intro w hSw; (try dsimp only at hSw); go_simp; (try with_reducible rfl)
      try simp only [Act.put, List.setIfInBounds_toArray, List.set_cons_zero, List.set_cons_succ]
      refine take_yes 17 165 rfl rfl (by kernel_rfl) (by kernel_rfl) (by kernel_rfl) (fun _ _ _ h => h) (by rfl) (by assumption) (v := ?_) ?_ ?_
      rotate_left
      · intro w hSw; (try dsimp only at hSw); go_simp; (try with_reducible rfl)
      try simp only [Act.put, List.setIfInBounds_toArray, List.set_cons_zero, List.set_cons_succ]
      refine take_yes 18 166 rfl rfl (by kernel_rfl) (by kernel_rfl) (by kernel_rfl) (fun _ _ _ h => h) (by rfl) (by assumption) (v := ?_) ?_ ?_
      rotate_left
      · intro w hSw; (try dsimp only at hSw); go_simp; (try with_reducible rfl)
      try simp only [Act.put, List.setIfInBounds_toArray, List.set_cons_zero, List.set_cons_succ]
      refine take_yes 19 167 rfl rfl (by kernel_rfl) (by kernel_rfl) (by kernel_rfl) (fun _ _ _ h => h) (by rfl) (by assumption) (v := ?_) ?_ ?_
      rotate_left
      · intro w hSw; (try dsimp only at hSw); go_simp; (try with_reducible rfl)
      try simp only [Act.put, List.setIfInBounds_toArray, List.set_cons_zero, List.set_cons_succ]
      refine take_yes 20 168 rfl rfl (by kernel_rfl) (by kernel_rfl) (by kernel_rfl) (fun _ _ _ h => h) (by rfl) (by assumption) (v := ?_) ?_ ?_
      rotate_left
      · intro w hSw; (try dsimp only at hSw); go_simp; (try with_reducible rfl)
      try simp only [Act.put, List.setIfInBounds_toArray, List.set_cons_zero, List.set_cons_succ]
      refine take_yes 21 169 rfl rfl (by kernel_rfl) (by kernel_rfl) (by kernel_rfl) (fun _ _ _ h => h) (by rfl) (by assumption) (v := ?_) ?_ ?_
      rotate_left
      · intro w hSw; (try dsimp only at hSw); go_simp; (try with_reducible rfl)
      try simp only [Act.put, List.setIfInBounds_toArray, List.set_cons_zero, List.set_cons_succ]
      refine take_yes 22 170 rfl rfl (by kernel_rfl) (by kernel_rfl) (by kernel_rfl) (fun _ _ _ h => h) (by rfl) (by assumption) (v := ?_) ?_ ?_
      rotate_left
      · intro w hSw; (try dsimp only at hSw); go_simp; (try with_reducible rfl)
      try simp only [Act.put, List.setIfInBounds_toArray, List.set_cons_zero, List.set_cons_succ]
      refine take_yes 23 171 rfl rfl (by kernel_rfl) (by kernel_rfl) (by kernel_rfl) (fun _ _ _ h => h) (by rfl) (by assumption) (v := ?_) ?_ ?_
      rotate_left
      · intro w hSw; (try dsimp only at hSw); go_simp; (try with_reducible rfl)
      try simp only [Act.put, List.setIfInBounds_toArray, List.set_cons_zero, List.set_cons_succ]
      refine take_yes 24 172 rfl rfl (by kernel_rfl) (by kernel_rfl) (by kernel_rfl) (fun _ _ _ h => h) (by rfl) (by assumption) (v := ?_) ?_ ?_
      rotate_left
      · intro w hSw; (try dsimp only at hSw); go_simp; (try with_reducible rfl)
      try simp only [Act.put, List.setIfInBounds_toArray, List.set_cons_zero, List.set_cons_succ]
      refine take_yes 25 173 rfl rfl (by kernel_rfl) (by kernel_rfl) (by kernel_rfl) (fun _ _ _ h => h) (by rfl) (by assumption) (v := ?_) ?_ ?_
      rotate_left
      · intro w hSw; (try dsimp only at hSw); go_simp; (try with_reducible rfl)
      try simp only [Act.put, List.setIfInBounds_toArray, List.set_cons_zero, List.set_cons_succ]
      refine take_yes 26 174 rfl rfl (by kernel_rfl) (by kernel_rfl) (by kernel_rfl) (fun _ _ _ h => h) (by rfl) (by assumption) (v := ?_) ?_ ?_
      rotate_left
      · intro w hSw; (try dsimp only at hSw); go_simp; (try with_reducible rfl)
      try simp only [Act.put, List.setIfInBounds_toArray, List.set_cons_zero, List.set_cons_succ]
      refine take_yes 27 175 rfl rfl (by kernel_rfl) (by kernel_rfl) (by kernel_rfl) (fun _ _ _ h => h) (by rfl) (by assumption) (v := ?_) ?_ ?_
      rotate_left
      · intro w hSw; (try dsimp only at hSw); go_simp; (try with_reducible rfl)
      try simp only [Act.put, List.setIfInBounds_toArray, List.set_cons_zero, List.set_cons_succ]
      refine take_yes 28 176 rfl rfl (by kernel_rfl) (by kernel_rfl) (by kernel_rfl) (fun _ _ _ h => h) (by rfl) (by assumption) (v := ?_) ?_ ?_
      rotate_left
      · intro w hSw; (try dsimp only at hSw); go_simp; (try with_reducible rfl)
      try simp only [Act.put, List.setIfInBounds_toArray, List.set_cons_zero, List.set_cons_succ]
      refine take_yes 29 177 rfl rfl (by kernel_rfl) (by kernel_rfl) (by kernel_rfl) (fun _ _ _ h => h) (by rfl) (by assumption) (v := ?_) ?_ ?_
      rotate_left
      · intro w hSw; (try dsimp only at hSw); go_simp; (try with_reducible rfl)
      try simp only [Act.put, List.setIfInBounds_toArray, List.set_cons_zero, List.set_cons_succ]
      refine take_yes 30 178 rfl rfl (by kernel_rfl) (by kernel_rfl) (by kernel_rfl) (fun _ _ _ h => h) (by rfl) (by assumption) (v := ?_) ?_ ?_
      rotate_left
      · intro w hSw; (try dsimp only at hSw); go_simp; (try with_reducible rfl)
      try simp only [Act.put, List.setIfInBounds_toArray, List.set_cons_zero, List.set_cons_succ]
      refine take_yes 31 179 rfl rfl (by kernel_rfl) (by kernel_rfl) (by kernel_rfl) (fun _ _ _ h => h) (by rfl) (by assumption) (v := ?_) ?_ ?_
      rotate_left
      · intro w hSw; (try dsimp only at hSw); go_simp; (try with_reducible rfl)
      try simp only [Act.put, List.setIfInBounds_toArray, List.set_cons_zero, List.set_cons_succ]
      refine take_yes 32 180 rfl rfl (by kernel_rfl) (by kernel_rfl) (by kernel_rfl) (fun _ _ _ h => h) (by rfl) (by assumption) (v := ?_) ?_ ?_
      rotate_left
      · intro w hSw; (try dsimp only at hSw); go_simp; (try with_reducible rfl)
      try simp only [Act.put, List.setIfInBounds_toArray, List.set_cons_zero, List.set_cons_succ]
      refine take_yes 33 181 rfl rfl (by kernel_rfl) (by kernel_rfl) (by kernel_rfl) (fun _ _ _ h => h) (by rfl) (by assumption) (v := ?_) ?_ ?_
      rotate_left
      · intro w hSw; (try dsimp only at hSw); go_simp; (try with_reducible rfl)
      try simp only [Act.put, List.setIfInBounds_toArray, List.set_cons_zero, List.set_cons_succ]
      refine take_yes 34 182 rfl rfl (by kernel_rfl) (by kernel_rfl) (by kernel_rfl) (fun _ _ _ h => h) (by rfl) (by assumption) (v := ?_) ?_ ?_
      rotate_left
      · intro w hSw; (try dsimp only at hSw); go_simp; (try with_reducible rfl)
      try simp only [Act.put, List.setIfInBounds_toArray, List.set_cons_zero, List.set_cons_succ]
      refine take_yes 35 183 rfl rfl (by kernel_rfl) (by kernel_rfl) (by kernel_rfl) (fun _ _ _ h => h) (by rfl) (by assumption) (v := ?_) ?_ ?_
      rotate_left
      · intro w hSw; (try dsimp only at hSw); go_simp; (try with_reducible rfl)
      try simp only [Act.put, List.setIfInBounds_toArray, List.set_cons_zero, List.set_cons_succ]
      refine take_yes 36 184 rfl rfl (by kernel_rfl) (by kernel_rfl) (by kernel_rfl) (fun _ _ _ h => h) (by rfl) (by assumption) (v := ?_) ?_ ?_
      rotate_left
      · intro w hSw; (try dsimp only at hSw); go_simp; (try with_reducible rfl)
      try simp only [Act.put, List.setIfInBounds_toArray, List.set_cons_zero, List.set_cons_succ]
      refine take_yes 37 185 rfl rfl (by kernel_rfl) (by kernel_rfl) (by kernel_rfl) (fun _ _ _ h => h) (by rfl) (by assumption) (v := ?_) ?_ ?_
      rotate_left
      · intro w hSw; (try dsimp only at hSw); go_simp; (try with_reducible rfl)
      try simp only [Act.put, List.setIfInBounds_toArray, List.set_cons_zero, List.set_cons_succ]
      refine take_yes 38 186 rfl rfl (by kernel_rfl) (by kernel_rfl) (by kernel_rfl) (fun _ _ _ h => h) (by rfl) (by assumption) (v := ?_) ?_ ?_
      rotate_left
      · intro w hSw; (try dsimp only at hSw); go_simp; (try with_reducible rfl)
      try simp only [Act.put, List.setIfInBounds_toArray, List.set_cons_zero, List.set_cons_succ]
      refine take_yes 39 187 rfl rfl (by kernel_rfl) (by kernel_rfl) (by kernel_rfl) (fun _ _ _ h => h) (by rfl) (by assumption) (v := ?_) ?_ ?_
      rotate_left
      · intro w hSw; (try dsimp only at hSw); go_simp; (try with_reducible rfl)
      try simp only [Act.put, List.setIfInBounds_toArray, List.set_cons_zero, List.set_cons_succ]
      refine take_yes 40 188 rfl rfl (by kernel_rfl) (by kernel_rfl) (by kernel_rfl) (fun _ _ _ h => h) (by rfl) (by assumption) (v := ?_) ?_ ?_
      rotate_left
      · intro w hSw; (try dsimp only at hSw); go_simp; (try with_reducible rfl)
      try simp only [Act.put, List.setIfInBounds_toArray, List.set_cons_zero, List.set_cons_succ]
      refine take_yes 41 189 rfl rfl (by kernel_rfl) (by kernel_rfl) (by kernel_rfl) (fun _ _ _ h => h) (by rfl) (by assumption) (v := ?_) ?_ ?_
      rotate_left
      · intro w hSw; (try dsimp only at hSw); go_simp; (try with_reducible rfl)
      try simp only [Act.put, List.setIfInBounds_toArray, List.set_cons_zero, List.set_cons_succ]
      refine take_yes 42 190 rfl rfl (by kernel_rfl) (by kernel_rfl) (by kernel_rfl) (fun _ _ _ h => h) (by rfl) (by assumption) (v := ?_) ?_ ?_
      rotate_left
      · intro w hSw; (try dsimp only at hSw); go_simp; (try with_reducible rfl)
      try simp only [Act.put, List.setIfInBounds_toArray, List.set_cons_zero, List.set_cons_succ]
      refine take_yes 43 191 rfl rfl (by kernel_rfl) (by kernel_rfl) (by kernel_rfl) (fun _ _ _ h => h) (by rfl) (by assumption) (v := ?_) ?_ ?_
      rotate_left
      · intro w hSw; (try dsimp only at hSw); go_simp; (try with_reducible rfl)
      try simp only [Act.put, List.setIfInBounds_toArray, List.set_cons_zero, List.set_cons_succ]
      refine take_yes 44 192 rfl rfl (by kernel_rfl) (by kernel_rfl) (by kernel_rfl) (fun _ _ _ h => h) (by rfl) (by assumption) (v := ?_) ?_ ?_
      rotate_left
      · intro w hSw; (try dsimp only at hSw); go_simp; (try with_reducible rfl)
      try simp only [Act.put, List.setIfInBounds_toArray, List.set_cons_zero, List.set_cons_succ]
      refine take_yes 45 193 rfl rfl (by kernel_rfl) (by kernel_rfl) (by kernel_rfl) (fun _ _ _ h => h) (by rfl) (by assumption) (v := ?_) ?_ ?_
      rotate_left
      · intro w hSw; (try dsimp only at hSw); go_simp; (try with_reducible rfl)
      try simp only [Act.put, List.setIfInBounds_toArray, List.set_cons_zero, List.set_cons_succ]
      refine take_yes 46 194 rfl rfl (by kernel_rfl) (by kernel_rfl) (by kernel_rfl) (fun _ _ _ h => h) (by rfl) (by assumption) (v := ?_) ?_ ?_
      rotate_left
      · intro w hSw; (try dsimp only at hSw); go_simp; (try with_reducible rfl)
      try simp only [Act.put, List.setIfInBounds_toArray, List.set_cons_zero, List.set_cons_succ]
      refine take_yes 47 195 rfl rfl (by kernel_rfl) (by kernel_rfl) (by kernel_rfl) (fun _ _ _ h => h) (by rfl) (by assumption) (v := ?_) ?_ ?_
      rotate_left
      · intro w hSw; (try dsimp only at hSw); go_simp; (try with_reducible rfl)
      try simp only [Act.put, List.setIfInBounds_toArray, List.set_cons_zero, List.set_cons_succ]
      refine take_yes 48 196 rfl rfl (by kernel_rfl) (by kernel_rfl) (by kernel_rfl) (fun _ _ _ h => h) (by rfl) (by assumption) (v := ?_) ?_ ?_
      rotate_left
      · intro w hSw; (try dsimp only at hSw); go_simp; (try with_reducible rfl)
      try simp only [Act.put, List.setIfInBounds_toArray, List.set_cons_zero, List.set_cons_succ]
      refine take_yes 49 197 rfl rfl (by kernel_rfl) (by kernel_rfl) (by kernel_rfl) (fun _ _ _ h => h) (by rfl) (by assumption) (v := ?_) ?_ ?_
      rotate_left
      · intro w hSw; (try dsimp only at hSw); go_simp; (try with_reducible rfl)
      try simp only [Act.put, List.setIfInBounds_toArray, List.set_cons_zero, List.set_cons_succ]
      refine take_yes 50 198 rfl rfl (by kernel_rfl) (by kernel_rfl) (by kernel_rfl) (fun _ _ _ h => h) (by rfl) (by assumption) (v := ?_) ?_ ?_
      rotate_left
      · intro w hSw; (try dsimp only at hSw); go_simp; (try with_reducible rfl)
      try simp only [Act.put, List.setIfInBounds_toArray, List.set_cons_zero, List.set_cons_succ]
      refine take_yes 51 199 rfl rfl (by kernel_rfl) (by kernel_rfl) (by kernel_rfl) (fun _ _ _ h => h) (by rfl) (by assumption) (v := ?_) ?_ ?_
      rotate_left
      · intro w hSw; (try dsimp only at hSw); go_simp; (try with_reducible rfl)
      try simp only [Act.put, List.setIfInBounds_toArray, List.set_cons_zero, List.set_cons_succ]
      refine take_yes 52 200 rfl rfl (by kernel_rfl) (by kernel_rfl) (by kernel_rfl) (fun _ _ _ h => h) (by rfl) (by assumption) (v := ?_) ?_ ?_
      rotate_left
      · intro w hSw; (try dsimp only at hSw); go_simp; (try with_reducible rfl)
      try simp only [Act.put, List.setIfInBounds_toArray, List.set_cons_zero, List.set_cons_succ]
      refine take_yes 53 201 rfl rfl (by kernel_rfl) (by kernel_rfl) (by kernel_rfl) (fun _ _ _ h => h) (by rfl) (by assumption) (v := ?_) ?_ ?_
      rotate_left
      · intro w hSw; (try dsimp only at hSw); go_simp; (try with_reducible rfl)
      try simp only [Act.put, List.setIfInBounds_toArray, List.set_cons_zero, List.set_cons_succ]
      refine take_yes 54 202 rfl rfl (by kernel_rfl) (by kernel_rfl) (by kernel_rfl) (fun _ _ _ h => h) (by rfl) (by assumption) (v := ?_) ?_ ?_
      rotate_left
      · intro w hSw; (try dsimp only at hSw); go_simp; (try with_reducible rfl)
      try simp only [Act.put, List.setIfInBounds_toArray, List.set_cons_zero, List.set_cons_succ]
      refine take_yes 55 203 rfl rfl (by kernel_rfl) (by kernel_rfl) (by kernel_rfl) (fun _ _ _ h => h) (by rfl) (by assumption) (v := ?_) ?_ ?_
      rotate_left
      · intro w hSw; (try dsimp only at hSw); go_simp; (try with_reducible rfl)
      try simp only [Act.put, List.setIfInBounds_toArray, List.set_cons_zero, List.set_cons_succ]
      refine take_yes 56 204 rfl rfl (by kernel_rfl) (by kernel_rfl) (by kernel_rfl) (fun _ _ _ h => h) (by rfl) (by assumption) (v := ?_) ?_ ?_
      rotate_left
      · intro w hSw; (try dsimp only at hSw); go_simp; (try with_reducible rfl)
      try simp only [Act.put, List.setIfInBounds_toArray, List.set_cons_zero, List.set_cons_succ]
      refine take_yes 57 6 rfl rfl (by kernel_rfl) (by kernel_rfl) (by kernel_rfl) (fun _ _ _ h => h) (by rfl) (by assumption) (v := ?_) ?_ ?_
      rotate_left
      · intro w hSw; (try dsimp only at hSw); go_simp; (try with_reducible rfl)
      try simp only [Act.put, List.setIfInBounds_toArray, List.set_cons_zero, List.set_cons_succ]
      refine wpAnyH_done (by kernel_rfl) ?_ _
      go_wp2_with fail
      go_ret
      exact ⟨rfl, (HFIN.out.trans (And.right hHeld)).below (Nat.le_refl _) (by simp)⟩
  · have hcase : eqb = true ∨ (eqb = false ∧ (1400 : Int) < d.length) ∨ (eqb = false ∧ ¬ (1400 : Int) < d.length ∧ eqc = true) := by
      cases eqb with
      | true => exact Or.inl rfl
      | false => cases eqc with
        | true =>
          right
          by_cases hx : (1400 : Int) < d.length
          · exact Or.inl ⟨rfl, hx⟩
          · exact Or.inr ⟨rfl, hx, rfl⟩
        | false =>
          right
          left
          refine ⟨rfl, ?_⟩
          by_cases hx : (1400 : Int) < d.length
          · exact hx
          · exact absurd ⟨rfl, by omega, rfl⟩ hb
    clear hb
    rcases hcase with rfl | ⟨rfl, hc⟩ | ⟨rfl, hc1, rfl⟩
    all_goals
      go_enter Try.func10, Try.ntmps10
      go_wp2_with fail
      refine (AL.out _).mono ?_
      rintro e w1 ⟨rfl, hF1⟩
      have hF2 := HF0.out.trans hF1
      go_wp2_with fail
      go_ret
      exact ⟨rfl, hF2.below (Nat.le_refl _) (by simp)⟩
end Go.Proofs.Ytcdencpkgfehlaa
