/- StorePlays (printed by tools/gen_laws5.py). -/
import Derived.Test.YtpljdnocdhppmaaSPl2
import Derived.Test.YtpljdnocdhppmaaLawS4
import Derived.Test.YtpljdnocdhppmaaRowsS
import Derived.OpenShut
import Derived.WideShapes
import Derived.Below
import Derived.Deep.DeepCutAuto
import Derived.Deep.CutBlock
namespace Go.Proofs.Ytpljdnocdhppmaa
open Go.ChangeShapes Go.WideShapes Go.ChangeAt Go.RowKit Go.Deep Go.Maps
set_option linter.unusedVariables false
structure SOp where
  kd : Int
  id : Int
  t : Int
  f : List UInt8
  s : List UInt8
  v : List UInt8
def sopL (o : SOp) : List Value := [.int .i64 o.kd, .int .i64 o.id, .int .i64 o.t, .string (B o.f), .string (B o.s), .string (B o.v)]
def in64 (x : Int) : Prop := -9223372036854775808 ≤ x ∧ x ≤ 9223372036854775807
def SopOk (o : SOp) : Prop := in64 o.kd ∧ in64 o.id ∧ in64 o.t ∧ o.f.length ≤ 140737488355328 ∧ o.s.length ≤ 140737488355328 ∧ o.v.length ≤ 140737488355328
section
variable {H : Type} {enc : TypeId × Value → H} {w : World} {base : Nat} {spare : Nat → Bool} {held : Bool}
theorem sop_cells : Try.prog.cellsOf 76 = 6 := by kernel_rfl
theorem wf_in64 {x : Int} (h : (Lit.int .i64 x).wf = true) : in64 x := by unfold in64; simpa [Lit.wf, IntKind.min, IntKind.max, IntKind.signed, IntKind.bits] using h
set_option maxRecDepth 100000 in
theorem dec_sop (n : Nat) (cs : List Value) (x : DataW H × List MemPlace) (h : DataW.trod enc Try.prog w base spare held n 76 cs = some x) (hw : ∀ k, k ∈ x.1.weights Try.prog 76 → k ≤ reachBytes) : ∃ o : SOp, cs = sopL o ∧ SopOk o := by
  obtain ⟨xs, m, _, hxe, hcl, hlen, hg⟩ := DataW.trod_struct Try.underlying76 h
  rw [sop_cells] at hcl
  match cs, hcl with
  | [c0, c1, c2, c3, c4, c5], _ =>
    obtain ⟨y0, hy0⟩ : ∃ u, xs[0]? = some u := ⟨_, List.getElem?_eq_getElem (by rw [hlen]; decide)⟩
    obtain ⟨y1, hy1⟩ : ∃ u, xs[1]? = some u := ⟨_, List.getElem?_eq_getElem (by rw [hlen]; decide)⟩
    obtain ⟨y2, hy2⟩ : ∃ u, xs[2]? = some u := ⟨_, List.getElem?_eq_getElem (by rw [hlen]; decide)⟩
    obtain ⟨y3, hy3⟩ : ∃ u, xs[3]? = some u := ⟨_, List.getElem?_eq_getElem (by rw [hlen]; decide)⟩
    obtain ⟨y4, hy4⟩ : ∃ u, xs[4]? = some u := ⟨_, List.getElem?_eq_getElem (by rw [hlen]; decide)⟩
    obtain ⟨y5, hy5⟩ : ∃ u, xs[5]? = some u := ⟨_, List.getElem?_eq_getElem (by rw [hlen]; decide)⟩
    obtain ⟨kd, e0, _, w0⟩ := DataW.trod_int Try.underlying3 (show DataW.trod enc Try.prog w base spare held m 3 [c0] = some y0 from (hg 0 _ rfl).trans hy0)
    obtain ⟨id, e1, _, w1⟩ := DataW.trod_int Try.underlying3 (show DataW.trod enc Try.prog w base spare held m 3 [c1] = some y1 from (hg 1 _ rfl).trans hy1)
    obtain ⟨t, e2, _, w2⟩ := DataW.trod_int Try.underlying3 (show DataW.trod enc Try.prog w base spare held m 3 [c2] = some y2 from (hg 2 _ rfl).trans hy2)
    obtain ⟨f, e3, f3, _⟩ := DataW.trod_string Try.underlying9 (show DataW.trod enc Try.prog w base spare held m 9 [c3] = some y3 from (hg 3 _ rfl).trans hy3)
    obtain ⟨s, e4, f4, _⟩ := DataW.trod_string Try.underlying9 (show DataW.trod enc Try.prog w base spare held m 9 [c4] = some y4 from (hg 4 _ rfl).trans hy4)
    obtain ⟨v, e5, f5, _⟩ := DataW.trod_string Try.underlying9 (show DataW.trod enc Try.prog w base spare held m 9 [c5] = some y5 from (hg 5 _ rfl).trans hy5)
    simp only [List.cons.injEq, and_true] at e0 e1 e2 e3 e4 e5
    subst e0 e1 e2 e3 e4 e5 f3 f4 f5
    rw [hxe] at hw
    have q3 := weights_str Try.underlying76 hw (j := 3) (u := 9) rfl (by rw [List.getElem?_map, hy3]; rfl)
    have q4 := weights_str Try.underlying76 hw (j := 4) (u := 9) rfl (by rw [List.getElem?_map, hy4]; rfl)
    have q5 := weights_str Try.underlying76 hw (j := 5) (u := 9) rfl (by rw [List.getElem?_map, hy5]; rfl)
    unfold reachBytes at q3 q4 q5
    refine ⟨⟨kd, id, t, f.data.toList, s.data.toList, v.data.toList⟩, ?_, wf_in64 w0, wf_in64 w1, wf_in64 w2, Nat.le_trans q3 (by decide), Nat.le_trans q4 (by decide), Nat.le_trans q5 (by decide)⟩
    unfold sopL
    rw [← B_of, ← B_of, ← B_of]
theorem open_sops {a : Option Addr} {len cap : Nat} {d : DataW H} {ps : List MemPlace} (h : DataW.Trod enc Try.prog w base spare held 65 (.slice a len cap) d ps) (hs : ∀ k, k ∈ d.weights Try.prog 65 → k ≤ reachBytes) : ∃ l, RowsAt w a len cap 6 sopL SopOk l :=
  rows_ofS Try.underlying65 sop_cells (by decide) dec_sop h hs
end
theorem zero_pair (W : World) (b : Nat) (hb : b ≤ W.heap.size) : SPx b ((W.alloc (.cells #[.int .i64 0, .int .i64 0, .map none] 71 (0, 0))).alloc (.cells #[.int .i64 0, .int .i64 1, .slice none 0 0] 74 (0, 0))).heap.size 0 ((W.alloc (.cells #[.int .i64 0, .int .i64 0, .map none] 71 (0, 0))).alloc (.cells #[.int .i64 0, .int .i64 1, .slice none 0 0] 74 (0, 0))) W.heap.size (W.heap.size + 1) 0 0 1 := by
  have h1 := (Blk.new W #[.int .i64 0, .int .i64 0, .map none] 71).alloc (.cells #[.int .i64 0, .int .i64 1, .slice none 0 0] 74 (0, 0))
  have h2 := Blk.new (W.alloc (.cells #[.int .i64 0, .int .i64 0, .map none] 71 (0, 0))) #[.int .i64 0, .int .i64 1, .slice none 0 0] 74
  rw [show (W.alloc (.cells #[.int .i64 0, .int .i64 0, .map none] 71 (0, 0))).heap.size = W.heap.size + 1 by simp] at h2
  refine ⟨none, [], fun _ => ⟨[], 0, 0⟩, .slice none 0 0, ⟨h1, Or.inl ⟨rfl, rfl⟩, by intro p hp; simp at hp, by simp, by intro p hp; simp at hp⟩, by intro p hp; simp at hp, by intro p hp; simp at hp, by intro p hp; simp at hp, ⟨h2, World.ownsRow_nil _ _ _ _⟩, by omega, by omega, by omega, Or.inl rfl, by simp, by simp, fun x hx => ?_⟩
  simp [Value.ownBlock] at hx
  rcases hx with rfl | rfl
  · refine ⟨hb, ?_⟩; simp; omega
  · refine ⟨by omega, ?_⟩; simp
set_option maxRecDepth 100000 in
set_option maxHeartbeats 40000000 in
theorem storePlays_walk (w : World) (lim : Int) (lm0 : -9223372036854775808 ≤ lim) (lm1 : lim ≤ 9223372036854775807) (calm : Int) (cm0 : -9223372036854775808 ≤ calm) (cm1 : calm ≤ 9223372036854775807) (zero : Bool) (a : Option Addr) (len cap : Nat) (l : List SOp) (hR : RowsAt w a len cap 6 sopL SopOk l) :
    Calls Try.prog 12 #[.int .i64 lim, .int .i64 calm, .bool zero, .slice a len cap] w fun e w' => e = .returned (.bool true) ∧ Below w.heap.size w w' := by
  have AL := Lib.hid fun W => alive15 W
  have HR := Lib.hid hR
  have hlm : len ≤ maxLen := Nat.le_trans hR.2.1 hR.2.2.1
  unfold maxLen at hlm
  clear hR
  obtain ⟨b, hbw⟩ : ∃ b, w.heap.size = b := ⟨_, rfl⟩
  by_cases h300 : (300 : Int) < len
  · clear hbw
    go_enter Try.func12, Try.ntmps12
    go_wp2_with fail
    refine (AL.out _).mono ?_
    rintro e w1 ⟨rfl, hF1⟩
    go_wp2_with fail
    go_ret
    exact ⟨rfl, hF1.below (Nat.le_refl _) (by simp)⟩
  · have hl3 : len ≤ 300 := by omega
    by_cases hok : 0 ≤ lim ∧ lim ≤ 100 ∧ 1 ≤ calm ∧ calm ≤ 1000
    · obtain ⟨l0, l1, c0, c1⟩ := hok
      have HOK := Lib.hid (And.intro l0 (And.intro l1 (And.intro c0 c1)))
      have NW := Lib.hid fun W => snew_ok (w := W) l0 l1 c0 c1
      have DW := Lib.hid fun W => dsnew_ok (w := W) lim calm l0 l1 c0 c1
      have HBW := Lib.hid hbw
      clear l0 l1 c0 c1 hbw
      go_enter Try.func12, Try.ntmps12
      go_wp2_with fail
      refine (NW.out _).mono ?_
      rintro e w1 ⟨g, bm, rfl, hg, hbm, hS, hF1⟩
      have HS := Lib.hid (And.intro hg (And.intro hbm (And.intro hS hF1)))
      clear hg hbm hS hF1 NW
      go_wp2_with fail
      refine (DW.out _).mono ?_
      rintro e w2 ⟨g2, rfl, hg2, hD, hF2⟩
      have HSP : Hid (SPx b w2.heap.size 0 w2 g g2 lim calm calm) := Lib.hid (by
        obtain ⟨hg, hbm, hS, hF1⟩ := HS.out
        have hz := HBW.out
        have z1 := hF1.size
        have hbl : bm < w1.heap.size := hS.map.lt
        have z2 := hF2.size
        refine ⟨some bm, [], _, .slice none 0 0, hS.fr0 hF2, by intro p hp; simp at hp, by intro p hp; simp at hp, by intro p hp; simp at hp, hD, ⟨HOK.out.1, HOK.out.2.1⟩, ⟨by have := HOK.out; omega, HOK.out.2.2.2⟩, HOK.out.2.2, Or.inr rfl, by simp, by simp, fun x hx => ?_⟩
        have a1 := hS.st.lt
        have a2 := hD.st.lt
        simp [Value.ownBlock] at hx
        rcases hx with rfl | rfl | rfl <;> omega)
      have HF2 := Lib.hid (HS.out.2.2.2.trans hF2)
      clear hg2 hD hF2 DW
      go_upto_if 43 with fail
      go_cut [9, 11] (fun sv rv wx => ∃ g g2 lm cm cm2, sv = .pointer (some ⟨g, 0, none⟩) ∧ rv = .pointer (some ⟨g2, 0, none⟩) ∧ SPx b wx.heap.size 0 wx g g2 lm cm cm2 ∧ Fr [] w wx)
      case first =>
        cases zero with
        | false =>
          go_wp2_with fail
          go_meet
          exact ⟨g, g2, lim, calm, calm, rfl, rfl, HSP.out, HF2.out⟩
        | true =>
          have HZ := Lib.hid (zero_pair w2 b (by have := HBW.out; have := HF2.out.size; omega))
          have HFZ := Lib.hid ((HF2.out.alloc (.cells #[.int .i64 0, .int .i64 0, .map none] 71 (0, 0))).alloc (.cells #[.int .i64 0, .int .i64 1, .slice none 0 0] 74 (0, 0)))
          go_wp2_with fail
          go_meet
          exact ⟨_, _, 0, 0, 1, rfl, rfl, HZ.out, HFZ.out⟩
      case rest =>
        clear HSP HF2 HS HOK
        obtain ⟨g, g2, lm, cm, cm2, rfl, rfl, hSP, hF⟩ := hcut
        have HSP0 := Lib.hid hSP
        have HF0 := Lib.hid hF
        clear hSP hF
        go_wp2_with fail
        go_loopw [13] (fun iv wr => ∃ j : Nat, j ≤ len ∧ iv = .int .i64 j ∧ SPx b wr.heap.size j wr g g2 lm cm cm2 ∧ Fr [] w wr) (fun iv _ => len - (intOf iv).toNat)
        case atStart => exact ⟨0, Nat.zero_le _, rfl, HSP0.out, HF0.out⟩
        case round =>
          obtain ⟨j, hj, rfl, hSP, hF⟩ := hrel
          have HSP := Lib.hid hSP
          have HF := Lib.hid hF
          clear hSP hF
          have hjb : (j : Int) ≤ 300 := by omega
          by_cases hjl : j < len
          · obtain ⟨bb, off, ⟨kd, id, t, f, s, v⟩, rfl, hbb, hx, hV, hcell⟩ := HR.out.at_ j hjl
            obtain ⟨⟨k0, k1⟩, ⟨i0, i1⟩, ⟨t0, t1⟩, fl, sl, vl⟩ := hV
            simp only at k0 k1 i0 i1 t0 t1 fl sl vl
            have hl := hcell wr HF.out
            obtain ⟨y0, y1, y2, y3, y4, y5⟩ : wr.cell? ⟨bb, off + j * 6, none⟩ = some (.int .i64 kd) ∧ wr.cell? ⟨bb, off + j * 6 + 1, none⟩ = some (.int .i64 id) ∧ wr.cell? ⟨bb, off + j * 6 + 2, none⟩ = some (.int .i64 t) ∧ wr.cell? ⟨bb, off + j * 6 + 3, none⟩ = some (.string (B f)) ∧ wr.cell? ⟨bb, off + j * 6 + 4, none⟩ = some (.string (B s)) ∧ wr.cell? ⟨bb, off + j * 6 + 5, none⟩ = some (.string (B v)) := ⟨hl 0 _ rfl, hl 1 _ rfl, hl 2 _ rfl, hl 3 _ rfl, hl 4 _ rfl, hl 5 _ rfl⟩
            have HV := Lib.hid (And.intro (And.intro i0 i1) (And.intro t0 t1))
            clear hcell hx hbb hl k0 k1 i0 i1 t0 t1
            have hNO := Blk.new wr #[.int .i64 kd, .int .i64 id, .int .i64 t, .string (B f), .string (B s), .string (B v)] 76
            have hFO := (Fr.refl [] wr).alloc (.cells #[.int .i64 kd, .int .i64 id, .int .i64 t, .string (B f), .string (B s), .string (B v)] 76 (0, 0))
            obtain ⟨n, hn⟩ : ∃ n, wr.heap.size = n := ⟨_, rfl⟩
            obtain ⟨W3, hW3⟩ : ∃ V, wr.alloc (.cells #[.int .i64 kd, .int .i64 id, .int .i64 t, .string (B f), .string (B s), .string (B v)] 76 (0, 0)) = V := ⟨_, rfl⟩
            rw [hn] at hNO
            rw [hW3] at hNO hFO
            have z0 := hNO.c 0 _ rfl
            have z1 := hNO.c 1 _ rfl
            have z2 := hNO.c 2 _ rfl
            have z3 := hNO.c 3 _ rfl
            have z4 := hNO.c 4 _ rfl
            have z5 := hNO.c 5 _ rfl
            (try simp only at z0 z1 z2 z3 z4 z5)
            by_cases hlen : (1000 : Int) < (f.length : Int) + s.length + v.length
            · have HFX := Lib.hid (HF.out.trans hFO)
              clear hNO hFO
              go_wp2_with fail
              go_ret
              exact ⟨rfl, HFX.out.below (Nat.le_refl _) (by simp)⟩
            · have HLL : Hid (f.length ≤ 1000 ∧ s.length ≤ 1000 ∧ v.length ≤ 1000) := Lib.hid (by omega)
              have HO := Lib.hid hNO
              have HN3 : Hid (n ≤ W3.heap.size) := Lib.hid (by have := hFO.size; omega)
              have HF3 := Lib.hid (HF.out.trans hFO)
              have HSP3 : Hid (SPx b n j W3 g g2 lm cm cm2) := Lib.hid (by have := HSP.out; rw [hn] at this; exact this.fr0 hFO)
              have HX : Hid (∀ W, FrB b n W3 W → (fun W => (W.cell? ⟨n, 0, none⟩ = some (.int .i64 kd) ∧ W.cell? ⟨n, 1, none⟩ = some (.int .i64 id) ∧ W.cell? ⟨n, 2, none⟩ = some (.int .i64 t) ∧ W.cell? ⟨n, 3, none⟩ = some (.string (B f)) ∧ W.cell? ⟨n, 4, none⟩ = some (.string (B s)) ∧ W.cell? ⟨n, 5, none⟩ = some (.string (B v))) ∧ FrB b n W3 W) W) := Lib.hid fun W hW => by
                have bh := hW.blk hNO (Or.inr (Nat.le_refl _))
                exact ⟨⟨bh.c 0 _ rfl, bh.c 1 _ rfl, bh.c 2 _ rfl, bh.c 3 _ rfl, bh.c 4 _ rfl, bh.c 5 _ rfl⟩, hW⟩
              have hG0 := HX.out _ (FrB.of _ _ (Fr.refl [] W3).drew)
              dsimp only at hG0
              have HJ1 : Hid (j ≤ 1000) := Lib.hid (by omega)
              clear hNO hFO HSP HF
              go_upto_block 2 with fail
              clear hn
              go_cut [] (fun wx => SPx b wx.heap.size (j + 1) wx g g2 lm cm cm2 ∧ Blk wx n #[.int .i64 kd, .int .i64 id, .int .i64 t, .string (B f), .string (B s), .string (B v)] 76 ∧ Fr [] w wx)
              case first =>
                by_cases hk1 : kd = 1
                · have hd1 : (kd == 1) = true := by simpa using hk1
                  have PL := Lib.hid fun W (hW : Fr [] W3 W) => play_set f s HLL.out.1 HLL.out.2.1 (HSP3.out.fr0 hW)
                  clear hk1 hlen y0 y1 y2 y3 y4 y5
                  go_wp2_with fail
                  clear z0 z1 z2 z3 z4 z5
                  refine wp_region_held_drew (S := (fun W => (W.cell? ⟨n, 0, none⟩ = some (.int .i64 kd) ∧ W.cell? ⟨n, 1, none⟩ = some (.int .i64 id) ∧ W.cell? ⟨n, 2, none⟩ = some (.int .i64 t) ∧ W.cell? ⟨n, 3, none⟩ = some (.string (B f)) ∧ W.cell? ⟨n, 4, none⟩ = some (.string (B s)) ∧ W.cell? ⟨n, 5, none⟩ = some (.string (B v))) ∧ FrB b n W3 W)) (by kernel_rfl) ?_ (fun hHeld => ?_)
                  · (try dsimp only); exact hG0
                  have hZ := (Fr.refl [] W3).drew
                  obtain ⟨v0, hv⟩ : ∃ X, W3.drew = X := ⟨_, rfl⟩
                  rw [hv] at hHeld hZ ⊢
                  clear hv hG0
                  refine take_yes 0 102 rfl rfl (by kernel_rfl) (by kernel_rfl) (by kernel_rfl) (fun _ _ _ h => h) (by rfl) (by assumption) (v := ?_) ?_ ?_
                  rotate_left
                  · intro w hSw; (try dsimp only at hSw); go_simp; (try with_reducible rfl)
                  try simp only [Act.put, List.setIfInBounds_toArray, List.set_cons_zero, List.set_cons_succ]
                  refine take_yes 1 103 rfl rfl (by kernel_rfl) (by kernel_rfl) (by kernel_rfl) (fun _ _ _ h => h) (by rfl) (by assumption) (v := ?_) ?_ ?_
                  rotate_left
                  · intro w hSw; (try dsimp only at hSw); go_simp; (try with_reducible rfl)
                  try simp only [Act.put, List.setIfInBounds_toArray, List.set_cons_zero, List.set_cons_succ]
                  refine take_yes 2 104 rfl rfl (by kernel_rfl) (by kernel_rfl) (by kernel_rfl) (fun _ _ _ h => h) (by rfl) (by assumption) (v := ?_) ?_ ?_
                  rotate_left
                  · intro w hSw; (try dsimp only at hSw); go_simp; (try with_reducible rfl)
                  try simp only [Act.put, List.setIfInBounds_toArray, List.set_cons_zero, List.set_cons_succ]
                  refine take_yes 3 105 rfl rfl (by kernel_rfl) (by kernel_rfl) (by kernel_rfl) (fun _ _ _ h => h) (by rfl) (by assumption) (v := ?_) ?_ ?_
                  rotate_left
                  · intro w hSw; (try dsimp only at hSw); go_simp; (try with_reducible rfl)
                  try simp only [Act.put, List.setIfInBounds_toArray, List.set_cons_zero, List.set_cons_succ]
                  refine take_yes 4 106 rfl rfl (by kernel_rfl) (by kernel_rfl) (by kernel_rfl) (fun _ _ _ h => h) (by rfl) (by assumption) (v := ?_) ?_ ?_
                  rotate_left
                  · intro w hSw; (try dsimp only at hSw); go_simp; (try with_reducible rfl)
                  try simp only [Act.put, List.setIfInBounds_toArray, List.set_cons_zero, List.set_cons_succ]
                  refine take_yes 6 108 rfl rfl (by kernel_rfl) (by kernel_rfl) (by kernel_rfl) (fun _ _ _ h => h) (by rfl) (by assumption) (v := ?_) ?_ ?_
                  rotate_left
                  · intro w hSw; (try dsimp only at hSw); go_simp; (try with_reducible rfl)
                  try simp only [Act.put, List.setIfInBounds_toArray, List.set_cons_zero, List.set_cons_succ]
                  refine take_yes 7 109 rfl rfl (by kernel_rfl) (by kernel_rfl) (by kernel_rfl) (fun _ _ _ h => h) (by rfl) (by assumption) (v := ?_) ?_ ?_
                  rotate_left
                  · intro w hSw; (try dsimp only at hSw); go_simp; (try with_reducible rfl)
                  try simp only [Act.put, List.setIfInBounds_toArray, List.set_cons_zero, List.set_cons_succ]
                  refine take_yes 8 110 rfl rfl (by kernel_rfl) (by kernel_rfl) (by kernel_rfl) (fun _ _ _ h => h) (by rfl) (by assumption) (v := ?_) ?_ ?_
                  rotate_left
                  · intro w hSw; (try dsimp only at hSw); go_simp; (try with_reducible rfl)
                  try simp only [Act.put, List.setIfInBounds_toArray, List.set_cons_zero, List.set_cons_succ]
                  refine take_yes 9 111 rfl rfl (by kernel_rfl) (by kernel_rfl) (by kernel_rfl) (fun _ _ _ h => h) (by rfl) (by assumption) (v := ?_) ?_ ?_
                  rotate_left
                  · intro w hSw; (try dsimp only at hSw); go_simp; (try with_reducible rfl)
                  try simp only [Act.put, List.setIfInBounds_toArray, List.set_cons_zero, List.set_cons_succ]
                  refine take_yes 10 112 rfl rfl (by kernel_rfl) (by kernel_rfl) (by kernel_rfl) (fun _ _ _ h => h) (by rfl) (by assumption) (v := ?_) ?_ ?_
                  rotate_left
                  · intro w hSw; (try dsimp only at hSw); go_simp; (try with_reducible rfl)
                  try simp only [Act.put, List.setIfInBounds_toArray, List.set_cons_zero, List.set_cons_succ]
                  refine wpAnyH_ready (rs := [5]) (by kernel_rfl) (by simp) ?_
                  refine AllReadyH.cons (o := _) rfl (fun K hK => ?_) AllReadyH.nil
                  go_simp
                  refine (PL.out v0 hZ).mono ?_
                  rintro e v1 ⟨c, rfl, hFx, hNext⟩
                  (try go_wp2_with fail)
                  have HNX := Lib.hid (hNext v1 (Fr.refl _ _))
                  have hF1 := FrB.pre hZ hFx
                  refine hK.out _ _ ?_ (fun hHeld1 => ?_)
                  · (try dsimp only); exact HX.out _ hF1
                  clear hK K hNext hFx hHeld hZ
                  try simp only [Act.put, List.setIfInBounds_toArray, List.set_cons_zero, List.set_cons_succ]
                  refine wpAnyH_ready (rs := [11]) (by kernel_rfl) (by simp) ?_
                  refine AllReadyH.cons (o := _) rfl (fun K hK => ?_) AllReadyH.nil
                  go_simp
                  refine HNX.out.mono ?_
                  rintro e v2 ⟨rfl, hFy, hSP⟩
                  (try go_wp2_with fail)
                  have hF2 := hF1.trans hFy
                  refine hK.out _ _ ?_ (fun hHeld2 => ?_)
                  · (try dsimp only); exact HX.out _ hF2
                  clear hK K HNX
                  try simp only [Act.put, List.setIfInBounds_toArray, List.set_cons_zero, List.set_cons_succ]
                  have hcc : (c != c) = false := by simp
                  refine take_yes 12 114 rfl rfl (by kernel_rfl) (by kernel_rfl) (by kernel_rfl) (fun _ _ _ h => h) (by rfl) (by assumption) (v := ?_) ?_ ?_
                  rotate_left
                  · intro w hSw; (try dsimp only at hSw); go_simp; (try with_reducible rfl)
                  try simp only [Act.put, List.setIfInBounds_toArray, List.set_cons_zero, List.set_cons_succ]
                  refine wpAnyH_done (by kernel_rfl) ?_ _
                  have HSP := Lib.hid (hSP.up (n' := v2.heap.size) (j' := j + 1) (Nat.max_le.2 ⟨Nat.le_trans HN3.out hF2.size2, Nat.le_refl _⟩) (by omega))
                  have HO2 := Lib.hid (And.intro (hF2.blk HO.out (Or.inr (Nat.le_refl _))) (FrB.sub HF3.out hF2 (by have := HBW.out; omega)))
                  clear hSP hFy hF1 hF2 hHeld1 hHeld2 hcc PL
                  go_wp2_with fail
                  go_meet
                  exact ⟨HSP.out, HO2.out⟩
                · have hd1 : (kd == 1) = false := by simpa using hk1
                  by_cases hk2 : kd = 2
                  · have hd2 : (kd == 2) = true := by simpa using hk2
                    have PL := Lib.hid fun W (hW : Fr [] W3 W) => play_pap f s t HLL.out.1 HLL.out.2.1 HV.out.2.1 HV.out.2.2 HJ1.out (HSP3.out.fr0 hW)
                    clear hk1 hk2 hlen y0 y1 y2 y3 y4 y5
                    go_wp2_with fail
                    clear z0 z1 z2 z3 z4 z5
                    refine wp_region_held_drew (S := (fun W => (W.cell? ⟨n, 0, none⟩ = some (.int .i64 kd) ∧ W.cell? ⟨n, 1, none⟩ = some (.int .i64 id) ∧ W.cell? ⟨n, 2, none⟩ = some (.int .i64 t) ∧ W.cell? ⟨n, 3, none⟩ = some (.string (B f)) ∧ W.cell? ⟨n, 4, none⟩ = some (.string (B s)) ∧ W.cell? ⟨n, 5, none⟩ = some (.string (B v))) ∧ FrB b n W3 W)) (by kernel_rfl) ?_ (fun hHeld => ?_)
                    · (try dsimp only); exact hG0
                    have hZ := (Fr.refl [] W3).drew
                    obtain ⟨v0, hv⟩ : ∃ X, W3.drew = X := ⟨_, rfl⟩
                    rw [hv] at hHeld hZ ⊢
                    clear hv hG0
                    refine take_yes 0 117 rfl rfl (by kernel_rfl) (by kernel_rfl) (by kernel_rfl) (fun _ _ _ h => h) (by rfl) (by assumption) (v := ?_) ?_ ?_
                    rotate_left
                    · intro w hSw; (try dsimp only at hSw); go_simp; (try with_reducible rfl)
                    try simp only [Act.put, List.setIfInBounds_toArray, List.set_cons_zero, List.set_cons_succ]
                    refine take_yes 1 118 rfl rfl (by kernel_rfl) (by kernel_rfl) (by kernel_rfl) (fun _ _ _ h => h) (by rfl) (by assumption) (v := ?_) ?_ ?_
                    rotate_left
                    · intro w hSw; (try dsimp only at hSw); go_simp; (try with_reducible rfl)
                    try simp only [Act.put, List.setIfInBounds_toArray, List.set_cons_zero, List.set_cons_succ]
                    refine take_yes 2 119 rfl rfl (by kernel_rfl) (by kernel_rfl) (by kernel_rfl) (fun _ _ _ h => h) (by rfl) (by assumption) (v := ?_) ?_ ?_
                    rotate_left
                    · intro w hSw; (try dsimp only at hSw); go_simp; (try with_reducible rfl)
                    try simp only [Act.put, List.setIfInBounds_toArray, List.set_cons_zero, List.set_cons_succ]
                    refine take_yes 3 120 rfl rfl (by kernel_rfl) (by kernel_rfl) (by kernel_rfl) (fun _ _ _ h => h) (by rfl) (by assumption) (v := ?_) ?_ ?_
                    rotate_left
                    · intro w hSw; (try dsimp only at hSw); go_simp; (try with_reducible rfl)
                    try simp only [Act.put, List.setIfInBounds_toArray, List.set_cons_zero, List.set_cons_succ]
                    refine take_yes 4 121 rfl rfl (by kernel_rfl) (by kernel_rfl) (by kernel_rfl) (fun _ _ _ h => h) (by rfl) (by assumption) (v := ?_) ?_ ?_
                    rotate_left
                    · intro w hSw; (try dsimp only at hSw); go_simp; (try with_reducible rfl)
                    try simp only [Act.put, List.setIfInBounds_toArray, List.set_cons_zero, List.set_cons_succ]
                    refine take_yes 5 122 rfl rfl (by kernel_rfl) (by kernel_rfl) (by kernel_rfl) (fun _ _ _ h => h) (by rfl) (by assumption) (v := ?_) ?_ ?_
                    rotate_left
                    · intro w hSw; (try dsimp only at hSw); go_simp; (try with_reducible rfl)
                    try simp only [Act.put, List.setIfInBounds_toArray, List.set_cons_zero, List.set_cons_succ]
                    refine take_yes 6 123 rfl rfl (by kernel_rfl) (by kernel_rfl) (by kernel_rfl) (fun _ _ _ h => h) (by rfl) (by assumption) (v := ?_) ?_ ?_
                    rotate_left
                    · intro w hSw; (try dsimp only at hSw); go_simp; (try with_reducible rfl)
                    try simp only [Act.put, List.setIfInBounds_toArray, List.set_cons_zero, List.set_cons_succ]
                    refine take_yes 8 125 rfl rfl (by kernel_rfl) (by kernel_rfl) (by kernel_rfl) (fun _ _ _ h => h) (by rfl) (by assumption) (v := ?_) ?_ ?_
                    rotate_left
                    · intro w hSw; (try dsimp only at hSw); go_simp; (try with_reducible rfl)
                    try simp only [Act.put, List.setIfInBounds_toArray, List.set_cons_zero, List.set_cons_succ]
                    refine take_yes 9 126 rfl rfl (by kernel_rfl) (by kernel_rfl) (by kernel_rfl) (fun _ _ _ h => h) (by rfl) (by assumption) (v := ?_) ?_ ?_
                    rotate_left
                    · intro w hSw; (try dsimp only at hSw); go_simp; (try with_reducible rfl)
                    try simp only [Act.put, List.setIfInBounds_toArray, List.set_cons_zero, List.set_cons_succ]
                    refine take_yes 10 127 rfl rfl (by kernel_rfl) (by kernel_rfl) (by kernel_rfl) (fun _ _ _ h => h) (by rfl) (by assumption) (v := ?_) ?_ ?_
                    rotate_left
                    · intro w hSw; (try dsimp only at hSw); go_simp; (try with_reducible rfl)
                    try simp only [Act.put, List.setIfInBounds_toArray, List.set_cons_zero, List.set_cons_succ]
                    refine take_yes 11 128 rfl rfl (by kernel_rfl) (by kernel_rfl) (by kernel_rfl) (fun _ _ _ h => h) (by rfl) (by assumption) (v := ?_) ?_ ?_
                    rotate_left
                    · intro w hSw; (try dsimp only at hSw); go_simp; (try with_reducible rfl)
                    try simp only [Act.put, List.setIfInBounds_toArray, List.set_cons_zero, List.set_cons_succ]
                    refine take_yes 12 129 rfl rfl (by kernel_rfl) (by kernel_rfl) (by kernel_rfl) (fun _ _ _ h => h) (by rfl) (by assumption) (v := ?_) ?_ ?_
                    rotate_left
                    · intro w hSw; (try dsimp only at hSw); go_simp; (try with_reducible rfl)
                    try simp only [Act.put, List.setIfInBounds_toArray, List.set_cons_zero, List.set_cons_succ]
                    refine take_yes 13 130 rfl rfl (by kernel_rfl) (by kernel_rfl) (by kernel_rfl) (fun _ _ _ h => h) (by rfl) (by assumption) (v := ?_) ?_ ?_
                    rotate_left
                    · intro w hSw; (try dsimp only at hSw); go_simp; (try with_reducible rfl)
                    try simp only [Act.put, List.setIfInBounds_toArray, List.set_cons_zero, List.set_cons_succ]
                    refine take_yes 14 131 rfl rfl (by kernel_rfl) (by kernel_rfl) (by kernel_rfl) (fun _ _ _ h => h) (by rfl) (by assumption) (v := ?_) ?_ ?_
                    rotate_left
                    · intro w hSw; (try dsimp only at hSw); go_simp; (try with_reducible rfl)
                    try simp only [Act.put, List.setIfInBounds_toArray, List.set_cons_zero, List.set_cons_succ]
                    refine wpAnyH_ready (rs := [7]) (by kernel_rfl) (by simp) ?_
                    refine AllReadyH.cons (o := _) rfl (fun K hK => ?_) AllReadyH.nil
                    go_simp
                    refine (PL.out v0 hZ).mono ?_
                    rintro e v1 ⟨c, rfl, hFx, hNext⟩
                    (try go_wp2_with fail)
                    have HNX := Lib.hid (hNext v1 (Fr.refl _ _))
                    have hF1 := FrB.pre hZ hFx
                    refine hK.out _ _ ?_ (fun hHeld1 => ?_)
                    · (try dsimp only); exact HX.out _ hF1
                    clear hK K hNext hFx hHeld hZ
                    try simp only [Act.put, List.setIfInBounds_toArray, List.set_cons_zero, List.set_cons_succ]
                    refine wpAnyH_ready (rs := [15]) (by kernel_rfl) (by simp) ?_
                    refine AllReadyH.cons (o := _) rfl (fun K hK => ?_) AllReadyH.nil
                    go_simp
                    refine HNX.out.mono ?_
                    rintro e v2 ⟨rfl, hFy, hSP⟩
                    (try go_wp2_with fail)
                    have hF2 := hF1.trans hFy
                    refine hK.out _ _ ?_ (fun hHeld2 => ?_)
                    · (try dsimp only); exact HX.out _ hF2
                    clear hK K HNX
                    try simp only [Act.put, List.setIfInBounds_toArray, List.set_cons_zero, List.set_cons_succ]
                    have hcc : (c != c) = false := by simp
                    refine take_yes 16 133 rfl rfl (by kernel_rfl) (by kernel_rfl) (by kernel_rfl) (fun _ _ _ h => h) (by rfl) (by assumption) (v := ?_) ?_ ?_
                    rotate_left
                    · intro w hSw; (try dsimp only at hSw); go_simp; (try with_reducible rfl)
                    try simp only [Act.put, List.setIfInBounds_toArray, List.set_cons_zero, List.set_cons_succ]
                    refine wpAnyH_done (by kernel_rfl) ?_ _
                    have HSP := Lib.hid (hSP.up (n' := v2.heap.size) (j' := j + 1) (Nat.max_le.2 ⟨Nat.le_trans HN3.out hF2.size2, Nat.le_refl _⟩) (Nat.le_refl _))
                    have HO2 := Lib.hid (And.intro (hF2.blk HO.out (Or.inr (Nat.le_refl _))) (FrB.sub HF3.out hF2 (by have := HBW.out; omega)))
                    clear hSP hFy hF1 hF2 hHeld1 hHeld2 hcc PL
                    go_wp2_with fail
                    go_meet
                    exact ⟨HSP.out, HO2.out⟩
                  · have hd2 : (kd == 2) = false := by simpa using hk2
                    have PL := Lib.hid fun W (hW : Fr [] W3 W) => play_chap f v s id t HLL.out.1 HLL.out.2.2 HLL.out.2.1 HV.out.1.1 HV.out.1.2 HV.out.2.1 HV.out.2.2 HJ1.out (HSP3.out.fr0 hW)
                    clear hk1 hk2 hlen y0 y1 y2 y3 y4 y5
                    go_wp2_with fail
                    clear z0 z1 z2 z3 z4 z5
                    refine wp_region_held_drew (S := (fun W => (W.cell? ⟨n, 0, none⟩ = some (.int .i64 kd) ∧ W.cell? ⟨n, 1, none⟩ = some (.int .i64 id) ∧ W.cell? ⟨n, 2, none⟩ = some (.int .i64 t) ∧ W.cell? ⟨n, 3, none⟩ = some (.string (B f)) ∧ W.cell? ⟨n, 4, none⟩ = some (.string (B s)) ∧ W.cell? ⟨n, 5, none⟩ = some (.string (B v))) ∧ FrB b n W3 W)) (by kernel_rfl) ?_ (fun hHeld => ?_)
                    · (try dsimp only); exact hG0
                    have hZ := (Fr.refl [] W3).drew
                    obtain ⟨v0, hv⟩ : ∃ X, W3.drew = X := ⟨_, rfl⟩
                    rw [hv] at hHeld hZ ⊢
                    clear hv hG0
                    refine take_yes 0 75 rfl rfl (by kernel_rfl) (by kernel_rfl) (by kernel_rfl) (fun _ _ _ h => h) (by rfl) (by assumption) (v := ?_) ?_ ?_
                    rotate_left
                    · intro w hSw; (try dsimp only at hSw); go_simp; (try with_reducible rfl)
                    try simp only [Act.put, List.setIfInBounds_toArray, List.set_cons_zero, List.set_cons_succ]
                    refine take_yes 1 76 rfl rfl (by kernel_rfl) (by kernel_rfl) (by kernel_rfl) (fun _ _ _ h => h) (by rfl) (by assumption) (v := ?_) ?_ ?_
                    rotate_left
                    · intro w hSw; (try dsimp only at hSw); go_simp; (try with_reducible rfl)
                    try simp only [Act.put, List.setIfInBounds_toArray, List.set_cons_zero, List.set_cons_succ]
                    refine take_yes 2 77 rfl rfl (by kernel_rfl) (by kernel_rfl) (by kernel_rfl) (fun _ _ _ h => h) (by rfl) (by assumption) (v := ?_) ?_ ?_
                    rotate_left
                    · intro w hSw; (try dsimp only at hSw); go_simp; (try with_reducible rfl)
                    try simp only [Act.put, List.setIfInBounds_toArray, List.set_cons_zero, List.set_cons_succ]
                    refine take_yes 3 78 rfl rfl (by kernel_rfl) (by kernel_rfl) (by kernel_rfl) (fun _ _ _ h => h) (by rfl) (by assumption) (v := ?_) ?_ ?_
                    rotate_left
                    · intro w hSw; (try dsimp only at hSw); go_simp; (try with_reducible rfl)
                    try simp only [Act.put, List.setIfInBounds_toArray, List.set_cons_zero, List.set_cons_succ]
                    refine take_yes 4 79 rfl rfl (by kernel_rfl) (by kernel_rfl) (by kernel_rfl) (fun _ _ _ h => h) (by rfl) (by assumption) (v := ?_) ?_ ?_
                    rotate_left
                    · intro w hSw; (try dsimp only at hSw); go_simp; (try with_reducible rfl)
                    try simp only [Act.put, List.setIfInBounds_toArray, List.set_cons_zero, List.set_cons_succ]
                    refine take_yes 5 80 rfl rfl (by kernel_rfl) (by kernel_rfl) (by kernel_rfl) (fun _ _ _ h => h) (by rfl) (by assumption) (v := ?_) ?_ ?_
                    rotate_left
                    · intro w hSw; (try dsimp only at hSw); go_simp; (try with_reducible rfl)
                    try simp only [Act.put, List.setIfInBounds_toArray, List.set_cons_zero, List.set_cons_succ]
                    refine take_yes 6 81 rfl rfl (by kernel_rfl) (by kernel_rfl) (by kernel_rfl) (fun _ _ _ h => h) (by rfl) (by assumption) (v := ?_) ?_ ?_
                    rotate_left
                    · intro w hSw; (try dsimp only at hSw); go_simp; (try with_reducible rfl)
                    try simp only [Act.put, List.setIfInBounds_toArray, List.set_cons_zero, List.set_cons_succ]
                    refine take_yes 7 82 rfl rfl (by kernel_rfl) (by kernel_rfl) (by kernel_rfl) (fun _ _ _ h => h) (by rfl) (by assumption) (v := ?_) ?_ ?_
                    rotate_left
                    · intro w hSw; (try dsimp only at hSw); go_simp; (try with_reducible rfl)
                    try simp only [Act.put, List.setIfInBounds_toArray, List.set_cons_zero, List.set_cons_succ]
                    refine take_yes 8 83 rfl rfl (by kernel_rfl) (by kernel_rfl) (by kernel_rfl) (fun _ _ _ h => h) (by rfl) (by assumption) (v := ?_) ?_ ?_
                    rotate_left
                    · intro w hSw; (try dsimp only at hSw); go_simp; (try with_reducible rfl)
                    try simp only [Act.put, List.setIfInBounds_toArray, List.set_cons_zero, List.set_cons_succ]
                    refine take_yes 9 84 rfl rfl (by kernel_rfl) (by kernel_rfl) (by kernel_rfl) (fun _ _ _ h => h) (by rfl) (by assumption) (v := ?_) ?_ ?_
                    rotate_left
                    · intro w hSw; (try dsimp only at hSw); go_simp; (try with_reducible rfl)
                    try simp only [Act.put, List.setIfInBounds_toArray, List.set_cons_zero, List.set_cons_succ]
                    refine take_yes 10 85 rfl rfl (by kernel_rfl) (by kernel_rfl) (by kernel_rfl) (fun _ _ _ h => h) (by rfl) (by assumption) (v := ?_) ?_ ?_
                    rotate_left
                    · intro w hSw; (try dsimp only at hSw); go_simp; (try with_reducible rfl)
                    try simp only [Act.put, List.setIfInBounds_toArray, List.set_cons_zero, List.set_cons_succ]
                    refine take_yes 12 87 rfl rfl (by kernel_rfl) (by kernel_rfl) (by kernel_rfl) (fun _ _ _ h => h) (by rfl) (by assumption) (v := ?_) ?_ ?_
                    rotate_left
                    · intro w hSw; (try dsimp only at hSw); go_simp; (try with_reducible rfl)
                    try simp only [Act.put, List.setIfInBounds_toArray, List.set_cons_zero, List.set_cons_succ]
                    refine take_yes 13 88 rfl rfl (by kernel_rfl) (by kernel_rfl) (by kernel_rfl) (fun _ _ _ h => h) (by rfl) (by assumption) (v := ?_) ?_ ?_
                    rotate_left
                    · intro w hSw; (try dsimp only at hSw); go_simp; (try with_reducible rfl)
                    try simp only [Act.put, List.setIfInBounds_toArray, List.set_cons_zero, List.set_cons_succ]
                    refine take_yes 14 89 rfl rfl (by kernel_rfl) (by kernel_rfl) (by kernel_rfl) (fun _ _ _ h => h) (by rfl) (by assumption) (v := ?_) ?_ ?_
                    rotate_left
                    · intro w hSw; (try dsimp only at hSw); go_simp; (try with_reducible rfl)
                    try simp only [Act.put, List.setIfInBounds_toArray, List.set_cons_zero, List.set_cons_succ]
                    refine take_yes 15 90 rfl rfl (by kernel_rfl) (by kernel_rfl) (by kernel_rfl) (fun _ _ _ h => h) (by rfl) (by assumption) (v := ?_) ?_ ?_
                    rotate_left
                    · intro w hSw; (try dsimp only at hSw); go_simp; (try with_reducible rfl)
                    try simp only [Act.put, List.setIfInBounds_toArray, List.set_cons_zero, List.set_cons_succ]
                    refine take_yes 16 91 rfl rfl (by kernel_rfl) (by kernel_rfl) (by kernel_rfl) (fun _ _ _ h => h) (by rfl) (by assumption) (v := ?_) ?_ ?_
                    rotate_left
                    · intro w hSw; (try dsimp only at hSw); go_simp; (try with_reducible rfl)
                    try simp only [Act.put, List.setIfInBounds_toArray, List.set_cons_zero, List.set_cons_succ]
                    refine take_yes 17 92 rfl rfl (by kernel_rfl) (by kernel_rfl) (by kernel_rfl) (fun _ _ _ h => h) (by rfl) (by assumption) (v := ?_) ?_ ?_
                    rotate_left
                    · intro w hSw; (try dsimp only at hSw); go_simp; (try with_reducible rfl)
                    try simp only [Act.put, List.setIfInBounds_toArray, List.set_cons_zero, List.set_cons_succ]
                    refine take_yes 18 93 rfl rfl (by kernel_rfl) (by kernel_rfl) (by kernel_rfl) (fun _ _ _ h => h) (by rfl) (by assumption) (v := ?_) ?_ ?_
                    rotate_left
                    · intro w hSw; (try dsimp only at hSw); go_simp; (try with_reducible rfl)
                    try simp only [Act.put, List.setIfInBounds_toArray, List.set_cons_zero, List.set_cons_succ]
                    refine take_yes 19 94 rfl rfl (by kernel_rfl) (by kernel_rfl) (by kernel_rfl) (fun _ _ _ h => h) (by rfl) (by assumption) (v := ?_) ?_ ?_
                    rotate_left
                    · intro w hSw; (try dsimp only at hSw); go_simp; (try with_reducible rfl)
                    try simp only [Act.put, List.setIfInBounds_toArray, List.set_cons_zero, List.set_cons_succ]
                    refine take_yes 20 95 rfl rfl (by kernel_rfl) (by kernel_rfl) (by kernel_rfl) (fun _ _ _ h => h) (by rfl) (by assumption) (v := ?_) ?_ ?_
                    rotate_left
                    · intro w hSw; (try dsimp only at hSw); go_simp; (try with_reducible rfl)
                    try simp only [Act.put, List.setIfInBounds_toArray, List.set_cons_zero, List.set_cons_succ]
                    refine take_yes 21 96 rfl rfl (by kernel_rfl) (by kernel_rfl) (by kernel_rfl) (fun _ _ _ h => h) (by rfl) (by assumption) (v := ?_) ?_ ?_
                    rotate_left
                    · intro w hSw; (try dsimp only at hSw); go_simp; (try with_reducible rfl)
                    try simp only [Act.put, List.setIfInBounds_toArray, List.set_cons_zero, List.set_cons_succ]
                    refine take_yes 22 97 rfl rfl (by kernel_rfl) (by kernel_rfl) (by kernel_rfl) (fun _ _ _ h => h) (by rfl) (by assumption) (v := ?_) ?_ ?_
                    rotate_left
                    · intro w hSw; (try dsimp only at hSw); go_simp; (try with_reducible rfl)
                    try simp only [Act.put, List.setIfInBounds_toArray, List.set_cons_zero, List.set_cons_succ]
                    refine wpAnyH_ready (rs := [11]) (by kernel_rfl) (by simp) ?_
                    refine AllReadyH.cons (o := _) rfl (fun K hK => ?_) AllReadyH.nil
                    go_simp
                    refine (PL.out v0 hZ).mono ?_
                    rintro e v1 ⟨c, rfl, hFx, hNext⟩
                    (try go_wp2_with fail)
                    have HNX := Lib.hid (hNext v1 (Fr.refl _ _))
                    have hF1 := FrB.pre hZ hFx
                    refine hK.out _ _ ?_ (fun hHeld1 => ?_)
                    · (try dsimp only); exact HX.out _ hF1
                    clear hK K hNext hFx hHeld hZ
                    try simp only [Act.put, List.setIfInBounds_toArray, List.set_cons_zero, List.set_cons_succ]
                    refine wpAnyH_ready (rs := [23]) (by kernel_rfl) (by simp) ?_
                    refine AllReadyH.cons (o := _) rfl (fun K hK => ?_) AllReadyH.nil
                    go_simp
                    refine HNX.out.mono ?_
                    rintro e v2 ⟨rfl, hFy, hSP⟩
                    (try go_wp2_with fail)
                    have hF2 := hF1.trans hFy
                    refine hK.out _ _ ?_ (fun hHeld2 => ?_)
                    · (try dsimp only); exact HX.out _ hF2
                    clear hK K HNX
                    try simp only [Act.put, List.setIfInBounds_toArray, List.set_cons_zero, List.set_cons_succ]
                    have hcc : (c != c) = false := by simp
                    refine take_yes 24 99 rfl rfl (by kernel_rfl) (by kernel_rfl) (by kernel_rfl) (fun _ _ _ h => h) (by rfl) (by assumption) (v := ?_) ?_ ?_
                    rotate_left
                    · intro w hSw; (try dsimp only at hSw); go_simp; (try with_reducible rfl)
                    try simp only [Act.put, List.setIfInBounds_toArray, List.set_cons_zero, List.set_cons_succ]
                    refine wpAnyH_done (by kernel_rfl) ?_ _
                    have HSP := Lib.hid (hSP.up (n' := v2.heap.size) (j' := j + 1) (Nat.max_le.2 ⟨Nat.le_trans HN3.out hF2.size2, Nat.le_refl _⟩) (Nat.le_refl _))
                    have HO2 := Lib.hid (And.intro (hF2.blk HO.out (Or.inr (Nat.le_refl _))) (FrB.sub HF3.out hF2 (by have := HBW.out; omega)))
                    clear hSP hFy hF1 hF2 hHeld1 hHeld2 hcc PL
                    go_wp2_with fail
                    go_meet
                    exact ⟨HSP.out, HO2.out⟩
              case rest =>
                clear z0 z1 z2 z3 z4 z5 y0 y1 y2 y3 y4 y5 hG0 HX HSP3 HF3 HN3 HO hlen hW3
                obtain ⟨hSP, hO, hF⟩ := hcut
                have HSP := Lib.hid hSP
                have z3 := hO.c 3 _ rfl
                have HO := Lib.hid hO
                have HF := Lib.hid hF
                have RS := Lib.hid fun W => rsplit_any f W (by have := HLL.out; omega)
                have SPP := Lib.hid fun W => split_any f W (by have := HLL.out; omega)
                unfold whoC at RS SPP
                obtain ⟨n1, hn1⟩ : ∃ x, spN f = x := ⟨_, rfl⟩
                obtain ⟨n2, hn2⟩ : ∃ x, spR f = x := ⟨_, rfl⟩
                rw [hn1, hn2] at RS SPP
                clear hSP hO hF hn1 hn2
                go_wp2_with fail
                refine (RS.out _).mono ?_
                rintro e w4 ⟨rfl, hF4⟩
                have hF5 := hF4.alloc (.cells #[.string (B n1), .string (B n2)] 77 (0, 0))
                have hNQ := Blk.new w4 #[.string (B n1), .string (B n2)] 77
                clear z3
                go_wp2_with fail
                obtain ⟨q, hq⟩ : ∃ q, w4.heap.size = q := ⟨_, rfl⟩
                obtain ⟨W5, hW5⟩ : ∃ V, w4.alloc (.cells #[.string (B n1), .string (B n2)] 77 (0, 0)) = V := ⟨_, rfl⟩
                rw [hq] at hNQ ⊢
                rw [hW5] at hNQ hF5 ⊢
                have HSP5 := Lib.hid ((HSP.out.fr0 hF5).up hF5.size (Nat.le_refl _))
                have HF5 := Lib.hid (HF.out.trans hF5)
                obtain ⟨c, hc1, hc2⟩ := play_wrong f HLL.out.1 HSP5.out
                obtain ⟨cr, Ar, capr, hr1, hr2, hr3, hr4⟩ := play_len HSP5.out
                have WP := Lib.hid hc1
                have WD := Lib.hid hc2
                have LN := Lib.hid hr3
                have HY : Hid (∀ W, Fr [] W5 W → (fun W => (W.cell? ⟨n, 0, none⟩ = some (.int .i64 kd) ∧ W.cell? ⟨n, 1, none⟩ = some (.int .i64 id) ∧ W.cell? ⟨n, 2, none⟩ = some (.int .i64 t) ∧ W.cell? ⟨n, 3, none⟩ = some (.string (B f)) ∧ W.cell? ⟨n, 4, none⟩ = some (.string (B s)) ∧ W.cell? ⟨n, 5, none⟩ = some (.string (B v)) ∧ W.cell? ⟨q, 0, none⟩ = some (.string (B n1)) ∧ W.cell? ⟨q, 1, none⟩ = some (.string (B n2)) ∧ W.cell? ⟨g2, 2, none⟩ = some (.slice Ar cr capr)) ∧ Fr [] W5 W) W) := Lib.hid fun W hW => by
                  have bh := hW.blk (hF5.blk HO.out (by simp)) (by simp)
                  have bq := hW.blk hNQ (by simp)
                  exact ⟨⟨bh.c 0 _ rfl, bh.c 1 _ rfl, bh.c 2 _ rfl, bh.c 3 _ rfl, bh.c 4 _ rfl, bh.c 5 _ rfl, bq.c 0 _ rfl, bq.c 1 _ rfl, hr4 W hW⟩, hW⟩
                have hG0 := HY.out _ (Fr.refl [] W5).drew
                dsimp only at hG0
                have heq := fun W => eq_who n1 n2 n1 n2 W
                rw [decide_eq_true rfl] at heq
                clear hc1 hc2 hr3 hr4 hF4 hF5 hNQ hq hW5 HSP HO HF
                refine wp_region_held_drew (S := (fun W => (W.cell? ⟨n, 0, none⟩ = some (.int .i64 kd) ∧ W.cell? ⟨n, 1, none⟩ = some (.int .i64 id) ∧ W.cell? ⟨n, 2, none⟩ = some (.int .i64 t) ∧ W.cell? ⟨n, 3, none⟩ = some (.string (B f)) ∧ W.cell? ⟨n, 4, none⟩ = some (.string (B s)) ∧ W.cell? ⟨n, 5, none⟩ = some (.string (B v)) ∧ W.cell? ⟨q, 0, none⟩ = some (.string (B n1)) ∧ W.cell? ⟨q, 1, none⟩ = some (.string (B n2)) ∧ W.cell? ⟨g2, 2, none⟩ = some (.slice Ar cr capr)) ∧ Fr [] W5 W)) (by kernel_rfl) ?_ (fun hHeld => ?_)
                · (try dsimp only); exact hG0
                have hZ := (Fr.refl [] W5).drew
                obtain ⟨v0, hv⟩ : ∃ X, W5.drew = X := ⟨_, rfl⟩
                rw [hv] at hHeld hZ ⊢
                clear hv hG0
                refine take_yes 0 137 rfl rfl (by kernel_rfl) (by kernel_rfl) (by kernel_rfl) (fun _ _ _ h => h) (by rfl) (by assumption) (v := ?_) ?_ ?_
                rotate_left
                · intro w hSw; (try dsimp only at hSw); go_simp; (try with_reducible rfl)
                try simp only [Act.put, List.setIfInBounds_toArray, List.set_cons_zero, List.set_cons_succ]
                refine take_yes 1 138 rfl rfl (by kernel_rfl) (by kernel_rfl) (by kernel_rfl) (fun _ _ _ h => h) (by rfl) (by assumption) (v := ?_) ?_ ?_
                rotate_left
                · intro w hSw; (try dsimp only at hSw); go_simp; (try with_reducible rfl)
                try simp only [Act.put, List.setIfInBounds_toArray, List.set_cons_zero, List.set_cons_succ]
                refine take_yes 2 139 rfl rfl (by kernel_rfl) (by kernel_rfl) (by kernel_rfl) (fun _ _ _ h => h) (by rfl) (by assumption) (v := ?_) ?_ ?_
                rotate_left
                · intro w hSw; (try dsimp only at hSw); go_simp; (try with_reducible rfl)
                try simp only [Act.put, List.setIfInBounds_toArray, List.set_cons_zero, List.set_cons_succ]
                refine take_yes 4 141 rfl rfl (by kernel_rfl) (by kernel_rfl) (by kernel_rfl) (fun _ _ _ h => h) (by rfl) (by assumption) (v := ?_) ?_ ?_
                rotate_left
                · intro w hSw; (try dsimp only at hSw); go_simp; (try with_reducible rfl)
                try simp only [Act.put, List.setIfInBounds_toArray, List.set_cons_zero, List.set_cons_succ]
                refine take_yes 5 142 rfl rfl (by kernel_rfl) (by kernel_rfl) (by kernel_rfl) (fun _ _ _ h => h) (by rfl) (by assumption) (v := ?_) ?_ ?_
                rotate_left
                · intro w hSw; (try dsimp only at hSw); go_simp; (try with_reducible rfl)
                try simp only [Act.put, List.setIfInBounds_toArray, List.set_cons_zero, List.set_cons_succ]
                refine take_yes 6 143 rfl rfl (by kernel_rfl) (by kernel_rfl) (by kernel_rfl) (fun _ _ _ h => h) (by rfl) (by assumption) (v := ?_) ?_ ?_
                rotate_left
                · intro w hSw; (try dsimp only at hSw); go_simp; (try with_reducible rfl)
                try simp only [Act.put, List.setIfInBounds_toArray, List.set_cons_zero, List.set_cons_succ]
                refine wpAnyH_ready (rs := [3]) (by kernel_rfl) (by simp) ?_
                refine AllReadyH.cons (o := _) rfl (fun K hK => ?_) AllReadyH.nil
                go_simp
                refine (WP.out v0 hZ).mono ?_
                rintro e v1 ⟨rfl, hFx⟩
                (try go_wp2_with fail)
                replace hZ := hZ.trans hFx
                refine hK.out _ _ ?_ (fun hHeld1 => ?_)
                · (try dsimp only); exact HY.out _ hZ
                clear hK K hFx hHeld
                have hHeld := hHeld1
                clear hHeld1
                try simp only [Act.put, List.setIfInBounds_toArray, List.set_cons_zero, List.set_cons_succ]
                refine wpAnyH_ready (rs := [7]) (by kernel_rfl) (by simp) ?_
                refine AllReadyH.cons (o := _) rfl (fun K hK => ?_) AllReadyH.nil
                go_simp
                refine (WD.out v1 hZ).mono ?_
                rintro e v2 ⟨rfl, hFx⟩
                (try go_wp2_with fail)
                replace hZ := hZ.trans hFx
                refine hK.out _ _ ?_ (fun hHeld1 => ?_)
                · (try dsimp only); exact HY.out _ hZ
                clear hK K hFx hHeld
                have hHeld := hHeld1
                clear hHeld1
                try simp only [Act.put, List.setIfInBounds_toArray, List.set_cons_zero, List.set_cons_succ]
                have hcc : (c != c) = false := by simp
                refine take_yes 8 145 rfl rfl (by kernel_rfl) (by kernel_rfl) (by kernel_rfl) (fun _ _ _ h => h) (by rfl) (by assumption) (v := ?_) ?_ ?_
                rotate_left
                · intro w hSw; (try dsimp only at hSw); go_simp; (try with_reducible rfl)
                try simp only [Act.put, List.setIfInBounds_toArray, List.set_cons_zero, List.set_cons_succ]
                refine take_yes 9 146 rfl rfl (by kernel_rfl) (by kernel_rfl) (by kernel_rfl) (fun _ _ _ h => h) (by rfl) (by assumption) (v := ?_) ?_ ?_
                rotate_left
                · intro w hSw; (try dsimp only at hSw); go_simp; (try with_reducible rfl)
                try simp only [Act.put, List.setIfInBounds_toArray, List.set_cons_zero, List.set_cons_succ]
                refine take_yes 10 147 rfl rfl (by kernel_rfl) (by kernel_rfl) (by kernel_rfl) (fun _ _ _ h => h) (by rfl) (by assumption) (v := ?_) ?_ ?_
                rotate_left
                · intro w hSw; (try dsimp only at hSw); go_simp; (try with_reducible rfl)
                try simp only [Act.put, List.setIfInBounds_toArray, List.set_cons_zero, List.set_cons_succ]
                refine take_yes 12 149 rfl rfl (by kernel_rfl) (by kernel_rfl) (by kernel_rfl) (fun _ _ _ h => h) (by rfl) (by assumption) (v := ?_) ?_ ?_
                rotate_left
                · intro w hSw; (try dsimp only at hSw); go_simp; (try with_reducible rfl)
                try simp only [Act.put, List.setIfInBounds_toArray, List.set_cons_zero, List.set_cons_succ]
                refine take_yes 13 150 rfl rfl (by kernel_rfl) (by kernel_rfl) (by kernel_rfl) (fun _ _ _ h => h) (by rfl) (by assumption) (v := ?_) ?_ ?_
                rotate_left
                · intro w hSw; (try dsimp only at hSw); go_simp; (try with_reducible rfl)
                try simp only [Act.put, List.setIfInBounds_toArray, List.set_cons_zero, List.set_cons_succ]
                refine take_yes 14 151 rfl rfl (by kernel_rfl) (by kernel_rfl) (by kernel_rfl) (fun _ _ _ h => h) (by rfl) (by assumption) (v := ?_) ?_ ?_
                rotate_left
                · intro w hSw; (try dsimp only at hSw); go_simp; (try with_reducible rfl)
                try simp only [Act.put, List.setIfInBounds_toArray, List.set_cons_zero, List.set_cons_succ]
                refine take_yes 15 152 rfl rfl (by kernel_rfl) (by kernel_rfl) (by kernel_rfl) (fun _ _ _ h => h) (by rfl) (by assumption) (v := ?_) ?_ ?_
                rotate_left
                · intro w hSw; (try dsimp only at hSw); go_simp; (try with_reducible rfl)
                try simp only [Act.put, List.setIfInBounds_toArray, List.set_cons_zero, List.set_cons_succ]
                refine take_yes 16 153 rfl rfl (by kernel_rfl) (by kernel_rfl) (by kernel_rfl) (fun _ _ _ h => h) (by rfl) (by assumption) (v := ?_) ?_ ?_
                rotate_left
                · intro w hSw; (try dsimp only at hSw); go_simp; (try with_reducible rfl)
                try simp only [Act.put, List.setIfInBounds_toArray, List.set_cons_zero, List.set_cons_succ]
                refine wpAnyH_ready (rs := [11]) (by kernel_rfl) (by simp) ?_
                refine AllReadyH.cons (o := _) rfl (fun K hK => ?_) AllReadyH.nil
                go_simp
                refine (LN.out v2 hZ).mono ?_
                rintro e v3 ⟨rfl, rfl⟩
                (try go_wp2_with fail)
                refine hK.out _ _ ?_ (fun hHeld1 => ?_)
                · (try dsimp only); exact hHeld
                clear hK K hHeld1
                try simp only [Act.put, List.setIfInBounds_toArray, List.set_cons_zero, List.set_cons_succ]
                have hcd : (((cr : Nat) : Int) != (cr : Int)) = false := by simp
                refine take_yes 17 154 rfl rfl (by kernel_rfl) (by kernel_rfl) (by kernel_rfl) (fun _ _ _ h => h) (by rfl) (by assumption) (v := ?_) ?_ ?_
                rotate_left
                · intro w hSw; (try dsimp only at hSw); go_simp; (try with_reducible rfl)
                try simp only [Act.put, List.setIfInBounds_toArray, List.set_cons_zero, List.set_cons_succ]
                refine take_yes 18 155 rfl rfl (by kernel_rfl) (by kernel_rfl) (by kernel_rfl) (fun _ _ _ h => h) (by rfl) (by assumption) (v := ?_) ?_ ?_
                rotate_left
                · intro w hSw; (try dsimp only at hSw); go_simp; (try with_reducible rfl)
                try simp only [Act.put, List.setIfInBounds_toArray, List.set_cons_zero, List.set_cons_succ]
                refine take_yes 19 156 rfl rfl (by kernel_rfl) (by kernel_rfl) (by kernel_rfl) (fun _ _ _ h => h) (by rfl) (by assumption) (v := ?_) ?_ ?_
                rotate_left
                · intro w hSw; (try dsimp only at hSw); go_simp; (try with_reducible rfl)
                try simp only [Act.put, List.setIfInBounds_toArray, List.set_cons_zero, List.set_cons_succ]
                refine take_yes 20 157 rfl rfl (by kernel_rfl) (by kernel_rfl) (by kernel_rfl) (fun _ _ _ h => h) (by rfl) (by assumption) (v := ?_) ?_ ?_
                rotate_left
                · intro w hSw; (try dsimp only at hSw); go_simp; (try with_reducible rfl)
                try simp only [Act.put, List.setIfInBounds_toArray, List.set_cons_zero, List.set_cons_succ]
                refine take_yes 21 158 rfl rfl (by kernel_rfl) (by kernel_rfl) (by kernel_rfl) (fun _ _ _ h => h) (by rfl) (by assumption) (v := ?_) ?_ ?_
                rotate_left
                · intro w hSw; (try dsimp only at hSw); go_simp; (try with_reducible rfl)
                try simp only [Act.put, List.setIfInBounds_toArray, List.set_cons_zero, List.set_cons_succ]
                refine take_yes 23 160 rfl rfl (by kernel_rfl) (by kernel_rfl) (by kernel_rfl) (fun _ _ _ h => h) (by rfl) (by assumption) (v := ?_) ?_ ?_
                rotate_left
                · intro w hSw; (try dsimp only at hSw); go_simp; (try with_reducible rfl)
                try simp only [Act.put, List.setIfInBounds_toArray, List.set_cons_zero, List.set_cons_succ]
                refine take_yes 24 161 rfl rfl (by kernel_rfl) (by kernel_rfl) (by kernel_rfl) (fun _ _ _ h => h) (by rfl) (by assumption) (v := ?_) ?_ ?_
                rotate_left
                · intro w hSw; (try dsimp only at hSw); go_simp; (try with_reducible rfl)
                try simp only [Act.put, List.setIfInBounds_toArray, List.set_cons_zero, List.set_cons_succ]
                refine take_yes 25 162 rfl rfl (by kernel_rfl) (by kernel_rfl) (by kernel_rfl) (fun _ _ _ h => h) (by rfl) (by assumption) (v := ?_) ?_ ?_
                rotate_left
                · intro w hSw; (try dsimp only at hSw); go_simp; (try with_reducible rfl)
                try simp only [Act.put, List.setIfInBounds_toArray, List.set_cons_zero, List.set_cons_succ]
                refine take_yes 26 163 rfl rfl (by kernel_rfl) (by kernel_rfl) (by kernel_rfl) (fun _ _ _ h => h) (by rfl) (by assumption) (v := ?_) ?_ ?_
                rotate_left
                · intro w hSw; (try dsimp only at hSw); go_simp; (try with_reducible rfl)
                try simp only [Act.put, List.setIfInBounds_toArray, List.set_cons_zero, List.set_cons_succ]
                refine take_yes 27 164 rfl rfl (by kernel_rfl) (by kernel_rfl) (by kernel_rfl) (fun _ _ _ h => h) (by rfl) (by assumption) (v := ?_) ?_ ?_
                rotate_left
                · intro w hSw; (try dsimp only at hSw); go_simp; (try with_reducible rfl)
                try simp only [Act.put, List.setIfInBounds_toArray, List.set_cons_zero, List.set_cons_succ]
                refine wpAnyH_ready (rs := [22]) (by kernel_rfl) (by simp) ?_
                refine AllReadyH.cons (o := _) rfl (fun K hK => ?_) AllReadyH.nil
                go_simp
                refine (SPP.out v2).mono ?_
                rintro e v4 ⟨rfl, hFx⟩
                (try go_wp2_with fail)
                replace hZ := hZ.trans hFx
                refine hK.out _ _ ?_ (fun hHeld1 => ?_)
                · (try dsimp only); exact HY.out _ hZ
                clear hK K hFx hHeld
                have hHeld := hHeld1
                clear hHeld1
                try simp only [Act.put, List.setIfInBounds_toArray, List.set_cons_zero, List.set_cons_succ]
                refine take_yes 28 165 rfl rfl (by kernel_rfl) (by kernel_rfl) (by kernel_rfl) (fun _ _ _ h => h) (by rfl) (by assumption) (v := ?_) ?_ ?_
                rotate_left
                · intro w hSw; (try dsimp only at hSw); go_simp; (try with_reducible rfl)
                try simp only [Act.put, List.setIfInBounds_toArray, List.set_cons_zero, List.set_cons_succ]
                refine take_yes 29 166 rfl rfl (by kernel_rfl) (by kernel_rfl) (by kernel_rfl) (fun _ _ _ h => h) (by rfl) (by assumption) (v := ?_) ?_ ?_
                rotate_left
                · intro w hSw; (try dsimp only at hSw); go_simp; (try with_reducible rfl)
                try simp only [Act.put, List.setIfInBounds_toArray, List.set_cons_zero, List.set_cons_succ]
                refine wpAnyH_done (by kernel_rfl) ?_ _
                have HSP := Lib.hid ((HSP5.out.fr0 hZ).up hZ.size (Nat.le_refl _))
                have HF := Lib.hid (HF5.out.trans hZ)
                clear hZ hHeld hcc hcd HY WP WD LN SPP heq HSP5 HF5
                go_wp2_with fail
                go_roundw
                case rel => exact ⟨j + 1, by omega, by go_num, HSP.out, HF.out⟩
                case measure => (simp [intOf]) <;> omega
          · obtain rfl : j = len := by omega
            go_wp2_with fail
            refine (AL.out _).mono ?_
            rintro e w2 ⟨rfl, hF2⟩
            have HF2 := Lib.hid (HF.out.trans hF2)
            clear hF2
            go_wp2_with fail
            refine (set_nil [97] [98]).mono ?_
            rintro e w3 ⟨rfl, hF3⟩
            have HF3 := Lib.hid (HF2.out.trans hF3)
            clear hF3
            go_wp2_with fail
            refine (pap_nil [97] [98] 0).mono ?_
            rintro e w4 ⟨rfl, hF4⟩
            have HF4 := Lib.hid (HF3.out.trans hF4)
            clear hF4
            go_wp2_with fail
            refine (chap_nil [97] [] [] 0 0).mono ?_
            rintro e w5 ⟨rfl, hF5⟩
            have HF5 := Lib.hid (HF4.out.trans hF5)
            clear hF5
            go_wp2_with fail
            refine len_nil.mono ?_
            rintro e w6 ⟨rfl, hF6⟩
            have HF6 := Lib.hid (HF5.out.trans hF6)
            clear hF6
            go_wp2_with fail
            refine (wrong_nil [97]).mono ?_
            rintro e w7 ⟨rfl, hF7⟩
            have HF7 := Lib.hid (HF6.out.trans hF7)
            clear hF7
            go_wp2_with fail
            go_ret
            exact ⟨rfl, HF7.out.below (Nat.le_refl _) (by simp)⟩
    · have hbad : lim < 0 ∨ ¬ lim < 0 ∧ 100 < lim ∨ ¬ lim < 0 ∧ ¬ 100 < lim ∧ calm < 1 ∨ ¬ lim < 0 ∧ ¬ 100 < lim ∧ ¬ calm < 1 ∧ 1000 < calm := by omega
      have NW := Lib.hid fun W => snew_bad (w := W) hbad
      have DW := Lib.hid fun W => dsnew_bad (w := W) lim calm hbad
      have HBW := Lib.hid hbw
      clear hbw hok hbad
      go_enter Try.func12, Try.ntmps12
      go_wp2_with fail
      refine (NW.out _).mono ?_
      rintro e w1 ⟨rfl, rfl⟩
      go_wp2_with fail
      refine (DW.out _).mono ?_
      rintro e w2 ⟨rfl, hF2⟩
      have HF2 := Lib.hid hF2
      clear NW DW hF2
      cases zero with
      | false =>
        go_wp2_with fail
        refine (AL.out _).mono ?_
        rintro e w3 ⟨rfl, hF3⟩
        have HF3 := Lib.hid (HF2.out.trans hF3)
        clear hF3
        go_wp2_with fail
        go_ret
        exact ⟨rfl, HF3.out.below (Nat.le_refl _) (by simp)⟩
      | true =>
        have hZ := zero_pair w2 b (by have := HBW.out; have := HF2.out.size; omega)
        have hFZ := (HF2.out.alloc (.cells #[.int .i64 0, .int .i64 0, .map none] 71 (0, 0))).alloc (.cells #[.int .i64 0, .int .i64 1, .slice none 0 0] 74 (0, 0))
        obtain ⟨wx, hwx⟩ : ∃ V, (w2.alloc (.cells #[.int .i64 0, .int .i64 0, .map none] 71 (0, 0))).alloc (.cells #[.int .i64 0, .int .i64 1, .slice none 0 0] 74 (0, 0)) = V := ⟨_, rfl⟩
        rw [hwx] at hZ hFZ
        obtain ⟨g, hg⟩ : ∃ q, w2.heap.size = q := ⟨_, rfl⟩
        obtain ⟨g2, hg2⟩ : ∃ q, g + 1 = q := ⟨_, rfl⟩
        rw [hg, hg2] at hZ
        have HF0 := Lib.hid hFZ
        obtain ⟨lm, cm, cm2, HSP0⟩ : ∃ lm cm cm2, Hid (SPx b wx.heap.size 0 wx g g2 lm cm cm2) := ⟨_, _, _, Lib.hid hZ⟩
        clear hZ hFZ HF2
        go_wp2_with fail
        go_loopw [13] (fun iv wr => ∃ j : Nat, j ≤ len ∧ iv = .int .i64 j ∧ SPx b wr.heap.size j wr g g2 lm cm cm2 ∧ Fr [] w wr) (fun iv _ => len - (intOf iv).toNat)
        case atStart => exact ⟨0, Nat.zero_le _, rfl, HSP0.out, HF0.out⟩
        case round =>
          obtain ⟨j, hj, rfl, hSP, hF⟩ := hrel
          have HSP := Lib.hid hSP
          have HF := Lib.hid hF
          clear hSP hF
          have hjb : (j : Int) ≤ 300 := by omega
          by_cases hjl : j < len
          · obtain ⟨bb, off, ⟨kd, id, t, f, s, v⟩, rfl, hbb, hx, hV, hcell⟩ := HR.out.at_ j hjl
            obtain ⟨⟨k0, k1⟩, ⟨i0, i1⟩, ⟨t0, t1⟩, fl, sl, vl⟩ := hV
            simp only at k0 k1 i0 i1 t0 t1 fl sl vl
            have hl := hcell wr HF.out
            obtain ⟨y0, y1, y2, y3, y4, y5⟩ : wr.cell? ⟨bb, off + j * 6, none⟩ = some (.int .i64 kd) ∧ wr.cell? ⟨bb, off + j * 6 + 1, none⟩ = some (.int .i64 id) ∧ wr.cell? ⟨bb, off + j * 6 + 2, none⟩ = some (.int .i64 t) ∧ wr.cell? ⟨bb, off + j * 6 + 3, none⟩ = some (.string (B f)) ∧ wr.cell? ⟨bb, off + j * 6 + 4, none⟩ = some (.string (B s)) ∧ wr.cell? ⟨bb, off + j * 6 + 5, none⟩ = some (.string (B v)) := ⟨hl 0 _ rfl, hl 1 _ rfl, hl 2 _ rfl, hl 3 _ rfl, hl 4 _ rfl, hl 5 _ rfl⟩
            have HV := Lib.hid (And.intro (And.intro i0 i1) (And.intro t0 t1))
            clear hcell hx hbb hl k0 k1 i0 i1 t0 t1
            have hNO := Blk.new wr #[.int .i64 kd, .int .i64 id, .int .i64 t, .string (B f), .string (B s), .string (B v)] 76
            have hFO := (Fr.refl [] wr).alloc (.cells #[.int .i64 kd, .int .i64 id, .int .i64 t, .string (B f), .string (B s), .string (B v)] 76 (0, 0))
            obtain ⟨n, hn⟩ : ∃ n, wr.heap.size = n := ⟨_, rfl⟩
            obtain ⟨W3, hW3⟩ : ∃ V, wr.alloc (.cells #[.int .i64 kd, .int .i64 id, .int .i64 t, .string (B f), .string (B s), .string (B v)] 76 (0, 0)) = V := ⟨_, rfl⟩
            rw [hn] at hNO
            rw [hW3] at hNO hFO
            have z0 := hNO.c 0 _ rfl
            have z1 := hNO.c 1 _ rfl
            have z2 := hNO.c 2 _ rfl
            have z3 := hNO.c 3 _ rfl
            have z4 := hNO.c 4 _ rfl
            have z5 := hNO.c 5 _ rfl
            (try simp only at z0 z1 z2 z3 z4 z5)
            by_cases hlen : (1000 : Int) < (f.length : Int) + s.length + v.length
            · have HFX := Lib.hid (HF.out.trans hFO)
              clear hNO hFO
              go_wp2_with fail
              go_ret
              exact ⟨rfl, HFX.out.below (Nat.le_refl _) (by simp)⟩
            · have HLL : Hid (f.length ≤ 1000 ∧ s.length ≤ 1000 ∧ v.length ≤ 1000) := Lib.hid (by omega)
              have HO := Lib.hid hNO
              have HN3 : Hid (n ≤ W3.heap.size) := Lib.hid (by have := hFO.size; omega)
              have HF3 := Lib.hid (HF.out.trans hFO)
              have HSP3 : Hid (SPx b n j W3 g g2 lm cm cm2) := Lib.hid (by have := HSP.out; rw [hn] at this; exact this.fr0 hFO)
              have HX : Hid (∀ W, FrB b n W3 W → (fun W => (W.cell? ⟨n, 0, none⟩ = some (.int .i64 kd) ∧ W.cell? ⟨n, 1, none⟩ = some (.int .i64 id) ∧ W.cell? ⟨n, 2, none⟩ = some (.int .i64 t) ∧ W.cell? ⟨n, 3, none⟩ = some (.string (B f)) ∧ W.cell? ⟨n, 4, none⟩ = some (.string (B s)) ∧ W.cell? ⟨n, 5, none⟩ = some (.string (B v))) ∧ FrB b n W3 W) W) := Lib.hid fun W hW => by
                have bh := hW.blk hNO (Or.inr (Nat.le_refl _))
                exact ⟨⟨bh.c 0 _ rfl, bh.c 1 _ rfl, bh.c 2 _ rfl, bh.c 3 _ rfl, bh.c 4 _ rfl, bh.c 5 _ rfl⟩, hW⟩
              have hG0 := HX.out _ (FrB.of _ _ (Fr.refl [] W3).drew)
              dsimp only at hG0
              have HJ1 : Hid (j ≤ 1000) := Lib.hid (by omega)
              clear hNO hFO HSP HF
              go_upto_block 2 with fail
              clear hn
              go_cut [] (fun wx => SPx b wx.heap.size (j + 1) wx g g2 lm cm cm2 ∧ Blk wx n #[.int .i64 kd, .int .i64 id, .int .i64 t, .string (B f), .string (B s), .string (B v)] 76 ∧ Fr [] w wx)
              case first =>
                by_cases hk1 : kd = 1
                · have hd1 : (kd == 1) = true := by simpa using hk1
                  have PL := Lib.hid fun W (hW : Fr [] W3 W) => play_set f s HLL.out.1 HLL.out.2.1 (HSP3.out.fr0 hW)
                  clear hk1 hlen y0 y1 y2 y3 y4 y5
                  go_wp2_with fail
                  clear z0 z1 z2 z3 z4 z5
                  refine wp_region_held_drew (S := (fun W => (W.cell? ⟨n, 0, none⟩ = some (.int .i64 kd) ∧ W.cell? ⟨n, 1, none⟩ = some (.int .i64 id) ∧ W.cell? ⟨n, 2, none⟩ = some (.int .i64 t) ∧ W.cell? ⟨n, 3, none⟩ = some (.string (B f)) ∧ W.cell? ⟨n, 4, none⟩ = some (.string (B s)) ∧ W.cell? ⟨n, 5, none⟩ = some (.string (B v))) ∧ FrB b n W3 W)) (by kernel_rfl) ?_ (fun hHeld => ?_)
                  · (try dsimp only); exact hG0
                  have hZ := (Fr.refl [] W3).drew
                  obtain ⟨v0, hv⟩ : ∃ X, W3.drew = X := ⟨_, rfl⟩
                  rw [hv] at hHeld hZ ⊢
                  clear hv hG0
                  refine take_yes 0 102 rfl rfl (by kernel_rfl) (by kernel_rfl) (by kernel_rfl) (fun _ _ _ h => h) (by rfl) (by assumption) (v := ?_) ?_ ?_
                  rotate_left
                  · intro w hSw; (try dsimp only at hSw); go_simp; (try with_reducible rfl)
                  try simp only [Act.put, List.setIfInBounds_toArray, List.set_cons_zero, List.set_cons_succ]
                  refine take_yes 1 103 rfl rfl (by kernel_rfl) (by kernel_rfl) (by kernel_rfl) (fun _ _ _ h => h) (by rfl) (by assumption) (v := ?_) ?_ ?_
                  rotate_left
                  · intro w hSw; (try dsimp only at hSw); go_simp; (try with_reducible rfl)
                  try simp only [Act.put, List.setIfInBounds_toArray, List.set_cons_zero, List.set_cons_succ]
                  refine take_yes 2 104 rfl rfl (by kernel_rfl) (by kernel_rfl) (by kernel_rfl) (fun _ _ _ h => h) (by rfl) (by assumption) (v := ?_) ?_ ?_
                  rotate_left
                  · intro w hSw; (try dsimp only at hSw); go_simp; (try with_reducible rfl)
                  try simp only [Act.put, List.setIfInBounds_toArray, List.set_cons_zero, List.set_cons_succ]
                  refine take_yes 3 105 rfl rfl (by kernel_rfl) (by kernel_rfl) (by kernel_rfl) (fun _ _ _ h => h) (by rfl) (by assumption) (v := ?_) ?_ ?_
                  rotate_left
                  · intro w hSw; (try dsimp only at hSw); go_simp; (try with_reducible rfl)
                  try simp only [Act.put, List.setIfInBounds_toArray, List.set_cons_zero, List.set_cons_succ]
                  refine take_yes 4 106 rfl rfl (by kernel_rfl) (by kernel_rfl) (by kernel_rfl) (fun _ _ _ h => h) (by rfl) (by assumption) (v := ?_) ?_ ?_
                  rotate_left
                  · intro w hSw; (try dsimp only at hSw); go_simp; (try with_reducible rfl)
                  try simp only [Act.put, List.setIfInBounds_toArray, List.set_cons_zero, List.set_cons_succ]
                  refine take_yes 6 108 rfl rfl (by kernel_rfl) (by kernel_rfl) (by kernel_rfl) (fun _ _ _ h => h) (by rfl) (by assumption) (v := ?_) ?_ ?_
                  rotate_left
                  · intro w hSw; (try dsimp only at hSw); go_simp; (try with_reducible rfl)
                  try simp only [Act.put, List.setIfInBounds_toArray, List.set_cons_zero, List.set_cons_succ]
                  refine take_yes 7 109 rfl rfl (by kernel_rfl) (by kernel_rfl) (by kernel_rfl) (fun _ _ _ h => h) (by rfl) (by assumption) (v := ?_) ?_ ?_
                  rotate_left
                  · intro w hSw; (try dsimp only at hSw); go_simp; (try with_reducible rfl)
                  try simp only [Act.put, List.setIfInBounds_toArray, List.set_cons_zero, List.set_cons_succ]
                  refine take_yes 8 110 rfl rfl (by kernel_rfl) (by kernel_rfl) (by kernel_rfl) (fun _ _ _ h => h) (by rfl) (by assumption) (v := ?_) ?_ ?_
                  rotate_left
                  · intro w hSw; (try dsimp only at hSw); go_simp; (try with_reducible rfl)
                  try simp only [Act.put, List.setIfInBounds_toArray, List.set_cons_zero, List.set_cons_succ]
                  refine take_yes 9 111 rfl rfl (by kernel_rfl) (by kernel_rfl) (by kernel_rfl) (fun _ _ _ h => h) (by rfl) (by assumption) (v := ?_) ?_ ?_
                  rotate_left
                  · intro w hSw; (try dsimp only at hSw); go_simp; (try with_reducible rfl)
                  try simp only [Act.put, List.setIfInBounds_toArray, List.set_cons_zero, List.set_cons_succ]
                  refine take_yes 10 112 rfl rfl (by kernel_rfl) (by kernel_rfl) (by kernel_rfl) (fun _ _ _ h => h) (by rfl) (by assumption) (v := ?_) ?_ ?_
                  rotate_left
                  · intro w hSw; (try dsimp only at hSw); go_simp; (try with_reducible rfl)
                  try simp only [Act.put, List.setIfInBounds_toArray, List.set_cons_zero, List.set_cons_succ]
                  refine wpAnyH_ready (rs := [5]) (by kernel_rfl) (by simp) ?_
                  refine AllReadyH.cons (o := _) rfl (fun K hK => ?_) AllReadyH.nil
                  go_simp
                  refine (PL.out v0 hZ).mono ?_
                  rintro e v1 ⟨c, rfl, hFx, hNext⟩
                  (try go_wp2_with fail)
                  have HNX := Lib.hid (hNext v1 (Fr.refl _ _))
                  have hF1 := FrB.pre hZ hFx
                  refine hK.out _ _ ?_ (fun hHeld1 => ?_)
                  · (try dsimp only); exact HX.out _ hF1
                  clear hK K hNext hFx hHeld hZ
                  try simp only [Act.put, List.setIfInBounds_toArray, List.set_cons_zero, List.set_cons_succ]
                  refine wpAnyH_ready (rs := [11]) (by kernel_rfl) (by simp) ?_
                  refine AllReadyH.cons (o := _) rfl (fun K hK => ?_) AllReadyH.nil
                  go_simp
                  refine HNX.out.mono ?_
                  rintro e v2 ⟨rfl, hFy, hSP⟩
                  (try go_wp2_with fail)
                  have hF2 := hF1.trans hFy
                  refine hK.out _ _ ?_ (fun hHeld2 => ?_)
                  · (try dsimp only); exact HX.out _ hF2
                  clear hK K HNX
                  try simp only [Act.put, List.setIfInBounds_toArray, List.set_cons_zero, List.set_cons_succ]
                  have hcc : (c != c) = false := by simp
                  refine take_yes 12 114 rfl rfl (by kernel_rfl) (by kernel_rfl) (by kernel_rfl) (fun _ _ _ h => h) (by rfl) (by assumption) (v := ?_) ?_ ?_
                  rotate_left
                  · intro w hSw; (try dsimp only at hSw); go_simp; (try with_reducible rfl)
                  try simp only [Act.put, List.setIfInBounds_toArray, List.set_cons_zero, List.set_cons_succ]
                  refine wpAnyH_done (by kernel_rfl) ?_ _
                  have HSP := Lib.hid (hSP.up (n' := v2.heap.size) (j' := j + 1) (Nat.max_le.2 ⟨Nat.le_trans HN3.out hF2.size2, Nat.le_refl _⟩) (by omega))
                  have HO2 := Lib.hid (And.intro (hF2.blk HO.out (Or.inr (Nat.le_refl _))) (FrB.sub HF3.out hF2 (by have := HBW.out; omega)))
                  clear hSP hFy hF1 hF2 hHeld1 hHeld2 hcc PL
                  go_wp2_with fail
                  go_meet
                  exact ⟨HSP.out, HO2.out⟩
                · have hd1 : (kd == 1) = false := by simpa using hk1
                  by_cases hk2 : kd = 2
                  · have hd2 : (kd == 2) = true := by simpa using hk2
                    have PL := Lib.hid fun W (hW : Fr [] W3 W) => play_pap f s t HLL.out.1 HLL.out.2.1 HV.out.2.1 HV.out.2.2 HJ1.out (HSP3.out.fr0 hW)
                    clear hk1 hk2 hlen y0 y1 y2 y3 y4 y5
                    go_wp2_with fail
                    clear z0 z1 z2 z3 z4 z5
                    refine wp_region_held_drew (S := (fun W => (W.cell? ⟨n, 0, none⟩ = some (.int .i64 kd) ∧ W.cell? ⟨n, 1, none⟩ = some (.int .i64 id) ∧ W.cell? ⟨n, 2, none⟩ = some (.int .i64 t) ∧ W.cell? ⟨n, 3, none⟩ = some (.string (B f)) ∧ W.cell? ⟨n, 4, none⟩ = some (.string (B s)) ∧ W.cell? ⟨n, 5, none⟩ = some (.string (B v))) ∧ FrB b n W3 W)) (by kernel_rfl) ?_ (fun hHeld => ?_)
                    · (try dsimp only); exact hG0
                    have hZ := (Fr.refl [] W3).drew
                    obtain ⟨v0, hv⟩ : ∃ X, W3.drew = X := ⟨_, rfl⟩
                    rw [hv] at hHeld hZ ⊢
                    clear hv hG0
                    refine take_yes 0 117 rfl rfl (by kernel_rfl) (by kernel_rfl) (by kernel_rfl) (fun _ _ _ h => h) (by rfl) (by assumption) (v := ?_) ?_ ?_
                    rotate_left
                    · intro w hSw; (try dsimp only at hSw); go_simp; (try with_reducible rfl)
                    try simp only [Act.put, List.setIfInBounds_toArray, List.set_cons_zero, List.set_cons_succ]
                    refine take_yes 1 118 rfl rfl (by kernel_rfl) (by kernel_rfl) (by kernel_rfl) (fun _ _ _ h => h) (by rfl) (by assumption) (v := ?_) ?_ ?_
                    rotate_left
                    · intro w hSw; (try dsimp only at hSw); go_simp; (try with_reducible rfl)
                    try simp only [Act.put, List.setIfInBounds_toArray, List.set_cons_zero, List.set_cons_succ]
                    refine take_yes 2 119 rfl rfl (by kernel_rfl) (by kernel_rfl) (by kernel_rfl) (fun _ _ _ h => h) (by rfl) (by assumption) (v := ?_) ?_ ?_
                    rotate_left
                    · intro w hSw; (try dsimp only at hSw); go_simp; (try with_reducible rfl)
                    try simp only [Act.put, List.setIfInBounds_toArray, List.set_cons_zero, List.set_cons_succ]
                    refine take_yes 3 120 rfl rfl (by kernel_rfl) (by kernel_rfl) (by kernel_rfl) (fun _ _ _ h => h) (by rfl) (by assumption) (v := ?_) ?_ ?_
                    rotate_left
                    · intro w hSw; (try dsimp only at hSw); go_simp; (try with_reducible rfl)
                    try simp only [Act.put, List.setIfInBounds_toArray, List.set_cons_zero, List.set_cons_succ]
                    refine take_yes 4 121 rfl rfl (by kernel_rfl) (by kernel_rfl) (by kernel_rfl) (fun _ _ _ h => h) (by rfl) (by assumption) (v := ?_) ?_ ?_
                    rotate_left
                    · intro w hSw; (try dsimp only at hSw); go_simp; (try with_reducible rfl)
                    try simp only [Act.put, List.setIfInBounds_toArray, List.set_cons_zero, List.set_cons_succ]
                    refine take_yes 5 122 rfl rfl (by kernel_rfl) (by kernel_rfl) (by kernel_rfl) (fun _ _ _ h => h) (by rfl) (by assumption) (v := ?_) ?_ ?_
                    rotate_left
                    · intro w hSw; (try dsimp only at hSw); go_simp; (try with_reducible rfl)
                    try simp only [Act.put, List.setIfInBounds_toArray, List.set_cons_zero, List.set_cons_succ]
                    refine take_yes 6 123 rfl rfl (by kernel_rfl) (by kernel_rfl) (by kernel_rfl) (fun _ _ _ h => h) (by rfl) (by assumption) (v := ?_) ?_ ?_
                    rotate_left
                    · intro w hSw; (try dsimp only at hSw); go_simp; (try with_reducible rfl)
                    try simp only [Act.put, List.setIfInBounds_toArray, List.set_cons_zero, List.set_cons_succ]
                    refine take_yes 8 125 rfl rfl (by kernel_rfl) (by kernel_rfl) (by kernel_rfl) (fun _ _ _ h => h) (by rfl) (by assumption) (v := ?_) ?_ ?_
                    rotate_left
                    · intro w hSw; (try dsimp only at hSw); go_simp; (try with_reducible rfl)
                    try simp only [Act.put, List.setIfInBounds_toArray, List.set_cons_zero, List.set_cons_succ]
                    refine take_yes 9 126 rfl rfl (by kernel_rfl) (by kernel_rfl) (by kernel_rfl) (fun _ _ _ h => h) (by rfl) (by assumption) (v := ?_) ?_ ?_
                    rotate_left
                    · intro w hSw; (try dsimp only at hSw); go_simp; (try with_reducible rfl)
                    try simp only [Act.put, List.setIfInBounds_toArray, List.set_cons_zero, List.set_cons_succ]
                    refine take_yes 10 127 rfl rfl (by kernel_rfl) (by kernel_rfl) (by kernel_rfl) (fun _ _ _ h => h) (by rfl) (by assumption) (v := ?_) ?_ ?_
                    rotate_left
                    · intro w hSw; (try dsimp only at hSw); go_simp; (try with_reducible rfl)
                    try simp only [Act.put, List.setIfInBounds_toArray, List.set_cons_zero, List.set_cons_succ]
                    refine take_yes 11 128 rfl rfl (by kernel_rfl) (by kernel_rfl) (by kernel_rfl) (fun _ _ _ h => h) (by rfl) (by assumption) (v := ?_) ?_ ?_
                    rotate_left
                    · intro w hSw; (try dsimp only at hSw); go_simp; (try with_reducible rfl)
                    try simp only [Act.put, List.setIfInBounds_toArray, List.set_cons_zero, List.set_cons_succ]
                    refine take_yes 12 129 rfl rfl (by kernel_rfl) (by kernel_rfl) (by kernel_rfl) (fun _ _ _ h => h) (by rfl) (by assumption) (v := ?_) ?_ ?_
                    rotate_left
                    · intro w hSw; (try dsimp only at hSw); go_simp; (try with_reducible rfl)
                    try simp only [Act.put, List.setIfInBounds_toArray, List.set_cons_zero, List.set_cons_succ]
                    refine take_yes 13 130 rfl rfl (by kernel_rfl) (by kernel_rfl) (by kernel_rfl) (fun _ _ _ h => h) (by rfl) (by assumption) (v := ?_) ?_ ?_
                    rotate_left
                    · intro w hSw; (try dsimp only at hSw); go_simp; (try with_reducible rfl)
                    try simp only [Act.put, List.setIfInBounds_toArray, List.set_cons_zero, List.set_cons_succ]
                    refine take_yes 14 131 rfl rfl (by kernel_rfl) (by kernel_rfl) (by kernel_rfl) (fun _ _ _ h => h) (by rfl) (by assumption) (v := ?_) ?_ ?_
                    rotate_left
                    · intro w hSw; (try dsimp only at hSw); go_simp; (try with_reducible rfl)
                    try simp only [Act.put, List.setIfInBounds_toArray, List.set_cons_zero, List.set_cons_succ]
                    refine wpAnyH_ready (rs := [7]) (by kernel_rfl) (by simp) ?_
                    refine AllReadyH.cons (o := _) rfl (fun K hK => ?_) AllReadyH.nil
                    go_simp
                    refine (PL.out v0 hZ).mono ?_
                    rintro e v1 ⟨c, rfl, hFx, hNext⟩
                    (try go_wp2_with fail)
                    have HNX := Lib.hid (hNext v1 (Fr.refl _ _))
                    have hF1 := FrB.pre hZ hFx
                    refine hK.out _ _ ?_ (fun hHeld1 => ?_)
                    · (try dsimp only); exact HX.out _ hF1
                    clear hK K hNext hFx hHeld hZ
                    try simp only [Act.put, List.setIfInBounds_toArray, List.set_cons_zero, List.set_cons_succ]
                    refine wpAnyH_ready (rs := [15]) (by kernel_rfl) (by simp) ?_
                    refine AllReadyH.cons (o := _) rfl (fun K hK => ?_) AllReadyH.nil
                    go_simp
                    refine HNX.out.mono ?_
                    rintro e v2 ⟨rfl, hFy, hSP⟩
                    (try go_wp2_with fail)
                    have hF2 := hF1.trans hFy
                    refine hK.out _ _ ?_ (fun hHeld2 => ?_)
                    · (try dsimp only); exact HX.out _ hF2
                    clear hK K HNX
                    try simp only [Act.put, List.setIfInBounds_toArray, List.set_cons_zero, List.set_cons_succ]
                    have hcc : (c != c) = false := by simp
                    refine take_yes 16 133 rfl rfl (by kernel_rfl) (by kernel_rfl) (by kernel_rfl) (fun _ _ _ h => h) (by rfl) (by assumption) (v := ?_) ?_ ?_
                    rotate_left
                    · intro w hSw; (try dsimp only at hSw); go_simp; (try with_reducible rfl)
                    try simp only [Act.put, List.setIfInBounds_toArray, List.set_cons_zero, List.set_cons_succ]
                    refine wpAnyH_done (by kernel_rfl) ?_ _
                    have HSP := Lib.hid (hSP.up (n' := v2.heap.size) (j' := j + 1) (Nat.max_le.2 ⟨Nat.le_trans HN3.out hF2.size2, Nat.le_refl _⟩) (Nat.le_refl _))
                    have HO2 := Lib.hid (And.intro (hF2.blk HO.out (Or.inr (Nat.le_refl _))) (FrB.sub HF3.out hF2 (by have := HBW.out; omega)))
                    clear hSP hFy hF1 hF2 hHeld1 hHeld2 hcc PL
                    go_wp2_with fail
                    go_meet
                    exact ⟨HSP.out, HO2.out⟩
                  · have hd2 : (kd == 2) = false := by simpa using hk2
                    have PL := Lib.hid fun W (hW : Fr [] W3 W) => play_chap f v s id t HLL.out.1 HLL.out.2.2 HLL.out.2.1 HV.out.1.1 HV.out.1.2 HV.out.2.1 HV.out.2.2 HJ1.out (HSP3.out.fr0 hW)
                    clear hk1 hk2 hlen y0 y1 y2 y3 y4 y5
                    go_wp2_with fail
                    clear z0 z1 z2 z3 z4 z5
                    refine wp_region_held_drew (S := (fun W => (W.cell? ⟨n, 0, none⟩ = some (.int .i64 kd) ∧ W.cell? ⟨n, 1, none⟩ = some (.int .i64 id) ∧ W.cell? ⟨n, 2, none⟩ = some (.int .i64 t) ∧ W.cell? ⟨n, 3, none⟩ = some (.string (B f)) ∧ W.cell? ⟨n, 4, none⟩ = some (.string (B s)) ∧ W.cell? ⟨n, 5, none⟩ = some (.string (B v))) ∧ FrB b n W3 W)) (by kernel_rfl) ?_ (fun hHeld => ?_)
                    · (try dsimp only); exact hG0
                    have hZ := (Fr.refl [] W3).drew
                    obtain ⟨v0, hv⟩ : ∃ X, W3.drew = X := ⟨_, rfl⟩
                    rw [hv] at hHeld hZ ⊢
                    clear hv hG0
                    refine take_yes 0 75 rfl rfl (by kernel_rfl) (by kernel_rfl) (by kernel_rfl) (fun _ _ _ h => h) (by rfl) (by assumption) (v := ?_) ?_ ?_
                    rotate_left
                    · intro w hSw; (try dsimp only at hSw); go_simp; (try with_reducible rfl)
                    try simp only [Act.put, List.setIfInBounds_toArray, List.set_cons_zero, List.set_cons_succ]
                    refine take_yes 1 76 rfl rfl (by kernel_rfl) (by kernel_rfl) (by kernel_rfl) (fun _ _ _ h => h) (by rfl) (by assumption) (v := ?_) ?_ ?_
                    rotate_left
                    · intro w hSw; (try dsimp only at hSw); go_simp; (try with_reducible rfl)
                    try simp only [Act.put, List.setIfInBounds_toArray, List.set_cons_zero, List.set_cons_succ]
                    refine take_yes 2 77 rfl rfl (by kernel_rfl) (by kernel_rfl) (by kernel_rfl) (fun _ _ _ h => h) (by rfl) (by assumption) (v := ?_) ?_ ?_
                    rotate_left
                    · intro w hSw; (try dsimp only at hSw); go_simp; (try with_reducible rfl)
                    try simp only [Act.put, List.setIfInBounds_toArray, List.set_cons_zero, List.set_cons_succ]
                    refine take_yes 3 78 rfl rfl (by kernel_rfl) (by kernel_rfl) (by kernel_rfl) (fun _ _ _ h => h) (by rfl) (by assumption) (v := ?_) ?_ ?_
                    rotate_left
                    · intro w hSw; (try dsimp only at hSw); go_simp; (try with_reducible rfl)
                    try simp only [Act.put, List.setIfInBounds_toArray, List.set_cons_zero, List.set_cons_succ]
                    refine take_yes 4 79 rfl rfl (by kernel_rfl) (by kernel_rfl) (by kernel_rfl) (fun _ _ _ h => h) (by rfl) (by assumption) (v := ?_) ?_ ?_
                    rotate_left
                    · intro w hSw; (try dsimp only at hSw); go_simp; (try with_reducible rfl)
                    try simp only [Act.put, List.setIfInBounds_toArray, List.set_cons_zero, List.set_cons_succ]
                    refine take_yes 5 80 rfl rfl (by kernel_rfl) (by kernel_rfl) (by kernel_rfl) (fun _ _ _ h => h) (by rfl) (by assumption) (v := ?_) ?_ ?_
                    rotate_left
                    · intro w hSw; (try dsimp only at hSw); go_simp; (try with_reducible rfl)
                    try simp only [Act.put, List.setIfInBounds_toArray, List.set_cons_zero, List.set_cons_succ]
                    refine take_yes 6 81 rfl rfl (by kernel_rfl) (by kernel_rfl) (by kernel_rfl) (fun _ _ _ h => h) (by rfl) (by assumption) (v := ?_) ?_ ?_
                    rotate_left
                    · intro w hSw; (try dsimp only at hSw); go_simp; (try with_reducible rfl)
                    try simp only [Act.put, List.setIfInBounds_toArray, List.set_cons_zero, List.set_cons_succ]
                    refine take_yes 7 82 rfl rfl (by kernel_rfl) (by kernel_rfl) (by kernel_rfl) (fun _ _ _ h => h) (by rfl) (by assumption) (v := ?_) ?_ ?_
                    rotate_left
                    · intro w hSw; (try dsimp only at hSw); go_simp; (try with_reducible rfl)
                    try simp only [Act.put, List.setIfInBounds_toArray, List.set_cons_zero, List.set_cons_succ]
                    refine take_yes 8 83 rfl rfl (by kernel_rfl) (by kernel_rfl) (by kernel_rfl) (fun _ _ _ h => h) (by rfl) (by assumption) (v := ?_) ?_ ?_
                    rotate_left
                    · intro w hSw; (try dsimp only at hSw); go_simp; (try with_reducible rfl)
                    try simp only [Act.put, List.setIfInBounds_toArray, List.set_cons_zero, List.set_cons_succ]
                    refine take_yes 9 84 rfl rfl (by kernel_rfl) (by kernel_rfl) (by kernel_rfl) (fun _ _ _ h => h) (by rfl) (by assumption) (v := ?_) ?_ ?_
                    rotate_left
                    · intro w hSw; (try dsimp only at hSw); go_simp; (try with_reducible rfl)
                    try simp only [Act.put, List.setIfInBounds_toArray, List.set_cons_zero, List.set_cons_succ]
                    refine take_yes 10 85 rfl rfl (by kernel_rfl) (by kernel_rfl) (by kernel_rfl) (fun _ _ _ h => h) (by rfl) (by assumption) (v := ?_) ?_ ?_
                    rotate_left
                    · intro w hSw; (try dsimp only at hSw); go_simp; (try with_reducible rfl)
                    try simp only [Act.put, List.setIfInBounds_toArray, List.set_cons_zero, List.set_cons_succ]
                    refine take_yes 12 87 rfl rfl (by kernel_rfl) (by kernel_rfl) (by kernel_rfl) (fun _ _ _ h => h) (by rfl) (by assumption) (v := ?_) ?_ ?_
                    rotate_left
                    · intro w hSw; (try dsimp only at hSw); go_simp; (try with_reducible rfl)
                    try simp only [Act.put, List.setIfInBounds_toArray, List.set_cons_zero, List.set_cons_succ]
                    refine take_yes 13 88 rfl rfl (by kernel_rfl) (by kernel_rfl) (by kernel_rfl) (fun _ _ _ h => h) (by rfl) (by assumption) (v := ?_) ?_ ?_
                    rotate_left
                    · intro w hSw; (try dsimp only at hSw); go_simp; (try with_reducible rfl)
                    try simp only [Act.put, List.setIfInBounds_toArray, List.set_cons_zero, List.set_cons_succ]
                    refine take_yes 14 89 rfl rfl (by kernel_rfl) (by kernel_rfl) (by kernel_rfl) (fun _ _ _ h => h) (by rfl) (by assumption) (v := ?_) ?_ ?_
                    rotate_left
                    · intro w hSw; (try dsimp only at hSw); go_simp; (try with_reducible rfl)
                    try simp only [Act.put, List.setIfInBounds_toArray, List.set_cons_zero, List.set_cons_succ]
                    refine take_yes 15 90 rfl rfl (by kernel_rfl) (by kernel_rfl) (by kernel_rfl) (fun _ _ _ h => h) (by rfl) (by assumption) (v := ?_) ?_ ?_
                    rotate_left
                    · intro w hSw; (try dsimp only at hSw); go_simp; (try with_reducible rfl)
                    try simp only [Act.put, List.setIfInBounds_toArray, List.set_cons_zero, List.set_cons_succ]
                    refine take_yes 16 91 rfl rfl (by kernel_rfl) (by kernel_rfl) (by kernel_rfl) (fun _ _ _ h => h) (by rfl) (by assumption) (v := ?_) ?_ ?_
                    rotate_left
                    · intro w hSw; (try dsimp only at hSw); go_simp; (try with_reducible rfl)
                    try simp only [Act.put, List.setIfInBounds_toArray, List.set_cons_zero, List.set_cons_succ]
                    refine take_yes 17 92 rfl rfl (by kernel_rfl) (by kernel_rfl) (by kernel_rfl) (fun _ _ _ h => h) (by rfl) (by assumption) (v := ?_) ?_ ?_
                    rotate_left
                    · intro w hSw; (try dsimp only at hSw); go_simp; (try with_reducible rfl)
                    try simp only [Act.put, List.setIfInBounds_toArray, List.set_cons_zero, List.set_cons_succ]
                    refine take_yes 18 93 rfl rfl (by kernel_rfl) (by kernel_rfl) (by kernel_rfl) (fun _ _ _ h => h) (by rfl) (by assumption) (v := ?_) ?_ ?_
                    rotate_left
                    · intro w hSw; (try dsimp only at hSw); go_simp; (try with_reducible rfl)
                    try simp only [Act.put, List.setIfInBounds_toArray, List.set_cons_zero, List.set_cons_succ]
                    refine take_yes 19 94 rfl rfl (by kernel_rfl) (by kernel_rfl) (by kernel_rfl) (fun _ _ _ h => h) (by rfl) (by assumption) (v := ?_) ?_ ?_
                    rotate_left
                    · intro w hSw; (try dsimp only at hSw); go_simp; (try with_reducible rfl)
                    try simp only [Act.put, List.setIfInBounds_toArray, List.set_cons_zero, List.set_cons_succ]
                    refine take_yes 20 95 rfl rfl (by kernel_rfl) (by kernel_rfl) (by kernel_rfl) (fun _ _ _ h => h) (by rfl) (by assumption) (v := ?_) ?_ ?_
                    rotate_left
                    · intro w hSw; (try dsimp only at hSw); go_simp; (try with_reducible rfl)
                    try simp only [Act.put, List.setIfInBounds_toArray, List.set_cons_zero, List.set_cons_succ]
                    refine take_yes 21 96 rfl rfl (by kernel_rfl) (by kernel_rfl) (by kernel_rfl) (fun _ _ _ h => h) (by rfl) (by assumption) (v := ?_) ?_ ?_
                    rotate_left
                    · intro w hSw; (try dsimp only at hSw); go_simp; (try with_reducible rfl)
                    try simp only [Act.put, List.setIfInBounds_toArray, List.set_cons_zero, List.set_cons_succ]
                    refine take_yes 22 97 rfl rfl (by kernel_rfl) (by kernel_rfl) (by kernel_rfl) (fun _ _ _ h => h) (by rfl) (by assumption) (v := ?_) ?_ ?_
                    rotate_left
                    · intro w hSw; (try dsimp only at hSw); go_simp; (try with_reducible rfl)
                    try simp only [Act.put, List.setIfInBounds_toArray, List.set_cons_zero, List.set_cons_succ]
                    refine wpAnyH_ready (rs := [11]) (by kernel_rfl) (by simp) ?_
                    refine AllReadyH.cons (o := _) rfl (fun K hK => ?_) AllReadyH.nil
                    go_simp
                    refine (PL.out v0 hZ).mono ?_
                    rintro e v1 ⟨c, rfl, hFx, hNext⟩
                    (try go_wp2_with fail)
                    have HNX := Lib.hid (hNext v1 (Fr.refl _ _))
                    have hF1 := FrB.pre hZ hFx
                    refine hK.out _ _ ?_ (fun hHeld1 => ?_)
                    · (try dsimp only); exact HX.out _ hF1
                    clear hK K hNext hFx hHeld hZ
                    try simp only [Act.put, List.setIfInBounds_toArray, List.set_cons_zero, List.set_cons_succ]
                    refine wpAnyH_ready (rs := [23]) (by kernel_rfl) (by simp) ?_
                    refine AllReadyH.cons (o := _) rfl (fun K hK => ?_) AllReadyH.nil
                    go_simp
                    refine HNX.out.mono ?_
                    rintro e v2 ⟨rfl, hFy, hSP⟩
                    (try go_wp2_with fail)
                    have hF2 := hF1.trans hFy
                    refine hK.out _ _ ?_ (fun hHeld2 => ?_)
                    · (try dsimp only); exact HX.out _ hF2
                    clear hK K HNX
                    try simp only [Act.put, List.setIfInBounds_toArray, List.set_cons_zero, List.set_cons_succ]
                    have hcc : (c != c) = false := by simp
                    refine take_yes 24 99 rfl rfl (by kernel_rfl) (by kernel_rfl) (by kernel_rfl) (fun _ _ _ h => h) (by rfl) (by assumption) (v := ?_) ?_ ?_
                    rotate_left
                    · intro w hSw; (try dsimp only at hSw); go_simp; (try with_reducible rfl)
                    try simp only [Act.put, List.setIfInBounds_toArray, List.set_cons_zero, List.set_cons_succ]
                    refine wpAnyH_done (by kernel_rfl) ?_ _
                    have HSP := Lib.hid (hSP.up (n' := v2.heap.size) (j' := j + 1) (Nat.max_le.2 ⟨Nat.le_trans HN3.out hF2.size2, Nat.le_refl _⟩) (Nat.le_refl _))
                    have HO2 := Lib.hid (And.intro (hF2.blk HO.out (Or.inr (Nat.le_refl _))) (FrB.sub HF3.out hF2 (by have := HBW.out; omega)))
                    clear hSP hFy hF1 hF2 hHeld1 hHeld2 hcc PL
                    go_wp2_with fail
                    go_meet
                    exact ⟨HSP.out, HO2.out⟩
              case rest =>
                clear z0 z1 z2 z3 z4 z5 y0 y1 y2 y3 y4 y5 hG0 HX HSP3 HF3 HN3 HO hlen hW3
                obtain ⟨hSP, hO, hF⟩ := hcut
                have HSP := Lib.hid hSP
                have z3 := hO.c 3 _ rfl
                have HO := Lib.hid hO
                have HF := Lib.hid hF
                have RS := Lib.hid fun W => rsplit_any f W (by have := HLL.out; omega)
                have SPP := Lib.hid fun W => split_any f W (by have := HLL.out; omega)
                unfold whoC at RS SPP
                obtain ⟨n1, hn1⟩ : ∃ x, spN f = x := ⟨_, rfl⟩
                obtain ⟨n2, hn2⟩ : ∃ x, spR f = x := ⟨_, rfl⟩
                rw [hn1, hn2] at RS SPP
                clear hSP hO hF hn1 hn2
                go_wp2_with fail
                refine (RS.out _).mono ?_
                rintro e w4 ⟨rfl, hF4⟩
                have hF5 := hF4.alloc (.cells #[.string (B n1), .string (B n2)] 77 (0, 0))
                have hNQ := Blk.new w4 #[.string (B n1), .string (B n2)] 77
                clear z3
                go_wp2_with fail
                obtain ⟨q, hq⟩ : ∃ q, w4.heap.size = q := ⟨_, rfl⟩
                obtain ⟨W5, hW5⟩ : ∃ V, w4.alloc (.cells #[.string (B n1), .string (B n2)] 77 (0, 0)) = V := ⟨_, rfl⟩
                rw [hq] at hNQ ⊢
                rw [hW5] at hNQ hF5 ⊢
                have HSP5 := Lib.hid ((HSP.out.fr0 hF5).up hF5.size (Nat.le_refl _))
                have HF5 := Lib.hid (HF.out.trans hF5)
                obtain ⟨c, hc1, hc2⟩ := play_wrong f HLL.out.1 HSP5.out
                obtain ⟨cr, Ar, capr, hr1, hr2, hr3, hr4⟩ := play_len HSP5.out
                have WP := Lib.hid hc1
                have WD := Lib.hid hc2
                have LN := Lib.hid hr3
                have HY : Hid (∀ W, Fr [] W5 W → (fun W => (W.cell? ⟨n, 0, none⟩ = some (.int .i64 kd) ∧ W.cell? ⟨n, 1, none⟩ = some (.int .i64 id) ∧ W.cell? ⟨n, 2, none⟩ = some (.int .i64 t) ∧ W.cell? ⟨n, 3, none⟩ = some (.string (B f)) ∧ W.cell? ⟨n, 4, none⟩ = some (.string (B s)) ∧ W.cell? ⟨n, 5, none⟩ = some (.string (B v)) ∧ W.cell? ⟨q, 0, none⟩ = some (.string (B n1)) ∧ W.cell? ⟨q, 1, none⟩ = some (.string (B n2)) ∧ W.cell? ⟨g2, 2, none⟩ = some (.slice Ar cr capr)) ∧ Fr [] W5 W) W) := Lib.hid fun W hW => by
                  have bh := hW.blk (hF5.blk HO.out (by simp)) (by simp)
                  have bq := hW.blk hNQ (by simp)
                  exact ⟨⟨bh.c 0 _ rfl, bh.c 1 _ rfl, bh.c 2 _ rfl, bh.c 3 _ rfl, bh.c 4 _ rfl, bh.c 5 _ rfl, bq.c 0 _ rfl, bq.c 1 _ rfl, hr4 W hW⟩, hW⟩
                have hG0 := HY.out _ (Fr.refl [] W5).drew
                dsimp only at hG0
                have heq := fun W => eq_who n1 n2 n1 n2 W
                rw [decide_eq_true rfl] at heq
                clear hc1 hc2 hr3 hr4 hF4 hF5 hNQ hq hW5 HSP HO HF
                refine wp_region_held_drew (S := (fun W => (W.cell? ⟨n, 0, none⟩ = some (.int .i64 kd) ∧ W.cell? ⟨n, 1, none⟩ = some (.int .i64 id) ∧ W.cell? ⟨n, 2, none⟩ = some (.int .i64 t) ∧ W.cell? ⟨n, 3, none⟩ = some (.string (B f)) ∧ W.cell? ⟨n, 4, none⟩ = some (.string (B s)) ∧ W.cell? ⟨n, 5, none⟩ = some (.string (B v)) ∧ W.cell? ⟨q, 0, none⟩ = some (.string (B n1)) ∧ W.cell? ⟨q, 1, none⟩ = some (.string (B n2)) ∧ W.cell? ⟨g2, 2, none⟩ = some (.slice Ar cr capr)) ∧ Fr [] W5 W)) (by kernel_rfl) ?_ (fun hHeld => ?_)
                · (try dsimp only); exact hG0
                have hZ := (Fr.refl [] W5).drew
                obtain ⟨v0, hv⟩ : ∃ X, W5.drew = X := ⟨_, rfl⟩
                rw [hv] at hHeld hZ ⊢
                clear hv hG0
                refine take_yes 0 137 rfl rfl (by kernel_rfl) (by kernel_rfl) (by kernel_rfl) (fun _ _ _ h => h) (by rfl) (by assumption) (v := ?_) ?_ ?_
                rotate_left
                · intro w hSw; (try dsimp only at hSw); go_simp; (try with_reducible rfl)
                try simp only [Act.put, List.setIfInBounds_toArray, List.set_cons_zero, List.set_cons_succ]
                refine take_yes 1 138 rfl rfl (by kernel_rfl) (by kernel_rfl) (by kernel_rfl) (fun _ _ _ h => h) (by rfl) (by assumption) (v := ?_) ?_ ?_
                rotate_left
                · intro w hSw; (try dsimp only at hSw); go_simp; (try with_reducible rfl)
                try simp only [Act.put, List.setIfInBounds_toArray, List.set_cons_zero, List.set_cons_succ]
                refine take_yes 2 139 rfl rfl (by kernel_rfl) (by kernel_rfl) (by kernel_rfl) (fun _ _ _ h => h) (by rfl) (by assumption) (v := ?_) ?_ ?_
                rotate_left
                · intro w hSw; (try dsimp only at hSw); go_simp; (try with_reducible rfl)
                try simp only [Act.put, List.setIfInBounds_toArray, List.set_cons_zero, List.set_cons_succ]
                refine take_yes 4 141 rfl rfl (by kernel_rfl) (by kernel_rfl) (by kernel_rfl) (fun _ _ _ h => h) (by rfl) (by assumption) (v := ?_) ?_ ?_
                rotate_left
                · intro w hSw; (try dsimp only at hSw); go_simp; (try with_reducible rfl)
                try simp only [Act.put, List.setIfInBounds_toArray, List.set_cons_zero, List.set_cons_succ]
                refine take_yes 5 142 rfl rfl (by kernel_rfl) (by kernel_rfl) (by kernel_rfl) (fun _ _ _ h => h) (by rfl) (by assumption) (v := ?_) ?_ ?_
                rotate_left
                · intro w hSw; (try dsimp only at hSw); go_simp; (try with_reducible rfl)
                try simp only [Act.put, List.setIfInBounds_toArray, List.set_cons_zero, List.set_cons_succ]
                refine take_yes 6 143 rfl rfl (by kernel_rfl) (by kernel_rfl) (by kernel_rfl) (fun _ _ _ h => h) (by rfl) (by assumption) (v := ?_) ?_ ?_
                rotate_left
                · intro w hSw; (try dsimp only at hSw); go_simp; (try with_reducible rfl)
                try simp only [Act.put, List.setIfInBounds_toArray, List.set_cons_zero, List.set_cons_succ]
                refine wpAnyH_ready (rs := [3]) (by kernel_rfl) (by simp) ?_
                refine AllReadyH.cons (o := _) rfl (fun K hK => ?_) AllReadyH.nil
                go_simp
                refine (WP.out v0 hZ).mono ?_
                rintro e v1 ⟨rfl, hFx⟩
                (try go_wp2_with fail)
                replace hZ := hZ.trans hFx
                refine hK.out _ _ ?_ (fun hHeld1 => ?_)
                · (try dsimp only); exact HY.out _ hZ
                clear hK K hFx hHeld
                have hHeld := hHeld1
                clear hHeld1
                try simp only [Act.put, List.setIfInBounds_toArray, List.set_cons_zero, List.set_cons_succ]
                refine wpAnyH_ready (rs := [7]) (by kernel_rfl) (by simp) ?_
                refine AllReadyH.cons (o := _) rfl (fun K hK => ?_) AllReadyH.nil
                go_simp
                refine (WD.out v1 hZ).mono ?_
                rintro e v2 ⟨rfl, hFx⟩
                (try go_wp2_with fail)
                replace hZ := hZ.trans hFx
                refine hK.out _ _ ?_ (fun hHeld1 => ?_)
                · (try dsimp only); exact HY.out _ hZ
                clear hK K hFx hHeld
                have hHeld := hHeld1
                clear hHeld1
                try simp only [Act.put, List.setIfInBounds_toArray, List.set_cons_zero, List.set_cons_succ]
                have hcc : (c != c) = false := by simp
                refine take_yes 8 145 rfl rfl (by kernel_rfl) (by kernel_rfl) (by kernel_rfl) (fun _ _ _ h => h) (by rfl) (by assumption) (v := ?_) ?_ ?_
                rotate_left
                · intro w hSw; (try dsimp only at hSw); go_simp; (try with_reducible rfl)
                try simp only [Act.put, List.setIfInBounds_toArray, List.set_cons_zero, List.set_cons_succ]
                refine take_yes 9 146 rfl rfl (by kernel_rfl) (by kernel_rfl) (by kernel_rfl) (fun _ _ _ h => h) (by rfl) (by assumption) (v := ?_) ?_ ?_
                rotate_left
                · intro w hSw; (try dsimp only at hSw); go_simp; (try with_reducible rfl)
                try simp only [Act.put, List.setIfInBounds_toArray, List.set_cons_zero, List.set_cons_succ]
                refine take_yes 10 147 rfl rfl (by kernel_rfl) (by kernel_rfl) (by kernel_rfl) (fun _ _ _ h => h) (by rfl) (by assumption) (v := ?_) ?_ ?_
                rotate_left
                · intro w hSw; (try dsimp only at hSw); go_simp; (try with_reducible rfl)
                try simp only [Act.put, List.setIfInBounds_toArray, List.set_cons_zero, List.set_cons_succ]
                refine take_yes 12 149 rfl rfl (by kernel_rfl) (by kernel_rfl) (by kernel_rfl) (fun _ _ _ h => h) (by rfl) (by assumption) (v := ?_) ?_ ?_
                rotate_left
                · intro w hSw; (try dsimp only at hSw); go_simp; (try with_reducible rfl)
                try simp only [Act.put, List.setIfInBounds_toArray, List.set_cons_zero, List.set_cons_succ]
                refine take_yes 13 150 rfl rfl (by kernel_rfl) (by kernel_rfl) (by kernel_rfl) (fun _ _ _ h => h) (by rfl) (by assumption) (v := ?_) ?_ ?_
                rotate_left
                · intro w hSw; (try dsimp only at hSw); go_simp; (try with_reducible rfl)
                try simp only [Act.put, List.setIfInBounds_toArray, List.set_cons_zero, List.set_cons_succ]
                refine take_yes 14 151 rfl rfl (by kernel_rfl) (by kernel_rfl) (by kernel_rfl) (fun _ _ _ h => h) (by rfl) (by assumption) (v := ?_) ?_ ?_
                rotate_left
                · intro w hSw; (try dsimp only at hSw); go_simp; (try with_reducible rfl)
                try simp only [Act.put, List.setIfInBounds_toArray, List.set_cons_zero, List.set_cons_succ]
                refine take_yes 15 152 rfl rfl (by kernel_rfl) (by kernel_rfl) (by kernel_rfl) (fun _ _ _ h => h) (by rfl) (by assumption) (v := ?_) ?_ ?_
                rotate_left
                · intro w hSw; (try dsimp only at hSw); go_simp; (try with_reducible rfl)
                try simp only [Act.put, List.setIfInBounds_toArray, List.set_cons_zero, List.set_cons_succ]
                refine take_yes 16 153 rfl rfl (by kernel_rfl) (by kernel_rfl) (by kernel_rfl) (fun _ _ _ h => h) (by rfl) (by assumption) (v := ?_) ?_ ?_
                rotate_left
                · intro w hSw; (try dsimp only at hSw); go_simp; (try with_reducible rfl)
                try simp only [Act.put, List.setIfInBounds_toArray, List.set_cons_zero, List.set_cons_succ]
                refine wpAnyH_ready (rs := [11]) (by kernel_rfl) (by simp) ?_
                refine AllReadyH.cons (o := _) rfl (fun K hK => ?_) AllReadyH.nil
                go_simp
                refine (LN.out v2 hZ).mono ?_
                rintro e v3 ⟨rfl, rfl⟩
                (try go_wp2_with fail)
                refine hK.out _ _ ?_ (fun hHeld1 => ?_)
                · (try dsimp only); exact hHeld
                clear hK K hHeld1
                try simp only [Act.put, List.setIfInBounds_toArray, List.set_cons_zero, List.set_cons_succ]
                have hcd : (((cr : Nat) : Int) != (cr : Int)) = false := by simp
                refine take_yes 17 154 rfl rfl (by kernel_rfl) (by kernel_rfl) (by kernel_rfl) (fun _ _ _ h => h) (by rfl) (by assumption) (v := ?_) ?_ ?_
                rotate_left
                · intro w hSw; (try dsimp only at hSw); go_simp; (try with_reducible rfl)
                try simp only [Act.put, List.setIfInBounds_toArray, List.set_cons_zero, List.set_cons_succ]
                refine take_yes 18 155 rfl rfl (by kernel_rfl) (by kernel_rfl) (by kernel_rfl) (fun _ _ _ h => h) (by rfl) (by assumption) (v := ?_) ?_ ?_
                rotate_left
                · intro w hSw; (try dsimp only at hSw); go_simp; (try with_reducible rfl)
                try simp only [Act.put, List.setIfInBounds_toArray, List.set_cons_zero, List.set_cons_succ]
                refine take_yes 19 156 rfl rfl (by kernel_rfl) (by kernel_rfl) (by kernel_rfl) (fun _ _ _ h => h) (by rfl) (by assumption) (v := ?_) ?_ ?_
                rotate_left
                · intro w hSw; (try dsimp only at hSw); go_simp; (try with_reducible rfl)
                try simp only [Act.put, List.setIfInBounds_toArray, List.set_cons_zero, List.set_cons_succ]
                refine take_yes 20 157 rfl rfl (by kernel_rfl) (by kernel_rfl) (by kernel_rfl) (fun _ _ _ h => h) (by rfl) (by assumption) (v := ?_) ?_ ?_
                rotate_left
                · intro w hSw; (try dsimp only at hSw); go_simp; (try with_reducible rfl)
                try simp only [Act.put, List.setIfInBounds_toArray, List.set_cons_zero, List.set_cons_succ]
                refine take_yes 21 158 rfl rfl (by kernel_rfl) (by kernel_rfl) (by kernel_rfl) (fun _ _ _ h => h) (by rfl) (by assumption) (v := ?_) ?_ ?_
                rotate_left
                · intro w hSw; (try dsimp only at hSw); go_simp; (try with_reducible rfl)
                try simp only [Act.put, List.setIfInBounds_toArray, List.set_cons_zero, List.set_cons_succ]
                refine take_yes 23 160 rfl rfl (by kernel_rfl) (by kernel_rfl) (by kernel_rfl) (fun _ _ _ h => h) (by rfl) (by assumption) (v := ?_) ?_ ?_
                rotate_left
                · intro w hSw; (try dsimp only at hSw); go_simp; (try with_reducible rfl)
                try simp only [Act.put, List.setIfInBounds_toArray, List.set_cons_zero, List.set_cons_succ]
                refine take_yes 24 161 rfl rfl (by kernel_rfl) (by kernel_rfl) (by kernel_rfl) (fun _ _ _ h => h) (by rfl) (by assumption) (v := ?_) ?_ ?_
                rotate_left
                · intro w hSw; (try dsimp only at hSw); go_simp; (try with_reducible rfl)
                try simp only [Act.put, List.setIfInBounds_toArray, List.set_cons_zero, List.set_cons_succ]
                refine take_yes 25 162 rfl rfl (by kernel_rfl) (by kernel_rfl) (by kernel_rfl) (fun _ _ _ h => h) (by rfl) (by assumption) (v := ?_) ?_ ?_
                rotate_left
                · intro w hSw; (try dsimp only at hSw); go_simp; (try with_reducible rfl)
                try simp only [Act.put, List.setIfInBounds_toArray, List.set_cons_zero, List.set_cons_succ]
                refine take_yes 26 163 rfl rfl (by kernel_rfl) (by kernel_rfl) (by kernel_rfl) (fun _ _ _ h => h) (by rfl) (by assumption) (v := ?_) ?_ ?_
                rotate_left
                · intro w hSw; (try dsimp only at hSw); go_simp; (try with_reducible rfl)
                try simp only [Act.put, List.setIfInBounds_toArray, List.set_cons_zero, List.set_cons_succ]
                refine take_yes 27 164 rfl rfl (by kernel_rfl) (by kernel_rfl) (by kernel_rfl) (fun _ _ _ h => h) (by rfl) (by assumption) (v := ?_) ?_ ?_
                rotate_left
                · intro w hSw; (try dsimp only at hSw); go_simp; (try with_reducible rfl)
                try simp only [Act.put, List.setIfInBounds_toArray, List.set_cons_zero, List.set_cons_succ]
                refine wpAnyH_ready (rs := [22]) (by kernel_rfl) (by simp) ?_
                refine AllReadyH.cons (o := _) rfl (fun K hK => ?_) AllReadyH.nil
                go_simp
                refine (SPP.out v2).mono ?_
                rintro e v4 ⟨rfl, hFx⟩
                (try go_wp2_with fail)
                replace hZ := hZ.trans hFx
                refine hK.out _ _ ?_ (fun hHeld1 => ?_)
                · (try dsimp only); exact HY.out _ hZ
                clear hK K hFx hHeld
                have hHeld := hHeld1
                clear hHeld1
                try simp only [Act.put, List.setIfInBounds_toArray, List.set_cons_zero, List.set_cons_succ]
                refine take_yes 28 165 rfl rfl (by kernel_rfl) (by kernel_rfl) (by kernel_rfl) (fun _ _ _ h => h) (by rfl) (by assumption) (v := ?_) ?_ ?_
                rotate_left
                · intro w hSw; (try dsimp only at hSw); go_simp; (try with_reducible rfl)
                try simp only [Act.put, List.setIfInBounds_toArray, List.set_cons_zero, List.set_cons_succ]
                refine take_yes 29 166 rfl rfl (by kernel_rfl) (by kernel_rfl) (by kernel_rfl) (fun _ _ _ h => h) (by rfl) (by assumption) (v := ?_) ?_ ?_
                rotate_left
                · intro w hSw; (try dsimp only at hSw); go_simp; (try with_reducible rfl)
                try simp only [Act.put, List.setIfInBounds_toArray, List.set_cons_zero, List.set_cons_succ]
                refine wpAnyH_done (by kernel_rfl) ?_ _
                have HSP := Lib.hid ((HSP5.out.fr0 hZ).up hZ.size (Nat.le_refl _))
                have HF := Lib.hid (HF5.out.trans hZ)
                clear hZ hHeld hcc hcd HY WP WD LN SPP heq HSP5 HF5
                go_wp2_with fail
                go_roundw
                case rel => exact ⟨j + 1, by omega, by go_num, HSP.out, HF.out⟩
                case measure => (simp [intOf]) <;> omega
          · obtain rfl : j = len := by omega
            go_wp2_with fail
            refine (AL.out _).mono ?_
            rintro e w2 ⟨rfl, hF2⟩
            have HF2 := Lib.hid (HF.out.trans hF2)
            clear hF2
            go_wp2_with fail
            refine (set_nil [97] [98]).mono ?_
            rintro e w3 ⟨rfl, hF3⟩
            have HF3 := Lib.hid (HF2.out.trans hF3)
            clear hF3
            go_wp2_with fail
            refine (pap_nil [97] [98] 0).mono ?_
            rintro e w4 ⟨rfl, hF4⟩
            have HF4 := Lib.hid (HF3.out.trans hF4)
            clear hF4
            go_wp2_with fail
            refine (chap_nil [97] [] [] 0 0).mono ?_
            rintro e w5 ⟨rfl, hF5⟩
            have HF5 := Lib.hid (HF4.out.trans hF5)
            clear hF5
            go_wp2_with fail
            refine len_nil.mono ?_
            rintro e w6 ⟨rfl, hF6⟩
            have HF6 := Lib.hid (HF5.out.trans hF6)
            clear hF6
            go_wp2_with fail
            refine (wrong_nil [97]).mono ?_
            rintro e w7 ⟨rfl, hF7⟩
            have HF7 := Lib.hid (HF6.out.trans hF7)
            clear hF7
            go_wp2_with fail
            go_ret
            exact ⟨rfl, HF7.out.below (Nat.le_refl _) (by simp)⟩
end Go.Proofs.Ytpljdnocdhppmaa
