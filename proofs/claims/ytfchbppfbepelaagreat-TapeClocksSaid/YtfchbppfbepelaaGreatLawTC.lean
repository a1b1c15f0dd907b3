/- TapeClocks (printed by tools/gen_lawtc.py). -/
import Derived.Test.YtfchbppfbepelaaGreatDClk7
import Derived.Test.YtfchbppfbepelaaGreatAlive3
import Derived.OpenShut
import Derived.WideShapes
import Derived.Below
import Derived.Deep.DeepCutAuto
import Derived.Deep.CutBlock
namespace Go.Proofs.YtfchbppfbepelaaGreat
open Go.ChangeShapes Go.WideShapes Go.ChangeAt Go.RowKit Go.Deep Go.Maps
set_option linter.unusedVariables false
theorem wpList_buildK {P : Program} {ops : Array Oper} {rest : List Oper} {o1 : Oper} {a : Act} {w : World} {Q : Exit → Act → World → Prop} (g1 : o1.guard = none)
    (T : TypeId) (parts : Array (Nat × Operand)) (h1 : o1.op = .build T parts) (C : Array Value) (hr1 : ∀ w, (Instr.build T (parts.map fun (i, x) => (i, a.eval x))).run P w = .ok (.agg C) w)
    (h : wpList P ops Q rest (a.put o1.dst (.agg C)) w) : wpList P ops Q (o1 :: rest) a w := by
  refine wpList_plain g1 fun K1 hK1 => ?_
  unfold Oper.wp execOp
  simp only [h1, Sem.run_bind, hr1, Result.andThen_ok, Sem.run_pure]
  exact hK1 _ _ h
theorem tc_first (w : World) : CkIn w (w.alloc (.cells (mpC 0 0 none) 137 (0, 0))) w.heap.size 0 0 [] := ⟨none, ⟨Blk.new _ _ _, Or.inl ⟨rfl, rfl⟩⟩, Nat.le_refl _, by simp⟩
set_option maxRecDepth 100000 in
set_option maxHeartbeats 40000000 in
theorem tapeClocks_walk (w : World) (zero : Bool) (a : Option Addr) (len cap : Nat) (l : List OpR) (hR : IsOps w a len cap l) :
    Calls Tryz.prog 7 #[.bool zero, .slice a len cap] w fun e w' => e = .returned (.bool true) ∧ Below w.heap.size w w' := by
  have AL := Lib.hid fun W => alive3 W
  have HR := Lib.hid hR
  have hlm : len ≤ maxLen := Nat.le_trans hR.2.1 hR.2.2.1
  unfold maxLen at hlm
  clear hR
  go_enter Tryz.func7, Tryz.ntmps7
  by_cases h400 : (400 : Int) < len
  · go_wp2_with fail
    refine (AL.out _).mono ?_
    rintro e w3 ⟨rfl, hF3⟩
    go_wp2_with fail
    go_ret
    exact ⟨rfl, hF3.below (Nat.le_refl _) (by simp)⟩
  · go_wp2_with fail
    refine (new_in w).mono ?_
    rintro e w1 ⟨c1, rfl, hc1, hF1⟩
    have H1 := Lib.hid (And.intro hc1 hF1)
    clear hc1 hF1
    go_upto_if 25 with fail
    go_cut [5] (fun cv wx => ∃ c, cv = .pointer (some ⟨c, 0, none⟩) ∧ CkIn w wx c 0 0 [] ∧ DCk wx w1.heap.size 0 (.slice none 0 0) [] ∧ Fr [] w wx)
    case first =>
      have hD : DCk (w1.alloc (.cells #[.int .i64 0, .slice none 0 0] 134 (0, 0))) w1.heap.size 0 (.slice none 0 0) [] := ⟨Blk.new _ _ _, World.ownsRow_nil _ _ _ _⟩
      cases zero with
      | false =>
        go_wp2_with fail
        go_meet
        exact ⟨c1, rfl, H1.out.1.fr0 ((Fr.refl _ _).alloc _), hD, H1.out.2.alloc _⟩
      | true =>
        go_wp2_with fail
        go_meet
        refine ⟨_, rfl, ?_, hD.fr0 ((Fr.refl _ _).alloc _), (H1.out.2.alloc _).alloc _⟩
        have e : (w1.alloc (.cells #[.int .i64 0, .slice none 0 0] 134 (0, 0))).heap.size = w1.heap.size + 1 := by simp
        have hB := Blk.new (w1.alloc (.cells #[.int .i64 0, .slice none 0 0] 134 (0, 0))) #[.int .i64 0, .int .i64 0, .map none] 137
        rw [e] at hB
        exact ⟨none, ⟨hB, Or.inl ⟨rfl, rfl⟩⟩, by have := H1.out.2.size; omega, fun b hb => by cases hb⟩
    case rest =>
      obtain ⟨c, rfl, hc, hd, hF⟩ := hcut
      obtain ⟨g, hg⟩ : ∃ g, w1.heap.size = g := ⟨_, rfl⟩
      have hgw : w.heap.size ≤ g := by rw [← hg]; exact H1.out.2.size
      rw [hg] at hd
      clear H1
      have HPP : Hid (TCs w wc.heap.size c g 0 0 [] (.slice none 0 0) [] [] (wc.alloc (.cells #[.slice none 0 0, .slice none 0 0, .slice none 0 0, .slice none 0 0, .slice none 0 0, .slice none 0 0, .slice none 0 0, .slice none 0 0, .slice none 0 0, .slice none 0 0, .slice none 0 0, .slice none 0 0, .slice none 0 0, .slice none 0 0, .slice none 0 0, .slice none 0 0, .slice none 0 0, .slice none 0 0, .slice none 0 0, .slice none 0 0, .slice none 0 0, .slice none 0 0, .slice none 0 0, .slice none 0 0, .slice none 0 0, .slice none 0 0, .slice none 0 0, .slice none 0 0, .slice none 0 0, .slice none 0 0, .slice none 0 0, .slice none 0 0, .slice none 0 0, .slice none 0 0, .slice none 0 0, .slice none 0 0] 52 (0, 0)))) := Lib.hid ⟨CI.new, CR.new, BkY.new wc hF.size, hc.fr0 ((Fr.refl _ _).alloc _), hd.fr0 ((Fr.refl _ _).alloc _), hF.alloc _, hgw, fun q hq => by cases hq⟩
      clear hc hd hF hgw
      go_wp2_with (refine wpList_buildK rfl 52 #[] rfl #[.slice none 0 0, .slice none 0 0, .slice none 0 0, .slice none 0 0, .slice none 0 0, .slice none 0 0, .slice none 0 0, .slice none 0 0, .slice none 0 0, .slice none 0 0, .slice none 0 0, .slice none 0 0, .slice none 0 0, .slice none 0 0, .slice none 0 0, .slice none 0 0, .slice none 0 0, .slice none 0 0, .slice none 0 0, .slice none 0 0, .slice none 0 0, .slice none 0 0, .slice none 0 0, .slice none 0 0, .slice none 0 0, .slice none 0 0, .slice none 0 0, .slice none 0 0, .slice none 0 0, .slice none 0 0, .slice none 0 0, .slice none 0 0, .slice none 0 0, .slice none 0 0, .slice none 0 0, .slice none 0 0] (fun W => by kernel_rfl) ?_)
      clear hg
      obtain ⟨b, hb⟩ : ∃ b, wc.heap.size = b := ⟨_, rfl⟩
      rw [hb] at HPP ⊢
      clear hb
      go_loopw [8] (fun iv wr => ∃ (j : Nat) (n o : Int) (L : Tms) (r : Value) (D : List DT) (kp : List (Bl (Int × Int))), j ≤ len ∧ iv = .int .i64 j ∧ o ≤ (j : Int) ∧ TCs w b c g n o L r D kp wr) (fun iv _ => len - (intOf iv).toNat)
      case atStart => exact ⟨0, _, _, _, _, _, _, Nat.zero_le _, rfl, by omega, HPP.out⟩
      case round =>
        clear HPP
        obtain ⟨j, n, o, L, r, D, kp, hj, rfl, ho, hPP⟩ := hrel
        have HP0 := Lib.hid hPP
        clear hPP
        by_cases hjl : j < len
        · obtain ⟨bb, off, ⟨kd, k1, k2, x⟩, rfl, hbb, hx, hxV, hcell⟩ := HR.out.at_ j hjl
          obtain ⟨_, hk1, hk2, _⟩ := hxV
          have HK := Lib.hid (show KyOk (k1, k2) from ⟨hk1, hk2⟩)
          have HO := Lib.hid ho
          have hl := hcell wr HP0.out.fr
          obtain ⟨y0, y1, y2, y3⟩ : wr.cell? ⟨bb, off + j * 4, none⟩ = some (.int .i64 kd) ∧ wr.cell? ⟨bb, off + j * 4 + 1, none⟩ = some (.int .i64 k1) ∧ wr.cell? ⟨bb, off + j * 4 + 2, none⟩ = some (.int .i64 k2) ∧ wr.cell? ⟨bb, off + j * 4 + 3, none⟩ = some (.int .i64 x) := ⟨hl 0 _ rfl, hl 1 _ rfl, hl 2 _ rfl, hl 3 _ rfl⟩
          clear hcell hx hbb hl hk1 hk2 ho
          go_upto_block 2 with fail
          have hNO := (Blk.new wr #[.int .i64 kd, .int .i64 k1, .int .i64 k2, .int .i64 x] 139).alloc (.cells #[.int .i64 k1, .int .i64 k2] 141 (0, 0))
          have hNK := Blk.new (wr.alloc (.cells #[.int .i64 kd, .int .i64 k1, .int .i64 k2, .int .i64 x] 139 (0, 0))) #[.int .i64 k1, .int .i64 k2] 141
          rw [show (wr.alloc (.cells #[.int .i64 kd, .int .i64 k1, .int .i64 k2, .int .i64 x] 139 (0, 0))).heap.size = wr.heap.size + 1 from by simp] at hNK
          have hA := ((Fr.refl [] wr).alloc (.cells #[.int .i64 kd, .int .i64 k1, .int .i64 k2, .int .i64 x] 139 (0, 0))).alloc (.cells #[.int .i64 k1, .int .i64 k2] 141 (0, 0))
          obtain ⟨W3, hW3⟩ : ∃ X, (wr.alloc (.cells #[.int .i64 kd, .int .i64 k1, .int .i64 k2, .int .i64 x] 139 (0, 0))).alloc (.cells #[.int .i64 k1, .int .i64 k2] 141 (0, 0)) = X := ⟨_, rfl⟩
          rw [hW3] at hNO hNK hA ⊢
          obtain ⟨nK, hnK⟩ : ∃ q, wr.heap.size + 1 = q := ⟨_, rfl⟩
          rw [hnK] at hNK ⊢
          obtain ⟨nO, hnO⟩ : ∃ q, wr.heap.size = q := ⟨_, rfl⟩
          rw [hnO] at hNO ⊢
          have HNO := Lib.hid (And.intro hNO hNK)
          have HP3 := Lib.hid (HP0.out.fr0 hA)
          have HX : Hid (∀ W, Blk W nO #[.int .i64 kd, .int .i64 k1, .int .i64 k2, .int .i64 x] 139 → Blk W nK #[.int .i64 k1, .int .i64 k2] 141 → (fun W => (W.cell? ⟨nO, 0, none⟩ = some (.int .i64 kd) ∧ W.cell? ⟨nO, 1, none⟩ = some (.int .i64 k1) ∧ W.cell? ⟨nO, 2, none⟩ = some (.int .i64 k2) ∧ W.cell? ⟨nO, 3, none⟩ = some (.int .i64 x) ∧ W.cell? ⟨nK, 0, none⟩ = some (.int .i64 k1) ∧ W.cell? ⟨nK, 1, none⟩ = some (.int .i64 k2)) ∧ Blk W nO #[.int .i64 kd, .int .i64 k1, .int .i64 k2, .int .i64 x] 139 ∧ Blk W nK #[.int .i64 k1, .int .i64 k2] 141) W) := Lib.hid fun W h1 h2 => ⟨⟨h1.c 0 _ rfl, h1.c 1 _ rfl, h1.c 2 _ rfl, h1.c 3 _ rfl, h2.c 0 _ rfl, h2.c 1 _ rfl⟩, h1, h2⟩
          clear hW3 hnK hnO hNO hNK hA HP0 y0 y1 y2 y3
          go_cut [] (fun wx => TCut w b c g j nO nK #[.int .i64 kd, .int .i64 k1, .int .i64 k2, .int .i64 x] (k1, k2) wx)
          case first =>
            by_cases hd : kd = 1
            · have hd1 : (kd == 1) = true := by simpa using hd
              clear hd
              go_wp2_with fail
              refine wp_region_held_drew (S := (fun W => (W.cell? ⟨nO, 0, none⟩ = some (.int .i64 kd) ∧ W.cell? ⟨nO, 1, none⟩ = some (.int .i64 k1) ∧ W.cell? ⟨nO, 2, none⟩ = some (.int .i64 k2) ∧ W.cell? ⟨nO, 3, none⟩ = some (.int .i64 x) ∧ W.cell? ⟨nK, 0, none⟩ = some (.int .i64 k1) ∧ W.cell? ⟨nK, 1, none⟩ = some (.int .i64 k2)) ∧ Blk W nO #[.int .i64 kd, .int .i64 k1, .int .i64 k2, .int .i64 x] 139 ∧ Blk W nK #[.int .i64 k1, .int .i64 k2] 141)) (by kernel_rfl) ?_ (fun hHeld => ?_)
              · (try dsimp only); exact HX.out _ HNO.out.1.drew HNO.out.2.drew
              have HPd := Lib.hid (HP3.out.fr0 (Fr.refl [] W3).drew)
              have HNd := Lib.hid (And.intro HNO.out.1.drew HNO.out.2.drew)
              obtain ⟨v0, hv⟩ : ∃ X, W3.drew = X := ⟨_, rfl⟩
              rw [hv] at hHeld HPd HNd ⊢
              clear hv
              refine take_yes 0 51 rfl rfl (by kernel_rfl) (by kernel_rfl) (by kernel_rfl) (fun _ _ _ h => h) (by rfl) (by assumption) (v := ?_) ?_ ?_
              rotate_left
              · intro w hSw; (try dsimp only at hSw); go_simp; (try with_reducible rfl)
              try simp only [Act.put, List.setIfInBounds_toArray, List.set_cons_zero, List.set_cons_succ]
              refine take_yes 1 52 rfl rfl (by kernel_rfl) (by kernel_rfl) (by kernel_rfl) (fun _ _ _ h => h) (by rfl) (by assumption) (v := ?_) ?_ ?_
              rotate_left
              · intro w hSw; (try dsimp only at hSw); go_simp; (try with_reducible rfl)
              try simp only [Act.put, List.setIfInBounds_toArray, List.set_cons_zero, List.set_cons_succ]
              refine take_yes 2 53 rfl rfl (by kernel_rfl) (by kernel_rfl) (by kernel_rfl) (fun _ _ _ h => h) (by rfl) (by assumption) (v := ?_) ?_ ?_
              rotate_left
              · intro w hSw; (try dsimp only at hSw); go_simp; (try with_reducible rfl)
              try simp only [Act.put, List.setIfInBounds_toArray, List.set_cons_zero, List.set_cons_succ]
              refine take_yes 3 54 rfl rfl (by kernel_rfl) (by kernel_rfl) (by kernel_rfl) (fun _ _ _ h => h) (by rfl) (by assumption) (v := ?_) ?_ ?_
              rotate_left
              · intro w hSw; (try dsimp only at hSw); go_simp; (try with_reducible rfl)
              try simp only [Act.put, List.setIfInBounds_toArray, List.set_cons_zero, List.set_cons_succ]
              refine take_yes 5 56 rfl rfl (by kernel_rfl) (by kernel_rfl) (by kernel_rfl) (fun _ _ _ h => h) (by rfl) (by assumption) (v := ?_) ?_ ?_
              rotate_left
              · intro w hSw; (try dsimp only at hSw); go_simp; (try with_reducible rfl)
              try simp only [Act.put, List.setIfInBounds_toArray, List.set_cons_zero, List.set_cons_succ]
              refine take_yes 6 57 rfl rfl (by kernel_rfl) (by kernel_rfl) (by kernel_rfl) (fun _ _ _ h => h) (by rfl) (by assumption) (v := ?_) ?_ ?_
              rotate_left
              · intro w hSw; (try dsimp only at hSw); go_simp; (try with_reducible rfl)
              try simp only [Act.put, List.setIfInBounds_toArray, List.set_cons_zero, List.set_cons_succ]
              refine take_yes 7 58 rfl rfl (by kernel_rfl) (by kernel_rfl) (by kernel_rfl) (fun _ _ _ h => h) (by rfl) (by assumption) (v := ?_) ?_ ?_
              rotate_left
              · intro w hSw; (try dsimp only at hSw); go_simp; (try with_reducible rfl)
              try simp only [Act.put, List.setIfInBounds_toArray, List.set_cons_zero, List.set_cons_succ]
              refine take_yes 8 59 rfl rfl (by kernel_rfl) (by kernel_rfl) (by kernel_rfl) (fun _ _ _ h => h) (by rfl) (by assumption) (v := ?_) ?_ ?_
              rotate_left
              · intro w hSw; (try dsimp only at hSw); go_simp; (try with_reducible rfl)
              try simp only [Act.put, List.setIfInBounds_toArray, List.set_cons_zero, List.set_cons_succ]
              refine take_yes 9 60 rfl rfl (by kernel_rfl) (by kernel_rfl) (by kernel_rfl) (fun _ _ _ h => h) (by rfl) (by assumption) (v := ?_) ?_ ?_
              rotate_left
              · intro w hSw; (try dsimp only at hSw); go_simp; (try with_reducible rfl)
              try simp only [Act.put, List.setIfInBounds_toArray, List.set_cons_zero, List.set_cons_succ]
              refine take_yes 10 61 rfl rfl (by kernel_rfl) (by kernel_rfl) (by kernel_rfl) (fun _ _ _ h => h) (by rfl) (by assumption) (v := ?_) ?_ ?_
              rotate_left
              · intro w hSw; (try dsimp only at hSw); go_simp; (try with_reducible rfl)
              try simp only [Act.put, List.setIfInBounds_toArray, List.set_cons_zero, List.set_cons_succ]
              refine take_yes 11 62 rfl rfl (by kernel_rfl) (by kernel_rfl) (by kernel_rfl) (fun _ _ _ h => h) (by rfl) (by assumption) (v := ?_) ?_ ?_
              rotate_left
              · intro w hSw; (try dsimp only at hSw); go_simp; (try with_reducible rfl)
              try simp only [Act.put, List.setIfInBounds_toArray, List.set_cons_zero, List.set_cons_succ]
              refine wpAnyH_ready (rs := [4]) (by kernel_rfl) (by simp) ?_
              refine AllReadyH.cons (o := _) rfl (fun K hK => ?_) AllReadyH.nil
              go_simp
              refine (set_y (k1, k2) x HK.out HPd.out.ck HPd.out.ok (by have := HO.out; omega) HPd.out.fr).mono ?_
              rintro e v1 ⟨rfl, hC1, S1, hG1, hO1⟩
              (try go_wp2_with fail)
              have HQ := Lib.hid (And.intro hC1 (HPd.out.prog hG1 hO1))
              have HN1 := Lib.hid (And.intro (hO1.keep hG1 HNd.out.1 (by decide)) (hO1.keep hG1 HNd.out.2 (by decide)))
              clear hC1 hG1 hO1
              refine hK.out _ _ ?_ (fun hHeld1 => ?_)
              · (try dsimp only); exact HX.out _ HN1.out.1 HN1.out.2
              clear hK K hHeld
              try simp only [Act.put, List.setIfInBounds_toArray, List.set_cons_zero, List.set_cons_succ]
              refine wpAnyH_ready (rs := [12]) (by kernel_rfl) (by simp) ?_
              refine AllReadyH.cons (o := _) rfl (fun K hK => ?_) AllReadyH.nil
              go_simp
              refine (dcSet k1 k2 x HPd.out.ok.n0 HPd.out.ok.n1 (by have := HPd.out.cr.len; have := HPd.out.ok.len; omega) HQ.out.2.2.1).mono ?_
              rintro e v2 ⟨rfl, r2, hD2, hr2, hG2⟩
              (try go_wp2_with fail)
              have HN2 := Lib.hid (And.intro (dc_keep HQ.out.2.2.1 hG2 HN1.out.1 (by decide)) (dc_keep HQ.out.2.2.1 hG2 HN1.out.2 (by decide)))
              have HE : Hid (TCut w b c g j nO nK #[.int .i64 kd, .int .i64 k1, .int .i64 k2, .int .i64 x] (k1, k2) v2) := Lib.hid ⟨_, _, _, _, _, _, TCs.doc (HPd.out.ok.set_ (k1, k2) x) (HPd.out.cr.set_ HPd.out.ok (k1, k2) x) HQ.out.2.1 HQ.out.1 HQ.out.2.2.1 HQ.out.2.2.2 HPd.out.hg hG2 hD2 (fun q hq => by rcases hr2 q hq with h | h; exact HPd.out.hr q h; exact Nat.le_trans HQ.out.2.2.2.size h), by have := (setO_le o L (k1, k2) x).2; have := HO.out; omega, HN2.out.1, HN2.out.2⟩
              have e5 := HPd.out.cr.setE_ HPd.out.ok (k1, k2) x
              rw [e5]
              clear hD2 hr2 hG2 e5
              refine hK.out _ _ ?_ (fun hHeld2 => ?_)
              · (try dsimp only); exact HX.out _ HN2.out.1 HN2.out.2
              clear hK K hHeld1
              try simp only [Act.put, List.setIfInBounds_toArray, List.set_cons_zero, List.set_cons_succ]
              refine take_yes 13 64 rfl rfl (by kernel_rfl) (by kernel_rfl) (by kernel_rfl) (fun _ _ _ h => h) (by rfl) (by assumption) (v := ?_) ?_ ?_
              rotate_left
              · intro w hSw; (try dsimp only at hSw); go_simp; (try with_reducible rfl)
              try simp only [Act.put, List.setIfInBounds_toArray, List.set_cons_zero, List.set_cons_succ]
              refine wpAnyH_done (by kernel_rfl) ?_ _
              clear hHeld2
              go_wp2_with fail
              go_meet
              exact HE.out
            · have hd1 : (kd == 1) = false := by simpa using hd
              by_cases he : kd = 2
              · have hd2 : (kd == 2) = true := by simpa using he
                clear hd he
                go_wp2_with fail
                refine wp_region_held_drew (S := (fun W => (W.cell? ⟨nO, 0, none⟩ = some (.int .i64 kd) ∧ W.cell? ⟨nO, 1, none⟩ = some (.int .i64 k1) ∧ W.cell? ⟨nO, 2, none⟩ = some (.int .i64 k2) ∧ W.cell? ⟨nO, 3, none⟩ = some (.int .i64 x) ∧ W.cell? ⟨nK, 0, none⟩ = some (.int .i64 k1) ∧ W.cell? ⟨nK, 1, none⟩ = some (.int .i64 k2)) ∧ Blk W nO #[.int .i64 kd, .int .i64 k1, .int .i64 k2, .int .i64 x] 139 ∧ Blk W nK #[.int .i64 k1, .int .i64 k2] 141)) (by kernel_rfl) ?_ (fun hHeld => ?_)
                · (try dsimp only); exact HX.out _ HNO.out.1.drew HNO.out.2.drew
                have HPd := Lib.hid (HP3.out.fr0 (Fr.refl [] W3).drew)
                have HNd := Lib.hid (And.intro HNO.out.1.drew HNO.out.2.drew)
                obtain ⟨v0, hv⟩ : ∃ X, W3.drew = X := ⟨_, rfl⟩
                rw [hv] at hHeld HPd HNd ⊢
                clear hv
                refine take_yes 0 67 rfl rfl (by kernel_rfl) (by kernel_rfl) (by kernel_rfl) (fun _ _ _ h => h) (by rfl) (by assumption) (v := ?_) ?_ ?_
                rotate_left
                · intro w hSw; (try dsimp only at hSw); go_simp; (try with_reducible rfl)
                try simp only [Act.put, List.setIfInBounds_toArray, List.set_cons_zero, List.set_cons_succ]
                refine take_yes 1 68 rfl rfl (by kernel_rfl) (by kernel_rfl) (by kernel_rfl) (fun _ _ _ h => h) (by rfl) (by assumption) (v := ?_) ?_ ?_
                rotate_left
                · intro w hSw; (try dsimp only at hSw); go_simp; (try with_reducible rfl)
                try simp only [Act.put, List.setIfInBounds_toArray, List.set_cons_zero, List.set_cons_succ]
                refine take_yes 3 70 rfl rfl (by kernel_rfl) (by kernel_rfl) (by kernel_rfl) (fun _ _ _ h => h) (by rfl) (by assumption) (v := ?_) ?_ ?_
                rotate_left
                · intro w hSw; (try dsimp only at hSw); go_simp; (try with_reducible rfl)
                try simp only [Act.put, List.setIfInBounds_toArray, List.set_cons_zero, List.set_cons_succ]
                refine take_yes 4 71 rfl rfl (by kernel_rfl) (by kernel_rfl) (by kernel_rfl) (fun _ _ _ h => h) (by rfl) (by assumption) (v := ?_) ?_ ?_
                rotate_left
                · intro w hSw; (try dsimp only at hSw); go_simp; (try with_reducible rfl)
                try simp only [Act.put, List.setIfInBounds_toArray, List.set_cons_zero, List.set_cons_succ]
                refine take_yes 5 72 rfl rfl (by kernel_rfl) (by kernel_rfl) (by kernel_rfl) (fun _ _ _ h => h) (by rfl) (by assumption) (v := ?_) ?_ ?_
                rotate_left
                · intro w hSw; (try dsimp only at hSw); go_simp; (try with_reducible rfl)
                try simp only [Act.put, List.setIfInBounds_toArray, List.set_cons_zero, List.set_cons_succ]
                refine take_yes 6 73 rfl rfl (by kernel_rfl) (by kernel_rfl) (by kernel_rfl) (fun _ _ _ h => h) (by rfl) (by assumption) (v := ?_) ?_ ?_
                rotate_left
                · intro w hSw; (try dsimp only at hSw); go_simp; (try with_reducible rfl)
                try simp only [Act.put, List.setIfInBounds_toArray, List.set_cons_zero, List.set_cons_succ]
                refine take_yes 7 74 rfl rfl (by kernel_rfl) (by kernel_rfl) (by kernel_rfl) (fun _ _ _ h => h) (by rfl) (by assumption) (v := ?_) ?_ ?_
                rotate_left
                · intro w hSw; (try dsimp only at hSw); go_simp; (try with_reducible rfl)
                try simp only [Act.put, List.setIfInBounds_toArray, List.set_cons_zero, List.set_cons_succ]
                refine wpAnyH_ready (rs := [2]) (by kernel_rfl) (by simp) ?_
                refine AllReadyH.cons (o := _) rfl (fun K hK => ?_) AllReadyH.nil
                go_simp
                refine (cancel_y (k1, k2) HK.out HPd.out.ck).mono ?_
                rintro e v1 ⟨rfl, hC1, S1, hG1, hO1⟩
                (try go_wp2_with fail)
                have HQ := Lib.hid (And.intro hC1 (HPd.out.prog hG1 hO1))
                have HN1 := Lib.hid (And.intro (hO1.keep hG1 HNd.out.1 (by decide)) (hO1.keep hG1 HNd.out.2 (by decide)))
                clear hC1 hG1 hO1
                refine hK.out _ _ ?_ (fun hHeld1 => ?_)
                · (try dsimp only); exact HX.out _ HN1.out.1 HN1.out.2
                clear hK K hHeld
                try simp only [Act.put, List.setIfInBounds_toArray, List.set_cons_zero, List.set_cons_succ]
                refine wpAnyH_ready (rs := [8]) (by kernel_rfl) (by simp) ?_
                refine AllReadyH.cons (o := _) rfl (fun K hK => ?_) AllReadyH.nil
                go_simp
                refine (dcCancel k1 k2 (by have := HPd.out.cr.len; have := HPd.out.ok.len; omega) HQ.out.2.2.1).mono ?_
                rintro e v2 ⟨rfl, r2, hD2, hr2, hG2⟩
                (try go_wp2_with fail)
                have HN2 := Lib.hid (And.intro (dc_keep HQ.out.2.2.1 hG2 HN1.out.1 (by decide)) (dc_keep HQ.out.2.2.1 hG2 HN1.out.2 (by decide)))
                have HE : Hid (TCut w b c g j nO nK #[.int .i64 kd, .int .i64 k1, .int .i64 k2, .int .i64 x] (k1, k2) v2) := Lib.hid ⟨_, _, _, _, _, _, TCs.doc (HPd.out.ok.cut_ (k1, k2)) (HPd.out.cr.cut_ HPd.out.ok.keys (k1, k2)) HQ.out.2.1 HQ.out.1 HQ.out.2.2.1 HQ.out.2.2.2 HPd.out.hg hG2 hD2 (fun q hq => by rcases hr2 q hq with h | h; exact HPd.out.hr q h; exact Nat.le_trans HQ.out.2.2.2.size h), by have := HO.out; omega, HN2.out.1, HN2.out.2⟩
                have e5 := (HPd.out.cr.at_ HPd.out.ok.keys (k1, k2)).2
                rw [e5]
                clear hD2 hr2 hG2 e5
                refine hK.out _ _ ?_ (fun hHeld2 => ?_)
                · (try dsimp only); exact HX.out _ HN2.out.1 HN2.out.2
                clear hK K hHeld1
                try simp only [Act.put, List.setIfInBounds_toArray, List.set_cons_zero, List.set_cons_succ]
                refine take_yes 9 76 rfl rfl (by kernel_rfl) (by kernel_rfl) (by kernel_rfl) (fun _ _ _ h => h) (by rfl) (by assumption) (v := ?_) ?_ ?_
                rotate_left
                · intro w hSw; (try dsimp only at hSw); go_simp; (try with_reducible rfl)
                try simp only [Act.put, List.setIfInBounds_toArray, List.set_cons_zero, List.set_cons_succ]
                refine wpAnyH_done (by kernel_rfl) ?_ _
                clear hHeld2
                go_wp2_with fail
                go_meet
                exact HE.out
              · have hd2 : (kd == 2) = false := by simpa using he
                by_cases hf : kd = 4
                · have hd4 : (kd == 4) = true := by simpa using hf
                  clear hd he hf
                  go_wp2_with fail
                  refine wp_region_held_drew (S := (fun W => (W.cell? ⟨nO, 0, none⟩ = some (.int .i64 kd) ∧ W.cell? ⟨nO, 1, none⟩ = some (.int .i64 k1) ∧ W.cell? ⟨nO, 2, none⟩ = some (.int .i64 k2) ∧ W.cell? ⟨nO, 3, none⟩ = some (.int .i64 x) ∧ W.cell? ⟨nK, 0, none⟩ = some (.int .i64 k1) ∧ W.cell? ⟨nK, 1, none⟩ = some (.int .i64 k2)) ∧ Blk W nO #[.int .i64 kd, .int .i64 k1, .int .i64 k2, .int .i64 x] 139 ∧ Blk W nK #[.int .i64 k1, .int .i64 k2] 141)) (by kernel_rfl) ?_ (fun hHeld => ?_)
                  · (try dsimp only); exact HX.out _ HNO.out.1.drew HNO.out.2.drew
                  have HPd := Lib.hid (HP3.out.fr0 (Fr.refl [] W3).drew)
                  have HNd := Lib.hid (And.intro HNO.out.1.drew HNO.out.2.drew)
                  obtain ⟨v0, hv⟩ : ∃ X, W3.drew = X := ⟨_, rfl⟩
                  rw [hv] at hHeld HPd HNd ⊢
                  clear hv
                  refine take_yes 0 79 rfl rfl (by kernel_rfl) (by kernel_rfl) (by kernel_rfl) (fun _ _ _ h => h) (by rfl) (by assumption) (v := ?_) ?_ ?_
                  rotate_left
                  · intro w hSw; (try dsimp only at hSw); go_simp; (try with_reducible rfl)
                  try simp only [Act.put, List.setIfInBounds_toArray, List.set_cons_zero, List.set_cons_succ]
                  refine take_yes 1 80 rfl rfl (by kernel_rfl) (by kernel_rfl) (by kernel_rfl) (fun _ _ _ h => h) (by rfl) (by assumption) (v := ?_) ?_ ?_
                  rotate_left
                  · intro w hSw; (try dsimp only at hSw); go_simp; (try with_reducible rfl)
                  try simp only [Act.put, List.setIfInBounds_toArray, List.set_cons_zero, List.set_cons_succ]
                  refine take_yes 2 81 rfl rfl (by kernel_rfl) (by kernel_rfl) (by kernel_rfl) (fun _ _ _ h => h) (by rfl) (by assumption) (v := ?_) ?_ ?_
                  rotate_left
                  · intro w hSw; (try dsimp only at hSw); go_simp; (try with_reducible rfl)
                  try simp only [Act.put, List.setIfInBounds_toArray, List.set_cons_zero, List.set_cons_succ]
                  refine take_yes 4 83 rfl rfl (by kernel_rfl) (by kernel_rfl) (by kernel_rfl) (fun _ _ _ h => h) (by rfl) (by assumption) (v := ?_) ?_ ?_
                  rotate_left
                  · intro w hSw; (try dsimp only at hSw); go_simp; (try with_reducible rfl)
                  try simp only [Act.put, List.setIfInBounds_toArray, List.set_cons_zero, List.set_cons_succ]
                  refine take_yes 5 84 rfl rfl (by kernel_rfl) (by kernel_rfl) (by kernel_rfl) (fun _ _ _ h => h) (by rfl) (by assumption) (v := ?_) ?_ ?_
                  rotate_left
                  · intro w hSw; (try dsimp only at hSw); go_simp; (try with_reducible rfl)
                  try simp only [Act.put, List.setIfInBounds_toArray, List.set_cons_zero, List.set_cons_succ]
                  refine take_yes 6 85 rfl rfl (by kernel_rfl) (by kernel_rfl) (by kernel_rfl) (fun _ _ _ h => h) (by rfl) (by assumption) (v := ?_) ?_ ?_
                  rotate_left
                  · intro w hSw; (try dsimp only at hSw); go_simp; (try with_reducible rfl)
                  try simp only [Act.put, List.setIfInBounds_toArray, List.set_cons_zero, List.set_cons_succ]
                  refine wpAnyH_ready (rs := [3]) (by kernel_rfl) (by simp) ?_
                  refine AllReadyH.cons (o := _) rfl (fun K hK => ?_) AllReadyH.nil
                  go_simp
                  refine (tkP x HPd.out.ck HPd.out.ok).mono ?_
                  rintro e v1 ⟨ks, A1, d1, rfl, hks, hC1, ⟨S1, hG1, hO1⟩, hw1⟩
                  (try go_wp2_with fail)
                  have HQ := Lib.hid (And.intro hC1 (HPd.out.prog hG1 hO1))
                  have HN1 := Lib.hid (And.intro (hO1.keep hG1 HNd.out.1 (by decide)) (hO1.keep hG1 HNd.out.2 (by decide)))
                  have HW1 := Lib.hid (And.intro hks hw1)
                  clear hC1 hG1 hO1 hw1 hks
                  refine hK.out _ _ ?_ (fun hHeld1 => ?_)
                  · (try dsimp only); exact HX.out _ HN1.out.1 HN1.out.2
                  clear hK K hHeld
                  try simp only [Act.put, List.setIfInBounds_toArray, List.set_cons_zero, List.set_cons_succ]
                  refine wpAnyH_ready (rs := [7]) (by kernel_rfl) (by simp) ?_
                  refine AllReadyH.cons (o := _) rfl (fun K hK => ?_) AllReadyH.nil
                  go_simp
                  refine (tkD_any (B0 := w.heap.size) x HPd.out.ok.n0 HPd.out.ok.n1 (by have := HPd.out.cr.len; have := HPd.out.ok.len; omega) HQ.out.2.2.1 HPd.out.hr HQ.out.2.2.2.size).mono ?_
                  rintro e v2 ⟨A2, d2, r2, rfl, hw2, hD2, hr2, hG2⟩
                  (try go_wp2_with fail)
                  have HN2 := Lib.hid (And.intro (dc_keep HQ.out.2.2.1 hG2 HN1.out.1 (by decide)) (dc_keep HQ.out.2.2.1 hG2 HN1.out.2 (by decide)))
                  have HT := Lib.hid (TCs.doc (tk_ci HPd.out.ok x) (tk_cr HPd.out.cr x) HQ.out.2.1 HQ.out.1 HQ.out.2.2.1 HQ.out.2.2.2 HPd.out.hg hG2 hD2 hr2)
                  have HW2 := Lib.hid (And.intro (dc_keep_row HQ.out.2.2.1 hG2 HW1.out.2 (by decide)) hw2)
                  clear hD2 hr2 hG2 hw2
                  refine hK.out _ _ ?_ (fun hHeld2 => ?_)
                  · (try dsimp only); exact HX.out _ HN2.out.1 HN2.out.2
                  clear hK K hHeld1
                  try simp only [Act.put, List.setIfInBounds_toArray, List.set_cons_zero, List.set_cons_succ]
                  refine take_yes 8 11 rfl rfl (by kernel_rfl) (by kernel_rfl) (by kernel_rfl) (fun _ _ _ h => h) (by rfl) (by assumption) (v := ?_) ?_ ?_
                  rotate_left
                  · intro w hSw; (try dsimp only at hSw); go_simp; (try with_reducible rfl)
                  try simp only [Act.put, List.setIfInBounds_toArray, List.set_cons_zero, List.set_cons_succ]
                  refine take_yes 9 12 rfl rfl (by kernel_rfl) (by kernel_rfl) (by kernel_rfl) (fun _ _ _ h => h) (by rfl) (by assumption) (v := ?_) ?_ ?_
                  rotate_left
                  · intro w hSw; (try dsimp only at hSw); go_simp; (try with_reducible rfl)
                  try simp only [Act.put, List.setIfInBounds_toArray, List.set_cons_zero, List.set_cons_succ]
                  refine wpAnyH_done (by kernel_rfl) ?_ _
                  clear hHeld2
                  go_wp2_with fail
                  have hke := tk_keys HPd.out.ok HPd.out.cr x ks HW1.out.1
                  have hle := tk_len HPd.out.cr HPd.out.ok x
                  have HBL := Lib.hid HPd.out.bk.lt
                  have HSZ := Lib.hid HPd.out.fr.size
                  obtain ⟨O, hOe⟩ : ∃ O, tkO n D x = O := ⟨_, rfl⟩
                  rw [hOe] at hke hle HW2 ⊢
                  have klen : O.length = ks.length := by rw [← hke, List.length_map]
                  have HRO := Lib.hid (RAt.of_own tmF_len HW2.out.2)
                  have HRK := Lib.hid (RAt.of_own keyF_len (show v2.ownsRow v0.heap.size 141 2 (.slice A1 ks.length d1) ks.length (rowF keyF ks) from HW2.out.1))
                  have hc1 := (rown_caps HW2.out.1).1
                  have hc2 := (rown_caps HW2.out.2).1
                  have hc3 := (rown_caps HW2.out.1).2
                  have hc4 := (rown_caps HW2.out.2).2
                  rw [klen] at hle hc2 ⊢
                  have BK := Lib.hid (HT.out.bk.keys HT.out.fr.size A1 d1 ks (rown_base HW2.out.1 (Nat.zero_le _)) (by omega) (fun u hu q hq e => by have := HBL.out u hu q hq; have := own_new HW2.out.1 q e; omega) (fun q hq => Nat.le_trans HSZ.out (own_new HW2.out.1 q hq)))
                  have KE := Lib.hid hke
                  have hksI : (ks.length : Int) ≤ 300 := by omega
                  clear hke hOe HPd HNd HN1 HW1 HBL HSZ
                  go_wp2_with fail
                  refine BK.out.mono ?_
                  rintro e v3 ⟨rfl, ⟨kp', hK3⟩, hF3⟩
                  have HT3 := Lib.hid (HT.out.book hF3 hK3)
                  have HN3 := Lib.hid (And.intro (hF3.blk HN2.out.1 (by decide) (by decide)) (hF3.blk HN2.out.2 (by decide) (by decide)))
                  have HRK3 := Lib.hid (RAt.of_own keyF_len (show v3.ownsRow v0.heap.size 141 2 (.slice A1 ks.length d1) ks.length (rowF keyF ks) from hF3.row HW2.out.1 (by decide) (by decide)))
                  have hTr := hF3.row HW2.out.2 (by decide) (by decide)
                  have HRO3 := Lib.hid (RAt.of_own tmF_len hTr)
                  clear hTr hK3 hF3 BK HT HN2 HW2 HRO HRK HQ
                  go_wp2_with fail
                  go_loopw [13] (fun iv wr' => ∃ i : Nat, i ≤ ks.length ∧ iv = .int .i64 i ∧ Fr [] v3 wr') (fun iv _ => ks.length - (intOf iv).toNat)
                  case atStart => exact ⟨0, Nat.zero_le _, rfl, Fr.refl _ _⟩
                  case round =>
                    obtain ⟨i, hi, rfl, hF4⟩ := hrel
                    by_cases hil : i < ks.length
                    · obtain ⟨⟨⟨e1, e2⟩, et⟩, hy⟩ : ∃ y, O[i]? = some y := ⟨_, List.getElem?_eq_getElem (by omega)⟩
                      have hky : ks[i]? = some (e1, e2) := by rw [← KE.out, List.getElem?_map, hy]; rfl
                      obtain ⟨q1, rfl, _, hc1'⟩ := HRK3.out i _ hky
                      obtain ⟨q2, rfl, _, hc2'⟩ := HRO3.out i _ hy
                      obtain ⟨x0, x1⟩ : wr.cell? ⟨q1, i * 2, none⟩ = some (.int .i64 e1) ∧ wr.cell? ⟨q1, i * 2 + 1, none⟩ = some (.int .i64 e2) := ⟨hc1' wr hF4 0 _ rfl, hc1' wr hF4 1 _ rfl⟩
                      obtain ⟨x2, x3⟩ : wr.cell? ⟨q2, i * 3, none⟩ = some (.int .i64 e1) ∧ wr.cell? ⟨q2, i * 3 + 1, none⟩ = some (.int .i64 e2) := ⟨hc2' wr hF4 0 _ rfl, hc2' wr hF4 1 _ rfl⟩
                      have hn1 : (e1 != e1) = false := by simp
                      have hn2 : (e2 != e2) = false := by simp
                      have HF4 := Lib.hid hF4
                      clear hc1' hc2' hy hky hF4
                      go_wp2_with fail
                      go_quiet (fail)
                      go_wp2_with fail
                      go_roundw
                      case rel => exact ⟨i + 1, by omega, by go_num, HF4.out.drewN _⟩
                      case measure => (simp [intOf]) <;> omega
                    · obtain rfl : i = ks.length := by omega
                      have HE : Hid (TCut w b c g j nO nK #[.int .i64 kd, .int .i64 k1, .int .i64 k2, .int .i64 x] (k1, k2) wr) := Lib.hid ⟨_, _, _, _, _, _, HT3.out.fr0 hF4, by have := HO.out; omega, hF4.blk HN3.out.1 (by simp), hF4.blk HN3.out.2 (by simp)⟩
                      clear hF4
                      go_wp2_with fail
                      go_meet
                      exact HE.out
                · have hd4 : (kd == 4) = false := by simpa using hf
                  clear hd he hf
                  go_wp2_with fail
                  go_meet
                  exact ⟨_, _, _, _, _, _, HP3.out, by have := HO.out; omega, HNO.out.1, HNO.out.2⟩
          case rest =>
            clear HP3 HNO HX
            obtain ⟨n2, o2, L2, r2, D2, kp2, hP, ho2, hB1, hB2⟩ := hcut
            obtain ⟨A2, d2, rfl⟩ := rown_slice hP.dc.row
            have WH := Lib.hid (when_in (k1, k2) HK.out hP.ck)
            have hD2l : D2.length ≤ 1000 := by have := hP.cr.len; have := hP.ok.len; omega
            have WD := Lib.hid fun (W : World) (hW : Fr [] wc W) => dcWhen k1 k2 hD2l (hP.dc.fr0 hW)
            rw [(hP.cr.at_ hP.ok.keys (k1, k2)).1, (hP.cr.at_ hP.ok.keys (k1, k2)).2] at WD
            obtain ⟨tv, htv⟩ : ∃ t, (tmD (look L2 (k1, k2))).1 = t := ⟨_, rfl⟩
            obtain ⟨tb, htb⟩ : ∃ t, (look L2 (k1, k2)).isSome = t := ⟨_, rfl⟩
            rw [htv, htb] at WH WD
            have HB : Hid (∀ W, Fr [] wc W → W.cell? ⟨nO, 1, none⟩ = some (.int .i64 k1) ∧ W.cell? ⟨nO, 2, none⟩ = some (.int .i64 k2) ∧ W.cell? ⟨nK, 0, none⟩ = some (.int .i64 k1) ∧ W.cell? ⟨nK, 1, none⟩ = some (.int .i64 k2)) := Lib.hid fun W hW => ⟨(hW.blk hB1 (by simp)).c 1 _ rfl, (hW.blk hB1 (by simp)).c 2 _ rfl, (hW.blk hB2 (by simp)).c 0 _ rfl, (hW.blk hB2 (by simp)).c 1 _ rfl⟩
            obtain ⟨z1, z2, z3, z4⟩ := HB.out _ (Fr.refl _ _)
            have HP := Lib.hid hP
            have hl2 := hP.cr.len
            have HC2 : Hid (∀ W, Fr [] wc W → W.cell? ⟨g, 0, none⟩ = some (.int .i64 n2) ∧ W.cell? ⟨g, 1, none⟩ = some (.slice A2 L2.length d2)) := Lib.hid fun W hW => by
              have := hW.blk hP.dc.st (by simp)
              rw [hl2] at this
              exact ⟨this.c 0 _ rfl, this.c 1 _ rfl⟩
            have HO2 := Lib.hid ho2
            clear hP hB1 hB2 htv htb hD2l hl2 ho2
            go_wp2_with fail
            refine WH.out.mono ?_
            rintro e w5 ⟨rfl, hF5⟩
            have WD5 := Lib.hid (WD.out _ hF5)
            have HF5 := Lib.hid hF5
            clear z1 z2 z3 z4
            obtain ⟨z1, z2, z3, z4⟩ := HB.out _ hF5
            clear WH WD hF5
            go_wp2_with fail
            refine WD5.out.mono ?_
            rintro e w6 ⟨rfl, hF6⟩
            have HP6 := Lib.hid (HP.out.fr0 (HF5.out.trans hF6))
            obtain ⟨g0, g1⟩ := HC2.out _ (HF5.out.trans hF6)
            have HN6 := Lib.hid fun N => now_in (HP6.out.ck.fr0 ((Fr.refl [] w6).drewN N))
            have HL6 := Lib.hid fun N => len_in (HP6.out.ck.fr0 ((Fr.refl [] w6).drewN N))
            have hn1 : (tv != tv) = false := by simp
            have hn2 : (tb != tb) = false := by simp
            have hn3 : (n2 != n2) = false := by simp
            have hn4 : ((L2.length : Int) != L2.length) = false := by simp
            clear z1 z2 z3 z4 WD5 hF6 HF5 HB HC2 HP
            go_wp2_with fail
            go_quiet (first | (go_at_call 77; exact Calls.quiet_of_same (HN6.out _)) | (go_at_call 78; exact Calls.quiet_of_same (HL6.out _)))
            go_wp2_with fail
            go_roundw
            case rel => exact ⟨j + 1, _, _, _, _, _, _, by omega, by go_num, by have := HO2.out; omega, HP6.out.fr0 ((Fr.refl [] w6).drewN _)⟩
            case measure => (simp [intOf]) <;> omega
        · obtain rfl : j = len := by omega
          have AP := Lib.hid fun (W : World) (hW : Fr [] wr W) => ((HP0.out.fr0 hW).bk.apart (HP0.out.fr0 hW).fr)
          go_wp2_with fail
          refine (AL.out _).mono ?_
          rintro e w5 ⟨rfl, hF5⟩
          have AP2 := Lib.hid (AP.out _ hF5)
          clear hF5 AP
          go_wp2_with fail
          refine AP2.out.mono ?_
          rintro e w6 ⟨rfl, hF6⟩
          have HF6 := Lib.hid hF6
          clear hF6 AP2
          go_wp2_with fail
          go_ret
          exact ⟨rfl, HF6.out.below (Nat.le_refl _) (by simp)⟩
end Go.Proofs.YtfchbppfbepelaaGreat
