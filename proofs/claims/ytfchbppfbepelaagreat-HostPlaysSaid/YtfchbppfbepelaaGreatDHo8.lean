/- the document's host asks (printed by tools/gen_dho8.py). -/
import Derived.Test.YtfchbppfbepelaaGreatDHo7
import Derived.Test.YtfchbppfbepelaaGreatHpL
import Derived.Test.YtfchbppfbepelaaGreatPHo2
namespace Go.Proofs.YtfchbppfbepelaaGreat
open Go.RowKit
set_option linter.unusedVariables false
/-- frames are told, and the document's host is d -/
def DOut (w : World) (g : Nat) (l : List Eth) (d : Dh) (e : Ending) (w' : World) : Prop := OutP w l [g] e w' ∧ Blk w' g (dhC d) 254
section
variable {w : World} {g : Nat} {d : Dh}
set_option maxRecDepth 100000 in
set_option maxHeartbeats 8000000 in
theorem dask_one (h1 : d.sv.length ≤ 40) (h2 : d.un.length ≤ 40) (hst : d.st = 1) (hB : Blk w g (dhC d) 254) : Calls Tryz.prog 198 #[.pointer (some ⟨g, 0, none⟩)] w (DOut w g (dSayL d) { d with tk := 0 }) := by
  obtain ⟨i0, hi, hz0, hz1, hz2⟩ := info_parts infoTag
  have hB1 : Blk (w.setCell ⟨g, 20, none⟩ (.int .i64 0)) g (dhC { d with tk := 0 }) 254 := by
    have := hB.set 20 (.int .i64 0)
    simpa [dhC] using this
  have hF1 := (Fr.refl [g] w).setCell (p := ⟨g, 20, none⟩) (by simp) (.int .i64 0)
  have d20 : w.cell? ⟨g, 20, none⟩ = some (.int .i64 d.tk) := hB.c 20 _ rfl
  have f20 := hB.fz 20
  obtain ⟨W1, hW1⟩ : ∃ W, w.setCell ⟨g, 20, none⟩ (.int .i64 0) = W := ⟨_, rfl⟩
  rw [hW1] at hB1 hF1
  have hgl := hB.lt
  have HL : Hid (dSayL d = frameL mcF d.m 9 0 (askL d.sv d.un none)) := Lib.hid (by unfold dSayL; rw [if_neg (by omega)])
  have HA1 := Lib.hid (askL_ok d.sv d.un none)
  have HA2 := Lib.hid (askL_len d.sv d.un none)
  have HA3 := Lib.hid (askL_size d.sv d.un none h1 h2 (fun s hs => by cases hs))
  obtain ⟨⟨m1, m2, m3, m4, m5, m6⟩, sv, un, rt, wt, st, ss, ⟨a1, a2, a3, a4, a5, a6⟩, ck, hc, tk, ag⟩ := d
  simp only at hst HL HA1 HA2 HA3 h1 h2
  subst hst
  have HH : Hid (∀ W, Fr [] W1 W → Blk W g (dhC ⟨⟨m1, m2, m3, m4, m5, m6⟩, sv, un, rt, wt, 1, ss, ⟨a1, a2, a3, a4, a5, a6⟩, ck, hc, 0, ag⟩) 254) := Lib.hid fun W hW => hW.blk hB1 (by simp)
  have C6 : W1.cell? ⟨g, 6, none⟩ = some (.string (B sv)) := hB1.c 6 _ rfl
  have C10 : W1.cell? ⟨g, 10, none⟩ = some (.int .i64 1) := hB1.c 10 _ rfl
  have HF1 := Lib.hid hF1
  clear hB hB1 hF1 h1 h2
  go_enter Tryz.func198, Tryz.ntmps198
  have hG1 := (Fr.refl [] W1).alloc (.cells #[.int .i64 257, .string (B sv)] 272 (0, 0))
  have hown1 : (W1.alloc (.cells #[.int .i64 257, .string (B sv)] 272 (0, 0))).ownsRow W1.heap.size 272 2 (.slice (some ⟨W1.heap.size, 0, none⟩) 1 1) 1 (tgF [(257, sv)]) := World.ownsRow_lit W1 #[.int .i64 257, .string (B sv)] 1 (Nat.le_refl _) (by unfold maxLen; omega) rfl
  have x10 : (W1.alloc (.cells #[.int .i64 257, .string (B sv)] 272 (0, 0))).cell? ⟨g, 10, none⟩ = some (.int .i64 1) := (HH.out _ hG1).c 10 _ rfl
  have x19 : (W1.alloc (.cells #[.int .i64 257, .string (B sv)] 272 (0, 0))).cell? ⟨g, 19, none⟩ = some (.bool hc) := (HH.out _ hG1).c 19 _ rfl
  have x18 : (W1.alloc (.cells #[.int .i64 257, .string (B sv)] 272 (0, 0))).cell? ⟨g, 18, none⟩ = some (.string (B ck)) := (HH.out _ hG1).c 18 _ rfl
  have x7 : (W1.alloc (.cells #[.int .i64 257, .string (B sv)] 272 (0, 0))).cell? ⟨g, 7, none⟩ = some (.string (B un)) := (HH.out _ hG1).c 7 _ rfl
  obtain ⟨U1, hU1⟩ : ∃ U, W1.alloc (.cells #[.int .i64 257, .string (B sv)] 272 (0, 0)) = U := ⟨_, rfl⟩
  rw [hU1] at hG1 hown1 x10 x19 x18 x7
  have hsz1 := hG1.size
  by_cases hu : un = []
  · subst hu
    have hb : (B [] != ⟨#[]⟩) = false := rfl
    have hc := own_caps hown1
    have hTA := TgAt.of_own (l := [(257, sv)]) hown1
    have SD : Hid (∀ W, Fr [] (U1) W → Calls Tryz.prog 200 #[.agg #[.int .u8 m1, .int .u8 m2, .int .u8 m3, .int .u8 m4, .int .u8 m5, .int .u8 m6], .agg #[.int .u8 255, .int .u8 255, .int .u8 255, .int .u8 255, .int .u8 255, .int .u8 255], .int .i64 9, .int .i64 0, .slice (some ⟨W1.heap.size, 0, none⟩) 1 1] W (OutP W (frameL mcF ⟨m1, m2, m3, m4, m5, m6⟩ 9 0 [(257, sv)]) [])) := Lib.hid fun W hW => dsend_out (l := [(257, sv)]) ⟨m1, m2, m3, m4, m5, m6⟩ mcF 9 0 (hTA.fr0 hW) (show ∀ t, t ∈ [(257, sv)] → TgOk t from by have := HA1.out; simp only [askL, if_true, List.append_nil, List.nil_append, if_pos rfl, List.cons_append] at this; exact this) (show List.length [(257, sv)] ≤ 20 from by simp) hc.1 hc.2 (show (tgsB [(257, sv)]).length ≤ 100000 from by have := HA3.out; simp only [askL, if_true, List.append_nil, List.nil_append, if_pos rfl, List.cons_append] at this; exact this) (by decide) (by decide) (by decide) (by decide)
    have HLL : Hid (dSayL _ = frameL mcF ⟨m1, m2, m3, m4, m5, m6⟩ 9 0 [(257, sv)]) := Lib.hid (by have := HL.out; simp only [askL, if_true, List.append_nil, List.nil_append, if_pos rfl, List.cons_append] at this; exact this)
    obtain ⟨V, hV⟩ : ∃ V, U1 = V := ⟨_, rfl⟩
    rw [hV] at SD hG1 x10 x7 x18 x19
    have HX : Hid (∀ W, Fr [] V W → (fun W => (W.cell? ⟨g, 0, none⟩ = some (.int .u8 m1) ∧ W.cell? ⟨g, 1, none⟩ = some (.int .u8 m2) ∧ W.cell? ⟨g, 2, none⟩ = some (.int .u8 m3) ∧ W.cell? ⟨g, 3, none⟩ = some (.int .u8 m4) ∧ W.cell? ⟨g, 4, none⟩ = some (.int .u8 m5) ∧ W.cell? ⟨g, 5, none⟩ = some (.int .u8 m6)) ∧ Fr [] V W) W) := Lib.hid fun W hW => ⟨⟨(HH.out _ (hG1.trans hW)).c 0 _ rfl, (HH.out _ (hG1.trans hW)).c 1 _ rfl, (HH.out _ (hG1.trans hW)).c 2 _ rfl, (HH.out _ (hG1.trans hW)).c 3 _ rfl, (HH.out _ (hG1.trans hW)).c 4 _ rfl, (HH.out _ (hG1.trans hW)).c 5 _ rfl⟩, hW⟩
    have HFV := Lib.hid hG1
    clear hc hTA HA1 HA2 HA3 HL hown1
    go_wp2_with fail
    try rw [hV]
    clear hV
    refine wp_region_held_drew (S := (fun W => (W.cell? ⟨g, 0, none⟩ = some (.int .u8 m1) ∧ W.cell? ⟨g, 1, none⟩ = some (.int .u8 m2) ∧ W.cell? ⟨g, 2, none⟩ = some (.int .u8 m3) ∧ W.cell? ⟨g, 3, none⟩ = some (.int .u8 m4) ∧ W.cell? ⟨g, 4, none⟩ = some (.int .u8 m5) ∧ W.cell? ⟨g, 5, none⟩ = some (.int .u8 m6)) ∧ Fr [] V W)) (by kernel_rfl) ?_ (fun hHeld => ?_)
    · (try dsimp only); exact HX.out _ (Fr.refl [] V).drew
    refine take_yes 0 60 rfl rfl (by kernel_rfl) (by kernel_rfl) (by kernel_rfl) (fun _ _ _ h => h) (by rfl) (by assumption) (v := ?_) ?_ ?_
    rotate_left
    · intro w hSw; (try dsimp only at hSw); go_simp; (try with_reducible rfl)
    try simp only [Act.put, List.setIfInBounds_toArray, List.set_cons_zero, List.set_cons_succ]
    refine take_yes 1 61 rfl rfl (by kernel_rfl) (by kernel_rfl) (by kernel_rfl) (fun _ _ _ h => h) (by rfl) (by assumption) (v := ?_) ?_ ?_
    rotate_left
    · intro w hSw; (try dsimp only at hSw); go_simp; (try with_reducible rfl)
    try simp only [Act.put, List.setIfInBounds_toArray, List.set_cons_zero, List.set_cons_succ]
    refine take_yes 2 62 rfl rfl (by kernel_rfl) (by kernel_rfl) (by kernel_rfl) (fun _ _ _ h => h) (by rfl) (by assumption) (v := ?_) ?_ ?_
    rotate_left
    · intro w hSw; (try dsimp only at hSw); go_simp; (try with_reducible rfl)
    try simp only [Act.put, List.setIfInBounds_toArray, List.set_cons_zero, List.set_cons_succ]
    refine take_yes 3 63 rfl rfl (by kernel_rfl) (by kernel_rfl) (by kernel_rfl) (fun _ _ _ h => h) (by rfl) (by assumption) (v := .agg #[.int .u8 m1, .int .u8 m2, .int .u8 m3, .int .u8 m4, .int .u8 m5, .int .u8 m6]) ?_ ?_
    · intro w hSw; (try dsimp only at hSw); go_simp
    try simp only [Act.put, List.setIfInBounds_toArray, List.set_cons_zero, List.set_cons_succ]
    refine take_yes 5 65 rfl rfl (by kernel_rfl) (by kernel_rfl) (by kernel_rfl) (fun _ _ _ h => h) (by rfl) (by assumption) (v := ?_) ?_ ?_
    rotate_left
    · intro w hSw; (try dsimp only at hSw); go_simp; (try with_reducible rfl)
    try simp only [Act.put, List.setIfInBounds_toArray, List.set_cons_zero, List.set_cons_succ]
    refine wpAnyH_ready (rs := [4]) (by kernel_rfl) (by simp) ?_
    refine AllReadyH.cons (o := _) rfl (fun K hK => ?_) AllReadyH.nil
    go_simp
    refine (dall_any _).mono ?_
    rintro e v1 ⟨rfl, hF5⟩
    unfold mcL mcF
    simp only
    (try go_wp2_with fail)
    refine hK.out _ _ ?_ (fun hHeld => ?_)
    · (try dsimp only); refine HX.out _ (Fr.trans ?_ hF5); exact And.right (by assumption)
    clear hK K
    try simp only [Act.put, List.setIfInBounds_toArray, List.set_cons_zero, List.set_cons_succ]
    refine wpAnyH_ready (rs := [6]) (by kernel_rfl) (by simp) ?_
    refine AllReadyH.cons (o := _) rfl (fun K hK => ?_) AllReadyH.nil
    go_simp
    clear hF5
    have HSZ := Lib.hid (And.right hHeld).size
    refine (SD.out _ (And.right hHeld)).mono ?_
    rintro e v2 ⟨A9, c9, rfl, hrow, hF6⟩
    (try go_wp2_with fail)
    refine hK.out _ _ ?_ (fun hHeld => ?_)
    · (try dsimp only); refine HX.out _ (Fr.trans ?_ hF6); exact And.right (by assumption)
    clear hK K
    try simp only [Act.put, List.setIfInBounds_toArray, List.set_cons_zero, List.set_cons_succ]
    refine take_yes 7 2 rfl rfl (by kernel_rfl) (by kernel_rfl) (by kernel_rfl) (fun _ _ _ h => h) (by rfl) (by assumption) (v := ?_) ?_ ?_
    rotate_left
    · intro w hSw; (try dsimp only at hSw); go_simp; (try with_reducible rfl)
    try simp only [Act.put, List.setIfInBounds_toArray, List.set_cons_zero, List.set_cons_succ]
    refine wpAnyH_done (by kernel_rfl) ?_ _
    have HZ : Hid (Fr [] V v2) := Lib.hid (And.right (by assumption))
    have HR := Lib.hid (And.intro hrow hF6)
    clear hrow hF6
    go_wp2_with fail
    go_ret
    refine ⟨?_, HH.out _ (HFV.out.trans HZ.out)⟩
    rw [HLL.out]
    exact ⟨A9, c9, rfl, ⟨HR.out.1.1, HR.out.1.2.imp id fun ⟨x, cap', cur, z1, z2, z3⟩ => ⟨x, cap', cur, z1, Nat.le_trans HF1.out.size (Nat.le_trans HFV.out.size (Nat.le_trans HSZ.out z2)), z3⟩⟩, HF1.out.trans ((HFV.out.trans HZ.out).mono (S' := [g]) (by simp))⟩
  · have hs2 : ¬ B un = ⟨#[]⟩ := fun e => hu (List.eq_nil_of_length_eq_zero (by rw [← B_size, e]; rfl))
    have hs3 : (B un == ⟨#[]⟩) = false := by show ((B un).data == (#[] : Array UInt8)) = false; rw [beq_eq_false_iff_ne]; exact fun h => hs2 (ByteArray.ext h)
    have hb : (B un != ⟨#[]⟩) = true := by simp only [bne, hs3]; rfl
    have hie : un.isEmpty = false := by simpa using hu
    have HU := Lib.hid hu
    clear hs2 hs3 hb hu
    go_wp2_with (at_builtin; refine wpList_append_own _ rfl _ _ 250 rfl W1.heap.size 272 i0 (.agg #[.int .i64 0, .string ⟨#[]⟩]) 2 24 Tryz.underlying250 hi hz0 hz1 hz2 rfl (by decide) _ 1 _ rfl (hown1.alloc _) ⟨U1.heap.size, 0, none⟩ 1 1 (tgL (259, un)) rfl rfl ?d31 ?d32 ?d33 ?d34 ?d35 ?_)
    try (case d31 => first | exact new_cells (U1) (tgL (259, un)) 272 | exact fun j u h => h)
    try (case d32 => simp [tgL, Value.oneCell'])
    try (case d33 => unfold maxLen; omega)
    try (case d34 => omega)
    try (case d35 => first | omega | (simp; done) | (simp; omega))
    intro v3 w3 hown3 hgr3 _
    have hG3 := (hG1.alloc (.cells #[.int .i64 259, .string (B un)] 272 (0, 0))).grown hgr3 (fun q hq => own_new hown1 q hq)
    have hsz3 := hG3.size
    obtain ⟨A3, c3, rfl⟩ := own_slice hown3
    have x10 : w3.cell? ⟨g, 10, none⟩ = some (.int .i64 1) := (HH.out _ hG3).c 10 _ rfl
    have x7 : w3.cell? ⟨g, 7, none⟩ = some (.string (B un)) := (HH.out _ hG3).c 7 _ rfl
    have hc := own_caps hown3
    have hTA := TgAt.of_own (l := [(257, sv), (259, un)]) hown3
    have SD : Hid (∀ W, Fr [] (w3) W → Calls Tryz.prog 200 #[.agg #[.int .u8 m1, .int .u8 m2, .int .u8 m3, .int .u8 m4, .int .u8 m5, .int .u8 m6], .agg #[.int .u8 255, .int .u8 255, .int .u8 255, .int .u8 255, .int .u8 255, .int .u8 255], .int .i64 9, .int .i64 0, .slice A3 2 c3] W (OutP W (frameL mcF ⟨m1, m2, m3, m4, m5, m6⟩ 9 0 [(257, sv), (259, un)]) [])) := Lib.hid fun W hW => dsend_out (l := [(257, sv), (259, un)]) ⟨m1, m2, m3, m4, m5, m6⟩ mcF 9 0 (hTA.fr0 hW) (show ∀ t, t ∈ [(257, sv), (259, un)] → TgOk t from by have := HA1.out; simp only [askL, if_neg HU.out, List.nil_append, List.cons_append] at this; exact this) (show List.length [(257, sv), (259, un)] ≤ 20 from by simp) hc.1 hc.2 (show (tgsB [(257, sv), (259, un)]).length ≤ 100000 from by have := HA3.out; simp only [askL, if_neg HU.out, List.nil_append, List.cons_append] at this; exact this) (by decide) (by decide) (by decide) (by decide)
    have HLL : Hid (dSayL _ = frameL mcF ⟨m1, m2, m3, m4, m5, m6⟩ 9 0 [(257, sv), (259, un)]) := Lib.hid (by have := HL.out; simp only [askL, if_neg HU.out, List.nil_append, List.cons_append] at this; exact this)
    obtain ⟨V, hV⟩ : ∃ V, w3 = V := ⟨_, rfl⟩
    rw [hV] at SD hG3 x10 x7
    have HX : Hid (∀ W, Fr [] V W → (fun W => (W.cell? ⟨g, 0, none⟩ = some (.int .u8 m1) ∧ W.cell? ⟨g, 1, none⟩ = some (.int .u8 m2) ∧ W.cell? ⟨g, 2, none⟩ = some (.int .u8 m3) ∧ W.cell? ⟨g, 3, none⟩ = some (.int .u8 m4) ∧ W.cell? ⟨g, 4, none⟩ = some (.int .u8 m5) ∧ W.cell? ⟨g, 5, none⟩ = some (.int .u8 m6)) ∧ Fr [] V W) W) := Lib.hid fun W hW => ⟨⟨(HH.out _ (hG3.trans hW)).c 0 _ rfl, (HH.out _ (hG3.trans hW)).c 1 _ rfl, (HH.out _ (hG3.trans hW)).c 2 _ rfl, (HH.out _ (hG3.trans hW)).c 3 _ rfl, (HH.out _ (hG3.trans hW)).c 4 _ rfl, (HH.out _ (hG3.trans hW)).c 5 _ rfl⟩, hW⟩
    have HFV := Lib.hid hG3
    clear hc hTA HA1 HA2 HA3 HL hown1 hown3 hgr3 C6 C10 d20 f20 x18 x19 hG1
    go_wp2_with fail
    try rw [hV]
    clear hV
    refine wp_region_held_drew (S := (fun W => (W.cell? ⟨g, 0, none⟩ = some (.int .u8 m1) ∧ W.cell? ⟨g, 1, none⟩ = some (.int .u8 m2) ∧ W.cell? ⟨g, 2, none⟩ = some (.int .u8 m3) ∧ W.cell? ⟨g, 3, none⟩ = some (.int .u8 m4) ∧ W.cell? ⟨g, 4, none⟩ = some (.int .u8 m5) ∧ W.cell? ⟨g, 5, none⟩ = some (.int .u8 m6)) ∧ Fr [] V W)) (by kernel_rfl) ?_ (fun hHeld => ?_)
    · (try dsimp only); exact HX.out _ (Fr.refl [] V).drew
    refine take_yes 0 60 rfl rfl (by kernel_rfl) (by kernel_rfl) (by kernel_rfl) (fun _ _ _ h => h) (by rfl) (by assumption) (v := ?_) ?_ ?_
    rotate_left
    · intro w hSw; (try dsimp only at hSw); go_simp; (try with_reducible rfl)
    try simp only [Act.put, List.setIfInBounds_toArray, List.set_cons_zero, List.set_cons_succ]
    refine take_yes 1 61 rfl rfl (by kernel_rfl) (by kernel_rfl) (by kernel_rfl) (fun _ _ _ h => h) (by rfl) (by assumption) (v := ?_) ?_ ?_
    rotate_left
    · intro w hSw; (try dsimp only at hSw); go_simp; (try with_reducible rfl)
    try simp only [Act.put, List.setIfInBounds_toArray, List.set_cons_zero, List.set_cons_succ]
    refine take_yes 2 62 rfl rfl (by kernel_rfl) (by kernel_rfl) (by kernel_rfl) (fun _ _ _ h => h) (by rfl) (by assumption) (v := ?_) ?_ ?_
    rotate_left
    · intro w hSw; (try dsimp only at hSw); go_simp; (try with_reducible rfl)
    try simp only [Act.put, List.setIfInBounds_toArray, List.set_cons_zero, List.set_cons_succ]
    refine take_yes 3 63 rfl rfl (by kernel_rfl) (by kernel_rfl) (by kernel_rfl) (fun _ _ _ h => h) (by rfl) (by assumption) (v := .agg #[.int .u8 m1, .int .u8 m2, .int .u8 m3, .int .u8 m4, .int .u8 m5, .int .u8 m6]) ?_ ?_
    · intro w hSw; (try dsimp only at hSw); go_simp
    try simp only [Act.put, List.setIfInBounds_toArray, List.set_cons_zero, List.set_cons_succ]
    refine take_yes 5 65 rfl rfl (by kernel_rfl) (by kernel_rfl) (by kernel_rfl) (fun _ _ _ h => h) (by rfl) (by assumption) (v := ?_) ?_ ?_
    rotate_left
    · intro w hSw; (try dsimp only at hSw); go_simp; (try with_reducible rfl)
    try simp only [Act.put, List.setIfInBounds_toArray, List.set_cons_zero, List.set_cons_succ]
    refine wpAnyH_ready (rs := [4]) (by kernel_rfl) (by simp) ?_
    refine AllReadyH.cons (o := _) rfl (fun K hK => ?_) AllReadyH.nil
    go_simp
    refine (dall_any _).mono ?_
    rintro e v1 ⟨rfl, hF5⟩
    unfold mcL mcF
    simp only
    (try go_wp2_with fail)
    refine hK.out _ _ ?_ (fun hHeld => ?_)
    · (try dsimp only); refine HX.out _ (Fr.trans ?_ hF5); exact And.right (by assumption)
    clear hK K
    try simp only [Act.put, List.setIfInBounds_toArray, List.set_cons_zero, List.set_cons_succ]
    refine wpAnyH_ready (rs := [6]) (by kernel_rfl) (by simp) ?_
    refine AllReadyH.cons (o := _) rfl (fun K hK => ?_) AllReadyH.nil
    go_simp
    clear hF5
    have HSZ := Lib.hid (And.right hHeld).size
    refine (SD.out _ (And.right hHeld)).mono ?_
    rintro e v2 ⟨A9, c9, rfl, hrow, hF6⟩
    (try go_wp2_with fail)
    refine hK.out _ _ ?_ (fun hHeld => ?_)
    · (try dsimp only); refine HX.out _ (Fr.trans ?_ hF6); exact And.right (by assumption)
    clear hK K
    try simp only [Act.put, List.setIfInBounds_toArray, List.set_cons_zero, List.set_cons_succ]
    refine take_yes 7 2 rfl rfl (by kernel_rfl) (by kernel_rfl) (by kernel_rfl) (fun _ _ _ h => h) (by rfl) (by assumption) (v := ?_) ?_ ?_
    rotate_left
    · intro w hSw; (try dsimp only at hSw); go_simp; (try with_reducible rfl)
    try simp only [Act.put, List.setIfInBounds_toArray, List.set_cons_zero, List.set_cons_succ]
    refine wpAnyH_done (by kernel_rfl) ?_ _
    have HZ : Hid (Fr [] V v2) := Lib.hid (And.right (by assumption))
    have HR := Lib.hid (And.intro hrow hF6)
    clear hrow hF6
    go_wp2_with fail
    go_ret
    refine ⟨?_, HH.out _ (HFV.out.trans HZ.out)⟩
    rw [HLL.out]
    exact ⟨A9, c9, rfl, ⟨HR.out.1.1, HR.out.1.2.imp id fun ⟨x, cap', cur, z1, z2, z3⟩ => ⟨x, cap', cur, z1, Nat.le_trans HF1.out.size (Nat.le_trans HFV.out.size (Nat.le_trans HSZ.out z2)), z3⟩⟩, HF1.out.trans ((HFV.out.trans HZ.out).mono (S' := [g]) (by simp))⟩
set_option maxRecDepth 100000 in
set_option maxHeartbeats 8000000 in
theorem dask_bare (h1 : d.sv.length ≤ 40) (h2 : d.un.length ≤ 40) (hst : d.st = 2) (hh : d.hc = false) (hB : Blk w g (dhC d) 254) : Calls Tryz.prog 198 #[.pointer (some ⟨g, 0, none⟩)] w (DOut w g (dSayL d) { d with tk := 0 }) := by
  obtain ⟨i0, hi, hz0, hz1, hz2⟩ := info_parts infoTag
  have hB1 : Blk (w.setCell ⟨g, 20, none⟩ (.int .i64 0)) g (dhC { d with tk := 0 }) 254 := by
    have := hB.set 20 (.int .i64 0)
    simpa [dhC] using this
  have hF1 := (Fr.refl [g] w).setCell (p := ⟨g, 20, none⟩) (by simp) (.int .i64 0)
  have d20 : w.cell? ⟨g, 20, none⟩ = some (.int .i64 d.tk) := hB.c 20 _ rfl
  have f20 := hB.fz 20
  obtain ⟨W1, hW1⟩ : ∃ W, w.setCell ⟨g, 20, none⟩ (.int .i64 0) = W := ⟨_, rfl⟩
  rw [hW1] at hB1 hF1
  have hgl := hB.lt
  have HL : Hid (dSayL d = frameL d.k d.m 25 0 (askL d.sv d.un none)) := Lib.hid (by unfold dSayL dCk; rw [if_pos hst, hh]; rfl)
  have HA1 := Lib.hid (askL_ok d.sv d.un none)
  have HA2 := Lib.hid (askL_len d.sv d.un none)
  have HA3 := Lib.hid (askL_size d.sv d.un none h1 h2 (fun s hs => by cases hs))
  obtain ⟨⟨m1, m2, m3, m4, m5, m6⟩, sv, un, rt, wt, st, ss, ⟨a1, a2, a3, a4, a5, a6⟩, ck, hc, tk, ag⟩ := d
  simp only at hst HL HA1 HA2 HA3 h1 h2 hh
  subst hst
  subst hh
  have HH : Hid (∀ W, Fr [] W1 W → Blk W g (dhC ⟨⟨m1, m2, m3, m4, m5, m6⟩, sv, un, rt, wt, 2, ss, ⟨a1, a2, a3, a4, a5, a6⟩, ck, false, 0, ag⟩) 254) := Lib.hid fun W hW => hW.blk hB1 (by simp)
  have C6 : W1.cell? ⟨g, 6, none⟩ = some (.string (B sv)) := hB1.c 6 _ rfl
  have C10 : W1.cell? ⟨g, 10, none⟩ = some (.int .i64 2) := hB1.c 10 _ rfl
  have HF1 := Lib.hid hF1
  clear hB hB1 hF1 h1 h2
  go_enter Tryz.func198, Tryz.ntmps198
  have hG1 := (Fr.refl [] W1).alloc (.cells #[.int .i64 257, .string (B sv)] 272 (0, 0))
  have hown1 : (W1.alloc (.cells #[.int .i64 257, .string (B sv)] 272 (0, 0))).ownsRow W1.heap.size 272 2 (.slice (some ⟨W1.heap.size, 0, none⟩) 1 1) 1 (tgF [(257, sv)]) := World.ownsRow_lit W1 #[.int .i64 257, .string (B sv)] 1 (Nat.le_refl _) (by unfold maxLen; omega) rfl
  have x10 : (W1.alloc (.cells #[.int .i64 257, .string (B sv)] 272 (0, 0))).cell? ⟨g, 10, none⟩ = some (.int .i64 2) := (HH.out _ hG1).c 10 _ rfl
  have x19 : (W1.alloc (.cells #[.int .i64 257, .string (B sv)] 272 (0, 0))).cell? ⟨g, 19, none⟩ = some (.bool false) := (HH.out _ hG1).c 19 _ rfl
  have x18 : (W1.alloc (.cells #[.int .i64 257, .string (B sv)] 272 (0, 0))).cell? ⟨g, 18, none⟩ = some (.string (B ck)) := (HH.out _ hG1).c 18 _ rfl
  have x7 : (W1.alloc (.cells #[.int .i64 257, .string (B sv)] 272 (0, 0))).cell? ⟨g, 7, none⟩ = some (.string (B un)) := (HH.out _ hG1).c 7 _ rfl
  obtain ⟨U1, hU1⟩ : ∃ U, W1.alloc (.cells #[.int .i64 257, .string (B sv)] 272 (0, 0)) = U := ⟨_, rfl⟩
  rw [hU1] at hG1 hown1 x10 x19 x18 x7
  have hsz1 := hG1.size
  by_cases hu : un = []
  · subst hu
    have hb : (B [] != ⟨#[]⟩) = false := rfl
    have hc := own_caps hown1
    have hTA := TgAt.of_own (l := [(257, sv)]) hown1
    have SD : Hid (∀ W, Fr [] (U1) W → Calls Tryz.prog 200 #[.agg #[.int .u8 m1, .int .u8 m2, .int .u8 m3, .int .u8 m4, .int .u8 m5, .int .u8 m6], .agg #[.int .u8 a1, .int .u8 a2, .int .u8 a3, .int .u8 a4, .int .u8 a5, .int .u8 a6], .int .i64 25, .int .i64 0, .slice (some ⟨W1.heap.size, 0, none⟩) 1 1] W (OutP W (frameL ⟨a1, a2, a3, a4, a5, a6⟩ ⟨m1, m2, m3, m4, m5, m6⟩ 25 0 [(257, sv)]) [])) := Lib.hid fun W hW => dsend_out (l := [(257, sv)]) ⟨m1, m2, m3, m4, m5, m6⟩ ⟨a1, a2, a3, a4, a5, a6⟩ 25 0 (hTA.fr0 hW) (show ∀ t, t ∈ [(257, sv)] → TgOk t from by have := HA1.out; simp only [askL, if_true, List.append_nil, List.nil_append, if_pos rfl, List.cons_append] at this; exact this) (show List.length [(257, sv)] ≤ 20 from by simp) hc.1 hc.2 (show (tgsB [(257, sv)]).length ≤ 100000 from by have := HA3.out; simp only [askL, if_true, List.append_nil, List.nil_append, if_pos rfl, List.cons_append] at this; exact this) (by decide) (by decide) (by decide) (by decide)
    have HLL : Hid (dSayL _ = frameL ⟨a1, a2, a3, a4, a5, a6⟩ ⟨m1, m2, m3, m4, m5, m6⟩ 25 0 [(257, sv)]) := Lib.hid (by have := HL.out; simp only [askL, if_true, List.append_nil, List.nil_append, if_pos rfl, List.cons_append] at this; exact this)
    obtain ⟨V, hV⟩ : ∃ V, U1 = V := ⟨_, rfl⟩
    rw [hV] at SD hG1 x10 x7 x18 x19
    have HX : Hid (∀ W, Fr [] V W → (fun W => (W.cell? ⟨g, 0, none⟩ = some (.int .u8 m1) ∧ W.cell? ⟨g, 1, none⟩ = some (.int .u8 m2) ∧ W.cell? ⟨g, 2, none⟩ = some (.int .u8 m3) ∧ W.cell? ⟨g, 3, none⟩ = some (.int .u8 m4) ∧ W.cell? ⟨g, 4, none⟩ = some (.int .u8 m5) ∧ W.cell? ⟨g, 5, none⟩ = some (.int .u8 m6) ∧ W.cell? ⟨g, 12, none⟩ = some (.int .u8 a1) ∧ W.cell? ⟨g, 13, none⟩ = some (.int .u8 a2) ∧ W.cell? ⟨g, 14, none⟩ = some (.int .u8 a3) ∧ W.cell? ⟨g, 15, none⟩ = some (.int .u8 a4) ∧ W.cell? ⟨g, 16, none⟩ = some (.int .u8 a5) ∧ W.cell? ⟨g, 17, none⟩ = some (.int .u8 a6)) ∧ Fr [] V W) W) := Lib.hid fun W hW => ⟨⟨(HH.out _ (hG1.trans hW)).c 0 _ rfl, (HH.out _ (hG1.trans hW)).c 1 _ rfl, (HH.out _ (hG1.trans hW)).c 2 _ rfl, (HH.out _ (hG1.trans hW)).c 3 _ rfl, (HH.out _ (hG1.trans hW)).c 4 _ rfl, (HH.out _ (hG1.trans hW)).c 5 _ rfl, (HH.out _ (hG1.trans hW)).c 12 _ rfl, (HH.out _ (hG1.trans hW)).c 13 _ rfl, (HH.out _ (hG1.trans hW)).c 14 _ rfl, (HH.out _ (hG1.trans hW)).c 15 _ rfl, (HH.out _ (hG1.trans hW)).c 16 _ rfl, (HH.out _ (hG1.trans hW)).c 17 _ rfl⟩, hW⟩
    have HFV := Lib.hid hG1
    clear hc hTA HA1 HA2 HA3 HL hown1
    go_wp2_with fail
    try rw [hV]
    clear hV
    refine wp_region_held_drew (S := (fun W => (W.cell? ⟨g, 0, none⟩ = some (.int .u8 m1) ∧ W.cell? ⟨g, 1, none⟩ = some (.int .u8 m2) ∧ W.cell? ⟨g, 2, none⟩ = some (.int .u8 m3) ∧ W.cell? ⟨g, 3, none⟩ = some (.int .u8 m4) ∧ W.cell? ⟨g, 4, none⟩ = some (.int .u8 m5) ∧ W.cell? ⟨g, 5, none⟩ = some (.int .u8 m6) ∧ W.cell? ⟨g, 12, none⟩ = some (.int .u8 a1) ∧ W.cell? ⟨g, 13, none⟩ = some (.int .u8 a2) ∧ W.cell? ⟨g, 14, none⟩ = some (.int .u8 a3) ∧ W.cell? ⟨g, 15, none⟩ = some (.int .u8 a4) ∧ W.cell? ⟨g, 16, none⟩ = some (.int .u8 a5) ∧ W.cell? ⟨g, 17, none⟩ = some (.int .u8 a6)) ∧ Fr [] V W)) (by kernel_rfl) ?_ (fun hHeld => ?_)
    · (try dsimp only); exact HX.out _ (Fr.refl [] V).drew
    refine take_yes 0 50 rfl rfl (by kernel_rfl) (by kernel_rfl) (by kernel_rfl) (fun _ _ _ h => h) (by rfl) (by assumption) (v := ?_) ?_ ?_
    rotate_left
    · intro w hSw; (try dsimp only at hSw); go_simp; (try with_reducible rfl)
    try simp only [Act.put, List.setIfInBounds_toArray, List.set_cons_zero, List.set_cons_succ]
    refine take_yes 1 51 rfl rfl (by kernel_rfl) (by kernel_rfl) (by kernel_rfl) (fun _ _ _ h => h) (by rfl) (by assumption) (v := ?_) ?_ ?_
    rotate_left
    · intro w hSw; (try dsimp only at hSw); go_simp; (try with_reducible rfl)
    try simp only [Act.put, List.setIfInBounds_toArray, List.set_cons_zero, List.set_cons_succ]
    refine take_yes 2 52 rfl rfl (by kernel_rfl) (by kernel_rfl) (by kernel_rfl) (fun _ _ _ h => h) (by rfl) (by assumption) (v := ?_) ?_ ?_
    rotate_left
    · intro w hSw; (try dsimp only at hSw); go_simp; (try with_reducible rfl)
    try simp only [Act.put, List.setIfInBounds_toArray, List.set_cons_zero, List.set_cons_succ]
    refine take_yes 3 53 rfl rfl (by kernel_rfl) (by kernel_rfl) (by kernel_rfl) (fun _ _ _ h => h) (by rfl) (by assumption) (v := .agg #[.int .u8 m1, .int .u8 m2, .int .u8 m3, .int .u8 m4, .int .u8 m5, .int .u8 m6]) ?_ ?_
    · intro w hSw; (try dsimp only at hSw); go_simp
    try simp only [Act.put, List.setIfInBounds_toArray, List.set_cons_zero, List.set_cons_succ]
    refine take_yes 4 54 rfl rfl (by kernel_rfl) (by kernel_rfl) (by kernel_rfl) (fun _ _ _ h => h) (by rfl) (by assumption) (v := ?_) ?_ ?_
    rotate_left
    · intro w hSw; (try dsimp only at hSw); go_simp; (try with_reducible rfl)
    try simp only [Act.put, List.setIfInBounds_toArray, List.set_cons_zero, List.set_cons_succ]
    refine take_yes 5 55 rfl rfl (by kernel_rfl) (by kernel_rfl) (by kernel_rfl) (fun _ _ _ h => h) (by rfl) (by assumption) (v := ?_) ?_ ?_
    rotate_left
    · intro w hSw; (try dsimp only at hSw); go_simp; (try with_reducible rfl)
    try simp only [Act.put, List.setIfInBounds_toArray, List.set_cons_zero, List.set_cons_succ]
    refine take_yes 6 56 rfl rfl (by kernel_rfl) (by kernel_rfl) (by kernel_rfl) (fun _ _ _ h => h) (by rfl) (by assumption) (v := ?_) ?_ ?_
    rotate_left
    · intro w hSw; (try dsimp only at hSw); go_simp; (try with_reducible rfl)
    try simp only [Act.put, List.setIfInBounds_toArray, List.set_cons_zero, List.set_cons_succ]
    refine take_yes 7 57 rfl rfl (by kernel_rfl) (by kernel_rfl) (by kernel_rfl) (fun _ _ _ h => h) (by rfl) (by assumption) (v := .agg #[.int .u8 a1, .int .u8 a2, .int .u8 a3, .int .u8 a4, .int .u8 a5, .int .u8 a6]) ?_ ?_
    · intro w hSw; (try dsimp only at hSw); go_simp
    try simp only [Act.put, List.setIfInBounds_toArray, List.set_cons_zero, List.set_cons_succ]
    refine take_yes 8 58 rfl rfl (by kernel_rfl) (by kernel_rfl) (by kernel_rfl) (fun _ _ _ h => h) (by rfl) (by assumption) (v := ?_) ?_ ?_
    rotate_left
    · intro w hSw; (try dsimp only at hSw); go_simp; (try with_reducible rfl)
    try simp only [Act.put, List.setIfInBounds_toArray, List.set_cons_zero, List.set_cons_succ]
    refine wpAnyH_ready (rs := [9]) (by kernel_rfl) (by simp) ?_
    refine AllReadyH.cons (o := _) rfl (fun K hK => ?_) AllReadyH.nil
    go_simp
    have HSZ := Lib.hid (And.right hHeld).size
    refine (SD.out _ (And.right hHeld)).mono ?_
    rintro e v2 ⟨A9, c9, rfl, hrow, hF6⟩
    (try go_wp2_with fail)
    refine hK.out _ _ ?_ (fun hHeld => ?_)
    · (try dsimp only); refine HX.out _ (Fr.trans ?_ hF6); exact And.right (by assumption)
    clear hK K
    try simp only [Act.put, List.setIfInBounds_toArray, List.set_cons_zero, List.set_cons_succ]
    refine take_yes 10 2 rfl rfl (by kernel_rfl) (by kernel_rfl) (by kernel_rfl) (fun _ _ _ h => h) (by rfl) (by assumption) (v := ?_) ?_ ?_
    rotate_left
    · intro w hSw; (try dsimp only at hSw); go_simp; (try with_reducible rfl)
    try simp only [Act.put, List.setIfInBounds_toArray, List.set_cons_zero, List.set_cons_succ]
    refine wpAnyH_done (by kernel_rfl) ?_ _
    have HZ : Hid (Fr [] V v2) := Lib.hid (And.right (by assumption))
    have HR := Lib.hid (And.intro hrow hF6)
    clear hrow hF6
    go_wp2_with fail
    go_ret
    refine ⟨?_, HH.out _ (HFV.out.trans HZ.out)⟩
    rw [HLL.out]
    exact ⟨A9, c9, rfl, ⟨HR.out.1.1, HR.out.1.2.imp id fun ⟨x, cap', cur, z1, z2, z3⟩ => ⟨x, cap', cur, z1, Nat.le_trans HF1.out.size (Nat.le_trans HFV.out.size (Nat.le_trans HSZ.out z2)), z3⟩⟩, HF1.out.trans ((HFV.out.trans HZ.out).mono (S' := [g]) (by simp))⟩
  · have hs2 : ¬ B un = ⟨#[]⟩ := fun e => hu (List.eq_nil_of_length_eq_zero (by rw [← B_size, e]; rfl))
    have hs3 : (B un == ⟨#[]⟩) = false := by show ((B un).data == (#[] : Array UInt8)) = false; rw [beq_eq_false_iff_ne]; exact fun h => hs2 (ByteArray.ext h)
    have hb : (B un != ⟨#[]⟩) = true := by simp only [bne, hs3]; rfl
    have hie : un.isEmpty = false := by simpa using hu
    have HU := Lib.hid hu
    clear hs2 hs3 hb hu
    go_wp2_with (at_builtin; refine wpList_append_own _ rfl _ _ 250 rfl W1.heap.size 272 i0 (.agg #[.int .i64 0, .string ⟨#[]⟩]) 2 24 Tryz.underlying250 hi hz0 hz1 hz2 rfl (by decide) _ 1 _ rfl (hown1.alloc _) ⟨U1.heap.size, 0, none⟩ 1 1 (tgL (259, un)) rfl rfl ?d31 ?d32 ?d33 ?d34 ?d35 ?_)
    try (case d31 => first | exact new_cells (U1) (tgL (259, un)) 272 | exact fun j u h => h)
    try (case d32 => simp [tgL, Value.oneCell'])
    try (case d33 => unfold maxLen; omega)
    try (case d34 => omega)
    try (case d35 => first | omega | (simp; done) | (simp; omega))
    intro v3 w3 hown3 hgr3 _
    have hG3 := (hG1.alloc (.cells #[.int .i64 259, .string (B un)] 272 (0, 0))).grown hgr3 (fun q hq => own_new hown1 q hq)
    have hsz3 := hG3.size
    obtain ⟨A3, c3, rfl⟩ := own_slice hown3
    have x10 : w3.cell? ⟨g, 10, none⟩ = some (.int .i64 2) := (HH.out _ hG3).c 10 _ rfl
    have x7 : w3.cell? ⟨g, 7, none⟩ = some (.string (B un)) := (HH.out _ hG3).c 7 _ rfl
    have hc := own_caps hown3
    have hTA := TgAt.of_own (l := [(257, sv), (259, un)]) hown3
    have SD : Hid (∀ W, Fr [] (w3) W → Calls Tryz.prog 200 #[.agg #[.int .u8 m1, .int .u8 m2, .int .u8 m3, .int .u8 m4, .int .u8 m5, .int .u8 m6], .agg #[.int .u8 a1, .int .u8 a2, .int .u8 a3, .int .u8 a4, .int .u8 a5, .int .u8 a6], .int .i64 25, .int .i64 0, .slice A3 2 c3] W (OutP W (frameL ⟨a1, a2, a3, a4, a5, a6⟩ ⟨m1, m2, m3, m4, m5, m6⟩ 25 0 [(257, sv), (259, un)]) [])) := Lib.hid fun W hW => dsend_out (l := [(257, sv), (259, un)]) ⟨m1, m2, m3, m4, m5, m6⟩ ⟨a1, a2, a3, a4, a5, a6⟩ 25 0 (hTA.fr0 hW) (show ∀ t, t ∈ [(257, sv), (259, un)] → TgOk t from by have := HA1.out; simp only [askL, if_neg HU.out, List.nil_append, List.cons_append] at this; exact this) (show List.length [(257, sv), (259, un)] ≤ 20 from by simp) hc.1 hc.2 (show (tgsB [(257, sv), (259, un)]).length ≤ 100000 from by have := HA3.out; simp only [askL, if_neg HU.out, List.nil_append, List.cons_append] at this; exact this) (by decide) (by decide) (by decide) (by decide)
    have HLL : Hid (dSayL _ = frameL ⟨a1, a2, a3, a4, a5, a6⟩ ⟨m1, m2, m3, m4, m5, m6⟩ 25 0 [(257, sv), (259, un)]) := Lib.hid (by have := HL.out; simp only [askL, if_neg HU.out, List.nil_append, List.cons_append] at this; exact this)
    obtain ⟨V, hV⟩ : ∃ V, w3 = V := ⟨_, rfl⟩
    rw [hV] at SD hG3 x10 x7
    have HX : Hid (∀ W, Fr [] V W → (fun W => (W.cell? ⟨g, 0, none⟩ = some (.int .u8 m1) ∧ W.cell? ⟨g, 1, none⟩ = some (.int .u8 m2) ∧ W.cell? ⟨g, 2, none⟩ = some (.int .u8 m3) ∧ W.cell? ⟨g, 3, none⟩ = some (.int .u8 m4) ∧ W.cell? ⟨g, 4, none⟩ = some (.int .u8 m5) ∧ W.cell? ⟨g, 5, none⟩ = some (.int .u8 m6) ∧ W.cell? ⟨g, 12, none⟩ = some (.int .u8 a1) ∧ W.cell? ⟨g, 13, none⟩ = some (.int .u8 a2) ∧ W.cell? ⟨g, 14, none⟩ = some (.int .u8 a3) ∧ W.cell? ⟨g, 15, none⟩ = some (.int .u8 a4) ∧ W.cell? ⟨g, 16, none⟩ = some (.int .u8 a5) ∧ W.cell? ⟨g, 17, none⟩ = some (.int .u8 a6)) ∧ Fr [] V W) W) := Lib.hid fun W hW => ⟨⟨(HH.out _ (hG3.trans hW)).c 0 _ rfl, (HH.out _ (hG3.trans hW)).c 1 _ rfl, (HH.out _ (hG3.trans hW)).c 2 _ rfl, (HH.out _ (hG3.trans hW)).c 3 _ rfl, (HH.out _ (hG3.trans hW)).c 4 _ rfl, (HH.out _ (hG3.trans hW)).c 5 _ rfl, (HH.out _ (hG3.trans hW)).c 12 _ rfl, (HH.out _ (hG3.trans hW)).c 13 _ rfl, (HH.out _ (hG3.trans hW)).c 14 _ rfl, (HH.out _ (hG3.trans hW)).c 15 _ rfl, (HH.out _ (hG3.trans hW)).c 16 _ rfl, (HH.out _ (hG3.trans hW)).c 17 _ rfl⟩, hW⟩
    have HFV := Lib.hid hG3
    clear hc hTA HA1 HA2 HA3 HL hown1 hown3 hgr3 C6 C10 d20 f20 x18 x19 hG1
    go_wp2_with fail
    try rw [hV]
    clear hV
    refine wp_region_held_drew (S := (fun W => (W.cell? ⟨g, 0, none⟩ = some (.int .u8 m1) ∧ W.cell? ⟨g, 1, none⟩ = some (.int .u8 m2) ∧ W.cell? ⟨g, 2, none⟩ = some (.int .u8 m3) ∧ W.cell? ⟨g, 3, none⟩ = some (.int .u8 m4) ∧ W.cell? ⟨g, 4, none⟩ = some (.int .u8 m5) ∧ W.cell? ⟨g, 5, none⟩ = some (.int .u8 m6) ∧ W.cell? ⟨g, 12, none⟩ = some (.int .u8 a1) ∧ W.cell? ⟨g, 13, none⟩ = some (.int .u8 a2) ∧ W.cell? ⟨g, 14, none⟩ = some (.int .u8 a3) ∧ W.cell? ⟨g, 15, none⟩ = some (.int .u8 a4) ∧ W.cell? ⟨g, 16, none⟩ = some (.int .u8 a5) ∧ W.cell? ⟨g, 17, none⟩ = some (.int .u8 a6)) ∧ Fr [] V W)) (by kernel_rfl) ?_ (fun hHeld => ?_)
    · (try dsimp only); exact HX.out _ (Fr.refl [] V).drew
    refine take_yes 0 50 rfl rfl (by kernel_rfl) (by kernel_rfl) (by kernel_rfl) (fun _ _ _ h => h) (by rfl) (by assumption) (v := ?_) ?_ ?_
    rotate_left
    · intro w hSw; (try dsimp only at hSw); go_simp; (try with_reducible rfl)
    try simp only [Act.put, List.setIfInBounds_toArray, List.set_cons_zero, List.set_cons_succ]
    refine take_yes 1 51 rfl rfl (by kernel_rfl) (by kernel_rfl) (by kernel_rfl) (fun _ _ _ h => h) (by rfl) (by assumption) (v := ?_) ?_ ?_
    rotate_left
    · intro w hSw; (try dsimp only at hSw); go_simp; (try with_reducible rfl)
    try simp only [Act.put, List.setIfInBounds_toArray, List.set_cons_zero, List.set_cons_succ]
    refine take_yes 2 52 rfl rfl (by kernel_rfl) (by kernel_rfl) (by kernel_rfl) (fun _ _ _ h => h) (by rfl) (by assumption) (v := ?_) ?_ ?_
    rotate_left
    · intro w hSw; (try dsimp only at hSw); go_simp; (try with_reducible rfl)
    try simp only [Act.put, List.setIfInBounds_toArray, List.set_cons_zero, List.set_cons_succ]
    refine take_yes 3 53 rfl rfl (by kernel_rfl) (by kernel_rfl) (by kernel_rfl) (fun _ _ _ h => h) (by rfl) (by assumption) (v := .agg #[.int .u8 m1, .int .u8 m2, .int .u8 m3, .int .u8 m4, .int .u8 m5, .int .u8 m6]) ?_ ?_
    · intro w hSw; (try dsimp only at hSw); go_simp
    try simp only [Act.put, List.setIfInBounds_toArray, List.set_cons_zero, List.set_cons_succ]
    refine take_yes 4 54 rfl rfl (by kernel_rfl) (by kernel_rfl) (by kernel_rfl) (fun _ _ _ h => h) (by rfl) (by assumption) (v := ?_) ?_ ?_
    rotate_left
    · intro w hSw; (try dsimp only at hSw); go_simp; (try with_reducible rfl)
    try simp only [Act.put, List.setIfInBounds_toArray, List.set_cons_zero, List.set_cons_succ]
    refine take_yes 5 55 rfl rfl (by kernel_rfl) (by kernel_rfl) (by kernel_rfl) (fun _ _ _ h => h) (by rfl) (by assumption) (v := ?_) ?_ ?_
    rotate_left
    · intro w hSw; (try dsimp only at hSw); go_simp; (try with_reducible rfl)
    try simp only [Act.put, List.setIfInBounds_toArray, List.set_cons_zero, List.set_cons_succ]
    refine take_yes 6 56 rfl rfl (by kernel_rfl) (by kernel_rfl) (by kernel_rfl) (fun _ _ _ h => h) (by rfl) (by assumption) (v := ?_) ?_ ?_
    rotate_left
    · intro w hSw; (try dsimp only at hSw); go_simp; (try with_reducible rfl)
    try simp only [Act.put, List.setIfInBounds_toArray, List.set_cons_zero, List.set_cons_succ]
    refine take_yes 7 57 rfl rfl (by kernel_rfl) (by kernel_rfl) (by kernel_rfl) (fun _ _ _ h => h) (by rfl) (by assumption) (v := .agg #[.int .u8 a1, .int .u8 a2, .int .u8 a3, .int .u8 a4, .int .u8 a5, .int .u8 a6]) ?_ ?_
    · intro w hSw; (try dsimp only at hSw); go_simp
    try simp only [Act.put, List.setIfInBounds_toArray, List.set_cons_zero, List.set_cons_succ]
    refine take_yes 8 58 rfl rfl (by kernel_rfl) (by kernel_rfl) (by kernel_rfl) (fun _ _ _ h => h) (by rfl) (by assumption) (v := ?_) ?_ ?_
    rotate_left
    · intro w hSw; (try dsimp only at hSw); go_simp; (try with_reducible rfl)
    try simp only [Act.put, List.setIfInBounds_toArray, List.set_cons_zero, List.set_cons_succ]
    refine wpAnyH_ready (rs := [9]) (by kernel_rfl) (by simp) ?_
    refine AllReadyH.cons (o := _) rfl (fun K hK => ?_) AllReadyH.nil
    go_simp
    have HSZ := Lib.hid (And.right hHeld).size
    refine (SD.out _ (And.right hHeld)).mono ?_
    rintro e v2 ⟨A9, c9, rfl, hrow, hF6⟩
    (try go_wp2_with fail)
    refine hK.out _ _ ?_ (fun hHeld => ?_)
    · (try dsimp only); refine HX.out _ (Fr.trans ?_ hF6); exact And.right (by assumption)
    clear hK K
    try simp only [Act.put, List.setIfInBounds_toArray, List.set_cons_zero, List.set_cons_succ]
    refine take_yes 10 2 rfl rfl (by kernel_rfl) (by kernel_rfl) (by kernel_rfl) (fun _ _ _ h => h) (by rfl) (by assumption) (v := ?_) ?_ ?_
    rotate_left
    · intro w hSw; (try dsimp only at hSw); go_simp; (try with_reducible rfl)
    try simp only [Act.put, List.setIfInBounds_toArray, List.set_cons_zero, List.set_cons_succ]
    refine wpAnyH_done (by kernel_rfl) ?_ _
    have HZ : Hid (Fr [] V v2) := Lib.hid (And.right (by assumption))
    have HR := Lib.hid (And.intro hrow hF6)
    clear hrow hF6
    go_wp2_with fail
    go_ret
    refine ⟨?_, HH.out _ (HFV.out.trans HZ.out)⟩
    rw [HLL.out]
    exact ⟨A9, c9, rfl, ⟨HR.out.1.1, HR.out.1.2.imp id fun ⟨x, cap', cur, z1, z2, z3⟩ => ⟨x, cap', cur, z1, Nat.le_trans HF1.out.size (Nat.le_trans HFV.out.size (Nat.le_trans HSZ.out z2)), z3⟩⟩, HF1.out.trans ((HFV.out.trans HZ.out).mono (S' := [g]) (by simp))⟩
set_option maxRecDepth 100000 in
set_option maxHeartbeats 8000000 in
theorem dask_full (h1 : d.sv.length ≤ 40) (h2 : d.un.length ≤ 40) (hst : d.st = 2) (hh : d.hc = true) (h3 : d.ck.length ≤ 1494) (hB : Blk w g (dhC d) 254) : Calls Tryz.prog 198 #[.pointer (some ⟨g, 0, none⟩)] w (DOut w g (dSayL d) { d with tk := 0 }) := by
  obtain ⟨i0, hi, hz0, hz1, hz2⟩ := info_parts infoTag
  have hB1 : Blk (w.setCell ⟨g, 20, none⟩ (.int .i64 0)) g (dhC { d with tk := 0 }) 254 := by
    have := hB.set 20 (.int .i64 0)
    simpa [dhC] using this
  have hF1 := (Fr.refl [g] w).setCell (p := ⟨g, 20, none⟩) (by simp) (.int .i64 0)
  have d20 : w.cell? ⟨g, 20, none⟩ = some (.int .i64 d.tk) := hB.c 20 _ rfl
  have f20 := hB.fz 20
  obtain ⟨W1, hW1⟩ : ∃ W, w.setCell ⟨g, 20, none⟩ (.int .i64 0) = W := ⟨_, rfl⟩
  rw [hW1] at hB1 hF1
  have hgl := hB.lt
  have HL : Hid (dSayL d = frameL d.k d.m 25 0 (askL d.sv d.un (some d.ck))) := Lib.hid (by unfold dSayL dCk; rw [if_pos hst, hh]; rfl)
  have HA1 := Lib.hid (askL_ok d.sv d.un (some d.ck))
  have HA2 := Lib.hid (askL_len d.sv d.un (some d.ck))
  have HA3 := Lib.hid (askL_size d.sv d.un (some d.ck) h1 h2 (fun s hs => by injection hs with hs; rw [← hs]; exact h3))
  obtain ⟨⟨m1, m2, m3, m4, m5, m6⟩, sv, un, rt, wt, st, ss, ⟨a1, a2, a3, a4, a5, a6⟩, ck, hc, tk, ag⟩ := d
  simp only at hst HL HA1 HA2 HA3 h1 h2 hh h3
  subst hst
  subst hh
  have HH : Hid (∀ W, Fr [] W1 W → Blk W g (dhC ⟨⟨m1, m2, m3, m4, m5, m6⟩, sv, un, rt, wt, 2, ss, ⟨a1, a2, a3, a4, a5, a6⟩, ck, true, 0, ag⟩) 254) := Lib.hid fun W hW => hW.blk hB1 (by simp)
  have C6 : W1.cell? ⟨g, 6, none⟩ = some (.string (B sv)) := hB1.c 6 _ rfl
  have C10 : W1.cell? ⟨g, 10, none⟩ = some (.int .i64 2) := hB1.c 10 _ rfl
  have HF1 := Lib.hid hF1
  clear hB hB1 hF1 h1 h2 h3
  go_enter Tryz.func198, Tryz.ntmps198
  have hG1 := (Fr.refl [] W1).alloc (.cells #[.int .i64 257, .string (B sv)] 272 (0, 0))
  have hown1 : (W1.alloc (.cells #[.int .i64 257, .string (B sv)] 272 (0, 0))).ownsRow W1.heap.size 272 2 (.slice (some ⟨W1.heap.size, 0, none⟩) 1 1) 1 (tgF [(257, sv)]) := World.ownsRow_lit W1 #[.int .i64 257, .string (B sv)] 1 (Nat.le_refl _) (by unfold maxLen; omega) rfl
  have x10 : (W1.alloc (.cells #[.int .i64 257, .string (B sv)] 272 (0, 0))).cell? ⟨g, 10, none⟩ = some (.int .i64 2) := (HH.out _ hG1).c 10 _ rfl
  have x19 : (W1.alloc (.cells #[.int .i64 257, .string (B sv)] 272 (0, 0))).cell? ⟨g, 19, none⟩ = some (.bool true) := (HH.out _ hG1).c 19 _ rfl
  have x18 : (W1.alloc (.cells #[.int .i64 257, .string (B sv)] 272 (0, 0))).cell? ⟨g, 18, none⟩ = some (.string (B ck)) := (HH.out _ hG1).c 18 _ rfl
  have x7 : (W1.alloc (.cells #[.int .i64 257, .string (B sv)] 272 (0, 0))).cell? ⟨g, 7, none⟩ = some (.string (B un)) := (HH.out _ hG1).c 7 _ rfl
  obtain ⟨U1, hU1⟩ : ∃ U, W1.alloc (.cells #[.int .i64 257, .string (B sv)] 272 (0, 0)) = U := ⟨_, rfl⟩
  rw [hU1] at hG1 hown1 x10 x19 x18 x7
  have hsz1 := hG1.size
  by_cases hu : un = []
  · subst hu
    have hb : (B [] != ⟨#[]⟩) = false := rfl
    go_wp2_with (at_builtin; refine wpList_append_own _ rfl _ _ 250 rfl W1.heap.size 272 i0 (.agg #[.int .i64 0, .string ⟨#[]⟩]) 2 24 Tryz.underlying250 hi hz0 hz1 hz2 rfl (by decide) _ 1 _ rfl (hown1.alloc _) ⟨U1.heap.size, 0, none⟩ 1 1 (tgL (260, ck)) rfl rfl ?d21 ?d22 ?d23 ?d24 ?d25 ?_)
    try (case d21 => first | exact new_cells (U1) (tgL (260, ck)) 272 | exact fun j u h => h)
    try (case d22 => simp [tgL, Value.oneCell'])
    try (case d23 => unfold maxLen; omega)
    try (case d24 => omega)
    try (case d25 => first | omega | (simp; done) | (simp; omega))
    intro v2 w2 hown2 hgr2 _
    have hG2 := (hG1.alloc (.cells #[.int .i64 260, .string (B ck)] 272 (0, 0))).grown hgr2 (fun q hq => own_new hown1 q hq)
    have hsz2 := hG2.size
    obtain ⟨A2, c2, rfl⟩ := own_slice hown2
    have x10 : w2.cell? ⟨g, 10, none⟩ = some (.int .i64 2) := (HH.out _ hG2).c 10 _ rfl
    have x7 : w2.cell? ⟨g, 7, none⟩ = some (.string (B [])) := (HH.out _ hG2).c 7 _ rfl
    have hc := own_caps hown2
    have hTA := TgAt.of_own (l := [(257, sv), (260, ck)]) hown2
    have SD : Hid (∀ W, Fr [] (w2) W → Calls Tryz.prog 200 #[.agg #[.int .u8 m1, .int .u8 m2, .int .u8 m3, .int .u8 m4, .int .u8 m5, .int .u8 m6], .agg #[.int .u8 a1, .int .u8 a2, .int .u8 a3, .int .u8 a4, .int .u8 a5, .int .u8 a6], .int .i64 25, .int .i64 0, .slice A2 2 c2] W (OutP W (frameL ⟨a1, a2, a3, a4, a5, a6⟩ ⟨m1, m2, m3, m4, m5, m6⟩ 25 0 [(257, sv), (260, ck)]) [])) := Lib.hid fun W hW => dsend_out (l := [(257, sv), (260, ck)]) ⟨m1, m2, m3, m4, m5, m6⟩ ⟨a1, a2, a3, a4, a5, a6⟩ 25 0 (hTA.fr0 hW) (show ∀ t, t ∈ [(257, sv), (260, ck)] → TgOk t from by have := HA1.out; simp only [askL, if_true, List.append_nil, List.nil_append, if_pos rfl, List.cons_append] at this; exact this) (show List.length [(257, sv), (260, ck)] ≤ 20 from by simp) hc.1 hc.2 (show (tgsB [(257, sv), (260, ck)]).length ≤ 100000 from by have := HA3.out; simp only [askL, if_true, List.append_nil, List.nil_append, if_pos rfl, List.cons_append] at this; exact this) (by decide) (by decide) (by decide) (by decide)
    have HLL : Hid (dSayL _ = frameL ⟨a1, a2, a3, a4, a5, a6⟩ ⟨m1, m2, m3, m4, m5, m6⟩ 25 0 [(257, sv), (260, ck)]) := Lib.hid (by have := HL.out; simp only [askL, if_true, List.append_nil, List.nil_append, if_pos rfl, List.cons_append] at this; exact this)
    obtain ⟨V, hV⟩ : ∃ V, w2 = V := ⟨_, rfl⟩
    rw [hV] at SD hG2 x10 x7
    have HX : Hid (∀ W, Fr [] V W → (fun W => (W.cell? ⟨g, 0, none⟩ = some (.int .u8 m1) ∧ W.cell? ⟨g, 1, none⟩ = some (.int .u8 m2) ∧ W.cell? ⟨g, 2, none⟩ = some (.int .u8 m3) ∧ W.cell? ⟨g, 3, none⟩ = some (.int .u8 m4) ∧ W.cell? ⟨g, 4, none⟩ = some (.int .u8 m5) ∧ W.cell? ⟨g, 5, none⟩ = some (.int .u8 m6) ∧ W.cell? ⟨g, 12, none⟩ = some (.int .u8 a1) ∧ W.cell? ⟨g, 13, none⟩ = some (.int .u8 a2) ∧ W.cell? ⟨g, 14, none⟩ = some (.int .u8 a3) ∧ W.cell? ⟨g, 15, none⟩ = some (.int .u8 a4) ∧ W.cell? ⟨g, 16, none⟩ = some (.int .u8 a5) ∧ W.cell? ⟨g, 17, none⟩ = some (.int .u8 a6)) ∧ Fr [] V W) W) := Lib.hid fun W hW => ⟨⟨(HH.out _ (hG2.trans hW)).c 0 _ rfl, (HH.out _ (hG2.trans hW)).c 1 _ rfl, (HH.out _ (hG2.trans hW)).c 2 _ rfl, (HH.out _ (hG2.trans hW)).c 3 _ rfl, (HH.out _ (hG2.trans hW)).c 4 _ rfl, (HH.out _ (hG2.trans hW)).c 5 _ rfl, (HH.out _ (hG2.trans hW)).c 12 _ rfl, (HH.out _ (hG2.trans hW)).c 13 _ rfl, (HH.out _ (hG2.trans hW)).c 14 _ rfl, (HH.out _ (hG2.trans hW)).c 15 _ rfl, (HH.out _ (hG2.trans hW)).c 16 _ rfl, (HH.out _ (hG2.trans hW)).c 17 _ rfl⟩, hW⟩
    have HFV := Lib.hid hG2
    clear hc hTA HA1 HA2 HA3 HL hown1 hown2 hgr2 C6 C10 d20 f20 x18 x19 hG1
    go_wp2_with fail
    try rw [hV]
    clear hV
    refine wp_region_held_drew (S := (fun W => (W.cell? ⟨g, 0, none⟩ = some (.int .u8 m1) ∧ W.cell? ⟨g, 1, none⟩ = some (.int .u8 m2) ∧ W.cell? ⟨g, 2, none⟩ = some (.int .u8 m3) ∧ W.cell? ⟨g, 3, none⟩ = some (.int .u8 m4) ∧ W.cell? ⟨g, 4, none⟩ = some (.int .u8 m5) ∧ W.cell? ⟨g, 5, none⟩ = some (.int .u8 m6) ∧ W.cell? ⟨g, 12, none⟩ = some (.int .u8 a1) ∧ W.cell? ⟨g, 13, none⟩ = some (.int .u8 a2) ∧ W.cell? ⟨g, 14, none⟩ = some (.int .u8 a3) ∧ W.cell? ⟨g, 15, none⟩ = some (.int .u8 a4) ∧ W.cell? ⟨g, 16, none⟩ = some (.int .u8 a5) ∧ W.cell? ⟨g, 17, none⟩ = some (.int .u8 a6)) ∧ Fr [] V W)) (by kernel_rfl) ?_ (fun hHeld => ?_)
    · (try dsimp only); exact HX.out _ (Fr.refl [] V).drew
    refine take_yes 0 50 rfl rfl (by kernel_rfl) (by kernel_rfl) (by kernel_rfl) (fun _ _ _ h => h) (by rfl) (by assumption) (v := ?_) ?_ ?_
    rotate_left
    · intro w hSw; (try dsimp only at hSw); go_simp; (try with_reducible rfl)
    try simp only [Act.put, List.setIfInBounds_toArray, List.set_cons_zero, List.set_cons_succ]
    refine take_yes 1 51 rfl rfl (by kernel_rfl) (by kernel_rfl) (by kernel_rfl) (fun _ _ _ h => h) (by rfl) (by assumption) (v := ?_) ?_ ?_
    rotate_left
    · intro w hSw; (try dsimp only at hSw); go_simp; (try with_reducible rfl)
    try simp only [Act.put, List.setIfInBounds_toArray, List.set_cons_zero, List.set_cons_succ]
    refine take_yes 2 52 rfl rfl (by kernel_rfl) (by kernel_rfl) (by kernel_rfl) (fun _ _ _ h => h) (by rfl) (by assumption) (v := ?_) ?_ ?_
    rotate_left
    · intro w hSw; (try dsimp only at hSw); go_simp; (try with_reducible rfl)
    try simp only [Act.put, List.setIfInBounds_toArray, List.set_cons_zero, List.set_cons_succ]
    refine take_yes 3 53 rfl rfl (by kernel_rfl) (by kernel_rfl) (by kernel_rfl) (fun _ _ _ h => h) (by rfl) (by assumption) (v := .agg #[.int .u8 m1, .int .u8 m2, .int .u8 m3, .int .u8 m4, .int .u8 m5, .int .u8 m6]) ?_ ?_
    · intro w hSw; (try dsimp only at hSw); go_simp
    try simp only [Act.put, List.setIfInBounds_toArray, List.set_cons_zero, List.set_cons_succ]
    refine take_yes 4 54 rfl rfl (by kernel_rfl) (by kernel_rfl) (by kernel_rfl) (fun _ _ _ h => h) (by rfl) (by assumption) (v := ?_) ?_ ?_
    rotate_left
    · intro w hSw; (try dsimp only at hSw); go_simp; (try with_reducible rfl)
    try simp only [Act.put, List.setIfInBounds_toArray, List.set_cons_zero, List.set_cons_succ]
    refine take_yes 5 55 rfl rfl (by kernel_rfl) (by kernel_rfl) (by kernel_rfl) (fun _ _ _ h => h) (by rfl) (by assumption) (v := ?_) ?_ ?_
    rotate_left
    · intro w hSw; (try dsimp only at hSw); go_simp; (try with_reducible rfl)
    try simp only [Act.put, List.setIfInBounds_toArray, List.set_cons_zero, List.set_cons_succ]
    refine take_yes 6 56 rfl rfl (by kernel_rfl) (by kernel_rfl) (by kernel_rfl) (fun _ _ _ h => h) (by rfl) (by assumption) (v := ?_) ?_ ?_
    rotate_left
    · intro w hSw; (try dsimp only at hSw); go_simp; (try with_reducible rfl)
    try simp only [Act.put, List.setIfInBounds_toArray, List.set_cons_zero, List.set_cons_succ]
    refine take_yes 7 57 rfl rfl (by kernel_rfl) (by kernel_rfl) (by kernel_rfl) (fun _ _ _ h => h) (by rfl) (by assumption) (v := .agg #[.int .u8 a1, .int .u8 a2, .int .u8 a3, .int .u8 a4, .int .u8 a5, .int .u8 a6]) ?_ ?_
    · intro w hSw; (try dsimp only at hSw); go_simp
    try simp only [Act.put, List.setIfInBounds_toArray, List.set_cons_zero, List.set_cons_succ]
    refine take_yes 8 58 rfl rfl (by kernel_rfl) (by kernel_rfl) (by kernel_rfl) (fun _ _ _ h => h) (by rfl) (by assumption) (v := ?_) ?_ ?_
    rotate_left
    · intro w hSw; (try dsimp only at hSw); go_simp; (try with_reducible rfl)
    try simp only [Act.put, List.setIfInBounds_toArray, List.set_cons_zero, List.set_cons_succ]
    refine wpAnyH_ready (rs := [9]) (by kernel_rfl) (by simp) ?_
    refine AllReadyH.cons (o := _) rfl (fun K hK => ?_) AllReadyH.nil
    go_simp
    have HSZ := Lib.hid (And.right hHeld).size
    refine (SD.out _ (And.right hHeld)).mono ?_
    rintro e v2 ⟨A9, c9, rfl, hrow, hF6⟩
    (try go_wp2_with fail)
    refine hK.out _ _ ?_ (fun hHeld => ?_)
    · (try dsimp only); refine HX.out _ (Fr.trans ?_ hF6); exact And.right (by assumption)
    clear hK K
    try simp only [Act.put, List.setIfInBounds_toArray, List.set_cons_zero, List.set_cons_succ]
    refine take_yes 10 2 rfl rfl (by kernel_rfl) (by kernel_rfl) (by kernel_rfl) (fun _ _ _ h => h) (by rfl) (by assumption) (v := ?_) ?_ ?_
    rotate_left
    · intro w hSw; (try dsimp only at hSw); go_simp; (try with_reducible rfl)
    try simp only [Act.put, List.setIfInBounds_toArray, List.set_cons_zero, List.set_cons_succ]
    refine wpAnyH_done (by kernel_rfl) ?_ _
    have HZ : Hid (Fr [] V v2) := Lib.hid (And.right (by assumption))
    have HR := Lib.hid (And.intro hrow hF6)
    clear hrow hF6
    go_wp2_with fail
    go_ret
    refine ⟨?_, HH.out _ (HFV.out.trans HZ.out)⟩
    rw [HLL.out]
    exact ⟨A9, c9, rfl, ⟨HR.out.1.1, HR.out.1.2.imp id fun ⟨x, cap', cur, z1, z2, z3⟩ => ⟨x, cap', cur, z1, Nat.le_trans HF1.out.size (Nat.le_trans HFV.out.size (Nat.le_trans HSZ.out z2)), z3⟩⟩, HF1.out.trans ((HFV.out.trans HZ.out).mono (S' := [g]) (by simp))⟩
  · have hs2 : ¬ B un = ⟨#[]⟩ := fun e => hu (List.eq_nil_of_length_eq_zero (by rw [← B_size, e]; rfl))
    have hs3 : (B un == ⟨#[]⟩) = false := by show ((B un).data == (#[] : Array UInt8)) = false; rw [beq_eq_false_iff_ne]; exact fun h => hs2 (ByteArray.ext h)
    have hb : (B un != ⟨#[]⟩) = true := by simp only [bne, hs3]; rfl
    have hie : un.isEmpty = false := by simpa using hu
    have HU := Lib.hid hu
    clear hs2 hs3 hb hu
    go_wp2_with (at_builtin; refine wpList_append_own _ rfl _ _ 250 rfl W1.heap.size 272 i0 (.agg #[.int .i64 0, .string ⟨#[]⟩]) 2 24 Tryz.underlying250 hi hz0 hz1 hz2 rfl (by decide) _ 1 _ rfl (hown1.alloc _) ⟨U1.heap.size, 0, none⟩ 1 1 (tgL (260, ck)) rfl rfl ?d21 ?d22 ?d23 ?d24 ?d25 ?_)
    try (case d21 => first | exact new_cells (U1) (tgL (260, ck)) 272 | exact fun j u h => h)
    try (case d22 => simp [tgL, Value.oneCell'])
    try (case d23 => unfold maxLen; omega)
    try (case d24 => omega)
    try (case d25 => first | omega | (simp; done) | (simp; omega))
    intro v2 w2 hown2 hgr2 _
    have hG2 := (hG1.alloc (.cells #[.int .i64 260, .string (B ck)] 272 (0, 0))).grown hgr2 (fun q hq => own_new hown1 q hq)
    have hsz2 := hG2.size
    obtain ⟨A2, c2, rfl⟩ := own_slice hown2
    have x10 : w2.cell? ⟨g, 10, none⟩ = some (.int .i64 2) := (HH.out _ hG2).c 10 _ rfl
    have x7 : w2.cell? ⟨g, 7, none⟩ = some (.string (B un)) := (HH.out _ hG2).c 7 _ rfl
    go_wp2_with (at_builtin; refine wpList_append_own _ rfl _ _ 250 rfl W1.heap.size 272 i0 (.agg #[.int .i64 0, .string ⟨#[]⟩]) 2 24 Tryz.underlying250 hi hz0 hz1 hz2 rfl (by decide) _ 2 _ rfl (hown2.alloc _) ⟨w2.heap.size, 0, none⟩ 1 1 (tgL (259, un)) rfl rfl ?d31 ?d32 ?d33 ?d34 ?d35 ?_)
    try (case d31 => first | exact new_cells (w2) (tgL (259, un)) 272 | exact fun j u h => h)
    try (case d32 => simp [tgL, Value.oneCell'])
    try (case d33 => unfold maxLen; omega)
    try (case d34 => omega)
    try (case d35 => first | omega | (simp; done) | (simp; omega))
    intro v3 w3 hown3 hgr3 _
    have hG3 := (hG2.alloc (.cells #[.int .i64 259, .string (B un)] 272 (0, 0))).grown hgr3 (fun q hq => own_new hown2 q hq)
    have hsz3 := hG3.size
    obtain ⟨A3, c3, rfl⟩ := own_slice hown3
    have x10 : w3.cell? ⟨g, 10, none⟩ = some (.int .i64 2) := (HH.out _ hG3).c 10 _ rfl
    have x7 : w3.cell? ⟨g, 7, none⟩ = some (.string (B un)) := (HH.out _ hG3).c 7 _ rfl
    have hc := own_caps hown3
    have hTA := TgAt.of_own (l := [(257, sv), (260, ck), (259, un)]) hown3
    have SD : Hid (∀ W, Fr [] (w3) W → Calls Tryz.prog 200 #[.agg #[.int .u8 m1, .int .u8 m2, .int .u8 m3, .int .u8 m4, .int .u8 m5, .int .u8 m6], .agg #[.int .u8 a1, .int .u8 a2, .int .u8 a3, .int .u8 a4, .int .u8 a5, .int .u8 a6], .int .i64 25, .int .i64 0, .slice A3 (2 + 1) c3] W (OutP W (frameL ⟨a1, a2, a3, a4, a5, a6⟩ ⟨m1, m2, m3, m4, m5, m6⟩ 25 0 [(257, sv), (260, ck), (259, un)]) [])) := Lib.hid fun W hW => dsend_out (l := [(257, sv), (260, ck), (259, un)]) ⟨m1, m2, m3, m4, m5, m6⟩ ⟨a1, a2, a3, a4, a5, a6⟩ 25 0 (hTA.fr0 hW) (show ∀ t, t ∈ [(257, sv), (260, ck), (259, un)] → TgOk t from by have := HA1.out; simp only [askL, if_neg HU.out, List.nil_append, List.cons_append] at this; exact this) (show List.length [(257, sv), (260, ck), (259, un)] ≤ 20 from by simp) hc.1 hc.2 (show (tgsB [(257, sv), (260, ck), (259, un)]).length ≤ 100000 from by have := HA3.out; simp only [askL, if_neg HU.out, List.nil_append, List.cons_append] at this; exact this) (by decide) (by decide) (by decide) (by decide)
    have HLL : Hid (dSayL _ = frameL ⟨a1, a2, a3, a4, a5, a6⟩ ⟨m1, m2, m3, m4, m5, m6⟩ 25 0 [(257, sv), (260, ck), (259, un)]) := Lib.hid (by have := HL.out; simp only [askL, if_neg HU.out, List.nil_append, List.cons_append] at this; exact this)
    obtain ⟨V, hV⟩ : ∃ V, w3 = V := ⟨_, rfl⟩
    rw [hV] at SD hG3 x10 x7
    have HX : Hid (∀ W, Fr [] V W → (fun W => (W.cell? ⟨g, 0, none⟩ = some (.int .u8 m1) ∧ W.cell? ⟨g, 1, none⟩ = some (.int .u8 m2) ∧ W.cell? ⟨g, 2, none⟩ = some (.int .u8 m3) ∧ W.cell? ⟨g, 3, none⟩ = some (.int .u8 m4) ∧ W.cell? ⟨g, 4, none⟩ = some (.int .u8 m5) ∧ W.cell? ⟨g, 5, none⟩ = some (.int .u8 m6) ∧ W.cell? ⟨g, 12, none⟩ = some (.int .u8 a1) ∧ W.cell? ⟨g, 13, none⟩ = some (.int .u8 a2) ∧ W.cell? ⟨g, 14, none⟩ = some (.int .u8 a3) ∧ W.cell? ⟨g, 15, none⟩ = some (.int .u8 a4) ∧ W.cell? ⟨g, 16, none⟩ = some (.int .u8 a5) ∧ W.cell? ⟨g, 17, none⟩ = some (.int .u8 a6)) ∧ Fr [] V W) W) := Lib.hid fun W hW => ⟨⟨(HH.out _ (hG3.trans hW)).c 0 _ rfl, (HH.out _ (hG3.trans hW)).c 1 _ rfl, (HH.out _ (hG3.trans hW)).c 2 _ rfl, (HH.out _ (hG3.trans hW)).c 3 _ rfl, (HH.out _ (hG3.trans hW)).c 4 _ rfl, (HH.out _ (hG3.trans hW)).c 5 _ rfl, (HH.out _ (hG3.trans hW)).c 12 _ rfl, (HH.out _ (hG3.trans hW)).c 13 _ rfl, (HH.out _ (hG3.trans hW)).c 14 _ rfl, (HH.out _ (hG3.trans hW)).c 15 _ rfl, (HH.out _ (hG3.trans hW)).c 16 _ rfl, (HH.out _ (hG3.trans hW)).c 17 _ rfl⟩, hW⟩
    have HFV := Lib.hid hG3
    clear hc hTA HA1 HA2 HA3 HL hown1 hown2 hown3 hgr2 hgr3 C6 C10 d20 f20 x18 x19 hG1 hG2
    go_wp2_with fail
    try rw [hV]
    clear hV
    refine wp_region_held_drew (S := (fun W => (W.cell? ⟨g, 0, none⟩ = some (.int .u8 m1) ∧ W.cell? ⟨g, 1, none⟩ = some (.int .u8 m2) ∧ W.cell? ⟨g, 2, none⟩ = some (.int .u8 m3) ∧ W.cell? ⟨g, 3, none⟩ = some (.int .u8 m4) ∧ W.cell? ⟨g, 4, none⟩ = some (.int .u8 m5) ∧ W.cell? ⟨g, 5, none⟩ = some (.int .u8 m6) ∧ W.cell? ⟨g, 12, none⟩ = some (.int .u8 a1) ∧ W.cell? ⟨g, 13, none⟩ = some (.int .u8 a2) ∧ W.cell? ⟨g, 14, none⟩ = some (.int .u8 a3) ∧ W.cell? ⟨g, 15, none⟩ = some (.int .u8 a4) ∧ W.cell? ⟨g, 16, none⟩ = some (.int .u8 a5) ∧ W.cell? ⟨g, 17, none⟩ = some (.int .u8 a6)) ∧ Fr [] V W)) (by kernel_rfl) ?_ (fun hHeld => ?_)
    · (try dsimp only); exact HX.out _ (Fr.refl [] V).drew
    refine take_yes 0 50 rfl rfl (by kernel_rfl) (by kernel_rfl) (by kernel_rfl) (fun _ _ _ h => h) (by rfl) (by assumption) (v := ?_) ?_ ?_
    rotate_left
    · intro w hSw; (try dsimp only at hSw); go_simp; (try with_reducible rfl)
    try simp only [Act.put, List.setIfInBounds_toArray, List.set_cons_zero, List.set_cons_succ]
    refine take_yes 1 51 rfl rfl (by kernel_rfl) (by kernel_rfl) (by kernel_rfl) (fun _ _ _ h => h) (by rfl) (by assumption) (v := ?_) ?_ ?_
    rotate_left
    · intro w hSw; (try dsimp only at hSw); go_simp; (try with_reducible rfl)
    try simp only [Act.put, List.setIfInBounds_toArray, List.set_cons_zero, List.set_cons_succ]
    refine take_yes 2 52 rfl rfl (by kernel_rfl) (by kernel_rfl) (by kernel_rfl) (fun _ _ _ h => h) (by rfl) (by assumption) (v := ?_) ?_ ?_
    rotate_left
    · intro w hSw; (try dsimp only at hSw); go_simp; (try with_reducible rfl)
    try simp only [Act.put, List.setIfInBounds_toArray, List.set_cons_zero, List.set_cons_succ]
    refine take_yes 3 53 rfl rfl (by kernel_rfl) (by kernel_rfl) (by kernel_rfl) (fun _ _ _ h => h) (by rfl) (by assumption) (v := .agg #[.int .u8 m1, .int .u8 m2, .int .u8 m3, .int .u8 m4, .int .u8 m5, .int .u8 m6]) ?_ ?_
    · intro w hSw; (try dsimp only at hSw); go_simp
    try simp only [Act.put, List.setIfInBounds_toArray, List.set_cons_zero, List.set_cons_succ]
    refine take_yes 4 54 rfl rfl (by kernel_rfl) (by kernel_rfl) (by kernel_rfl) (fun _ _ _ h => h) (by rfl) (by assumption) (v := ?_) ?_ ?_
    rotate_left
    · intro w hSw; (try dsimp only at hSw); go_simp; (try with_reducible rfl)
    try simp only [Act.put, List.setIfInBounds_toArray, List.set_cons_zero, List.set_cons_succ]
    refine take_yes 5 55 rfl rfl (by kernel_rfl) (by kernel_rfl) (by kernel_rfl) (fun _ _ _ h => h) (by rfl) (by assumption) (v := ?_) ?_ ?_
    rotate_left
    · intro w hSw; (try dsimp only at hSw); go_simp; (try with_reducible rfl)
    try simp only [Act.put, List.setIfInBounds_toArray, List.set_cons_zero, List.set_cons_succ]
    refine take_yes 6 56 rfl rfl (by kernel_rfl) (by kernel_rfl) (by kernel_rfl) (fun _ _ _ h => h) (by rfl) (by assumption) (v := ?_) ?_ ?_
    rotate_left
    · intro w hSw; (try dsimp only at hSw); go_simp; (try with_reducible rfl)
    try simp only [Act.put, List.setIfInBounds_toArray, List.set_cons_zero, List.set_cons_succ]
    refine take_yes 7 57 rfl rfl (by kernel_rfl) (by kernel_rfl) (by kernel_rfl) (fun _ _ _ h => h) (by rfl) (by assumption) (v := .agg #[.int .u8 a1, .int .u8 a2, .int .u8 a3, .int .u8 a4, .int .u8 a5, .int .u8 a6]) ?_ ?_
    · intro w hSw; (try dsimp only at hSw); go_simp
    try simp only [Act.put, List.setIfInBounds_toArray, List.set_cons_zero, List.set_cons_succ]
    refine take_yes 8 58 rfl rfl (by kernel_rfl) (by kernel_rfl) (by kernel_rfl) (fun _ _ _ h => h) (by rfl) (by assumption) (v := ?_) ?_ ?_
    rotate_left
    · intro w hSw; (try dsimp only at hSw); go_simp; (try with_reducible rfl)
    try simp only [Act.put, List.setIfInBounds_toArray, List.set_cons_zero, List.set_cons_succ]
    refine wpAnyH_ready (rs := [9]) (by kernel_rfl) (by simp) ?_
    refine AllReadyH.cons (o := _) rfl (fun K hK => ?_) AllReadyH.nil
    go_simp
    have HSZ := Lib.hid (And.right hHeld).size
    refine (SD.out _ (And.right hHeld)).mono ?_
    rintro e v2 ⟨A9, c9, rfl, hrow, hF6⟩
    (try go_wp2_with fail)
    refine hK.out _ _ ?_ (fun hHeld => ?_)
    · (try dsimp only); refine HX.out _ (Fr.trans ?_ hF6); exact And.right (by assumption)
    clear hK K
    try simp only [Act.put, List.setIfInBounds_toArray, List.set_cons_zero, List.set_cons_succ]
    refine take_yes 10 2 rfl rfl (by kernel_rfl) (by kernel_rfl) (by kernel_rfl) (fun _ _ _ h => h) (by rfl) (by assumption) (v := ?_) ?_ ?_
    rotate_left
    · intro w hSw; (try dsimp only at hSw); go_simp; (try with_reducible rfl)
    try simp only [Act.put, List.setIfInBounds_toArray, List.set_cons_zero, List.set_cons_succ]
    refine wpAnyH_done (by kernel_rfl) ?_ _
    have HZ : Hid (Fr [] V v2) := Lib.hid (And.right (by assumption))
    have HR := Lib.hid (And.intro hrow hF6)
    clear hrow hF6
    go_wp2_with fail
    go_ret
    refine ⟨?_, HH.out _ (HFV.out.trans HZ.out)⟩
    rw [HLL.out]
    exact ⟨A9, c9, rfl, ⟨HR.out.1.1, HR.out.1.2.imp id fun ⟨x, cap', cur, z1, z2, z3⟩ => ⟨x, cap', cur, z1, Nat.le_trans HF1.out.size (Nat.le_trans HFV.out.size (Nat.le_trans HSZ.out z2)), z3⟩⟩, HF1.out.trans ((HFV.out.trans HZ.out).mono (S' := [g]) (by simp))⟩
theorem dask_any (hst : d.st = 1 ∨ d.st = 2) (h1 : d.sv.length ≤ 40) (h2 : d.un.length ≤ 40) (h3 : d.st = 2 → d.ck.length ≤ 1494) (hB : Blk w g (dhC d) 254) : Calls Tryz.prog 198 #[.pointer (some ⟨g, 0, none⟩)] w (DOut w g (dSayL d) { d with tk := 0 }) := by
  rcases hst with hst | hst
  · exact dask_one h1 h2 hst hB
  · by_cases hh : d.hc = true
    · exact dask_full h1 h2 hst hh (h3 hst) hB
    · exact dask_bare h1 h2 hst (by simpa using hh) hB
end
end Go.Proofs.YtfchbppfbepelaaGreat
