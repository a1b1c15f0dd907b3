/- ac: offer with services (printed by tools/gen_hmc.py). -/
import Derived.Test.YtcdencpkgfehlaaAcE
import Derived.Test.YtcdencpkgfehlaaHmA
namespace Go.Proofs.Ytcdencpkgfehlaa
open Go.RowKit Go.Maps
set_option linter.unusedVariables false
/-- what is offered ahead of the cookie -/
def svcL (sv : List UInt8) (os : List (List UInt8)) : List Tg := if sv = [] then os.map (fun s => (257, s)) else []
def offL (nm sv : List UInt8) (os : List (List UInt8)) (ck : List UInt8) (l : List Tg) : List Tg := ((258, nm) :: (257, sv) :: svcL sv os) ++ (260, ck) :: uniqT l
theorem tgOk_app {nm sv ck : List UInt8} {os : List (List UInt8)} {l : List Tg} : ∀ x, x ∈ offL nm sv os ck l → TgOk x := by
  intro x hx
  unfold offL at hx
  rcases List.mem_append.1 hx with hx | hx
  · rcases List.mem_cons.1 hx with rfl | hx
    · unfold TgOk; simp only; omega
    rcases List.mem_cons.1 hx with rfl | hx
    · unfold TgOk; simp only; omega
    unfold svcL at hx
    split at hx
    · obtain ⟨s, _, rfl⟩ := List.mem_map.1 hx
      unfold TgOk; simp only; omega
    · cases hx
  · rcases List.mem_cons.1 hx with rfl | hx
    · unfold TgOk; simp only; omega
    unfold uniqT at hx
    split at hx
    · cases hx
    · simp at hx; subst hx; unfold TgOk; simp only; omega
section
variable {w : World} {g : Nat} {c : Cn} {S : List Ses} {G : List Idk}
set_option maxRecDepth 100000 in
set_option maxHeartbeats 16000000 in
theorem offer_any (to : Mc) (sv : List UInt8) {A : Option Addr} {cap : Nat} {l : List Tg} (t : Int) (ht0 : -9223372036854775808 ≤ t) (ht1 : t ≤ 9223372036854775807) (hT : TgAt w A l) (hl : l.length ≤ 20) (hc : l.length ≤ cap) (hm : cap ≤ maxLen)
    {As : Option Addr} {cs : Nat} {os : List (List UInt8)} (hRS : RAt w As 1 strF os) (hos : os.length ≤ 8) (hcs : os.length ≤ cs) (hms : cs ≤ maxLen) (hin : sv = [] ∨ sv ∈ os) (hsvl : sv.length ≤ 40)
    (hcsv : c.sv = .slice As os.length cs) (hsec : c.sec.length ≤ 40000) (hsz : (tgsB (offL c.nm sv os (md5 (cookL (t / 64) [to.a, to.b, to.c, to.d, to.e, to.f] sv c.sec)) l)).length ≤ 1494) (h : CnIs w g c S G) :
    Calls Try.prog 51 #[.pointer (some ⟨g, 0, none⟩), .agg (mcL to).toArray, .string (B sv), .slice A l.length cap, .int .i64 t] w (OneP w to c.m 34915 (discB 7 0 (tgsB (offL c.nm sv os (md5 (cookL (t / 64) [to.a, to.b, to.c, to.d, to.e, to.f] sv c.sec)) l))) []) := by
  obtain ⟨i0, hi, hz0, hz1, hz2⟩ := info_parts infoTag
  obtain ⟨t1, t2, t3, t4, t5, t6⟩ := to
  simp only at hsz ⊢
  have UQ := Lib.hid fun W (hW : Fr [] w W) => uniq_any (hT.fr0 hW) hl hc hm
  have MK := Lib.hid fun W => make_any c.sec t1 t2 t3 t4 t5 t6 sv t W ht0 ht1 hsec (by omega)
  obtain ⟨ck, hck⟩ : ∃ x, md5 (cookL (t / 64) [t1, t2, t3, t4, t5, t6] sv c.sec) = x := ⟨_, rfl⟩
  rw [hck] at MK hsz ⊢
  have H := Lib.hid h
  have HTO0 : Hid (∀ x, x ∈ offL c.nm sv os ck l → TgOk x) := Lib.hid tgOk_app
  have HUL : Hid ((uniqT l).length ≤ 1) := Lib.hid (by unfold uniqT; split <;> simp)
  have HSZ0 := Lib.hid hsz
  have HIN := Lib.hid hin
  have HS0 := Lib.hid hRS
  have CT := Lib.hid fun W (hW : Fr [] w W) => hasS_any sv (hRS.fr0 hW) (by omega) hcs hms
  have hF0 := (Fr.refl [] w).alloc (.cells #[.int .u8 t1, .int .u8 t2, .int .u8 t3, .int .u8 t4, .int .u8 t5, .int .u8 t6] 28 (0, 0))
  have hN0 := Blk.new w #[.int .u8 t1, .int .u8 t2, .int .u8 t3, .int .u8 t4, .int .u8 t5, .int .u8 t6] 28
  obtain ⟨bm, hbm⟩ : ∃ q, w.heap.size = q := ⟨_, rfl⟩
  obtain ⟨V1, hV1⟩ : ∃ W, w.alloc (.cells #[.int .u8 t1, .int .u8 t2, .int .u8 t3, .int .u8 t4, .int .u8 t5, .int .u8 t6] 28 (0, 0)) = W := ⟨_, rfl⟩
  rw [hV1] at hF0 hN0
  rw [hbm] at hN0
  have HX : Hid (∀ W, (Blk W bm #[.int .u8 t1, .int .u8 t2, .int .u8 t3, .int .u8 t4, .int .u8 t5, .int .u8 t6] 28 ∧ Fr [] w W) → (fun W => (W.cell? ⟨bm, 0, none⟩ = some (.int .u8 t1) ∧ W.cell? ⟨bm, 1, none⟩ = some (.int .u8 t2) ∧ W.cell? ⟨bm, 2, none⟩ = some (.int .u8 t3) ∧ W.cell? ⟨bm, 3, none⟩ = some (.int .u8 t4) ∧ W.cell? ⟨bm, 4, none⟩ = some (.int .u8 t5) ∧ W.cell? ⟨bm, 5, none⟩ = some (.int .u8 t6) ∧ W.cell? ⟨g, 7, none⟩ = some (.string (B c.sec))) ∧ Blk W bm #[.int .u8 t1, .int .u8 t2, .int .u8 t3, .int .u8 t4, .int .u8 t5, .int .u8 t6] 28 ∧ Fr [] w W) W) := Lib.hid fun W h => ⟨⟨h.1.c 0 _ rfl, h.1.c 1 _ rfl, h.1.c 2 _ rfl, h.1.c 3 _ rfl, h.1.c 4 _ rfl, h.1.c 5 _ rfl, (h.2.blk H.out.st (by simp)).c 7 _ rfl⟩, h⟩
  have d6 : ∀ W, Fr [] w W → W.cell? ⟨g, 6, none⟩ = some (.string (B c.nm)) := fun W hW => (hW.blk H.out.st (by simp)).c 6 _ rfl
  have d8 : ∀ W, Fr [] w W → W.cell? ⟨g, 8, none⟩ = some (.slice As os.length cs) := fun W hW => by
    have := (hW.blk H.out.st (by simp)).c 8 c.sv rfl
    rwa [hcsv] at this
  have D6 := Lib.hid d6
  have D8 := Lib.hid d8
  unfold maxLen at hms
  unfold mcL
  simp only
  clear hT hl hc hm hsec hsz h ht0 ht1 hck hin hRS d6 d8 hcsv hsvl
  by_cases hsv : sv = []
  · have HSV := Lib.hid hsv
    have hie : sv.isEmpty = true := by simp [hsv]
    have e6 := D6.out _ hF0
    have hFb := hF0.alloc (.cells #[.int .i64 258, .string (B c.nm), .int .i64 257, .string (B sv)] 54 (0, 0))
    have e8 := D8.out _ hFb
    have hOut0 := World.ownsRow_lit (base := w.heap.size) (e := 54) (size := 2) V1 #[.int .i64 258, .string (B c.nm), .int .i64 257, .string (B sv)] 2 hF0.size (by unfold maxLen; omega) rfl
    have hbm3 := ((Fr.refl [] V1).alloc (.cells #[.int .i64 258, .string (B c.nm), .int .i64 257, .string (B sv)] 54 (0, 0))).blk hN0 (by simp)
    clear hN0 hsv
    go_enter Try.func51, Try.ntmps51
    go_wp2_with fail
    clear hV1 hbm e6 e8
    go_loopw [11, 40] (fun ov iv wr => ∃ j : Nat, j ≤ os.length ∧ iv = .int .i64 j ∧ wr.ownsRow w.heap.size 54 2 ov (2 + j) (tgF ([(258, c.nm), (257, sv)] ++ (os.take j).map (fun s => (257, s)))) ∧ Blk wr bm #[.int .u8 t1, .int .u8 t2, .int .u8 t3, .int .u8 t4, .int .u8 t5, .int .u8 t6] 28 ∧ Fr [] w wr) (fun _ iv _ => os.length - (intOf iv).toNat)
    case atStart => exact ⟨0, by omega, rfl, by simpa [tgF, tgL] using hOut0, hbm3, hFb⟩
    case round =>
      clear hOut0 hbm3 hFb hF0
      obtain ⟨j, hj, rfl, hown, hbr, hF⟩ := hrel
      by_cases hjl : j < os.length
      · obtain ⟨s, ht⟩ : ∃ t, os[j]? = some t := ⟨_, List.getElem?_eq_getElem hjl⟩
        obtain ⟨b, rfl, hb, hcell⟩ := HS0.out j _ ht
        have c0 : wr.cell? ⟨b, j, none⟩ = some (.string (B s)) := by have := hcell _ hF 0 _ rfl; simpa using this
        have hjb : (j : Int) ≤ 8 := by omega
        have HT := Lib.hid ht
        have HR : Hid (Reads (wr.alloc (.cells #[.int .i64 257, .string (B s)] 54 (0, 0))) (wr.alloc (.cells #[.int .i64 257, .string (B s)] 54 (0, 0))).heap.size 2 (some ⟨wr.heap.size, 0, none⟩) 1 [.int .i64 257, .string (B s)]) := Lib.hid (Reads.of_own (World.ownsRow_lit (base := w.heap.size) (e := 54) (size := 2) wr #[.int .i64 257, .string (B s)] 1 hF.size (by unfold maxLen; omega) rfl))
        have HOW := Lib.hid (own_fr0 hown ((Fr.refl [] wr).alloc (.cells #[.int .i64 257, .string (B s)] 54 (0, 0))))
        have HF := Lib.hid hF
        have HBR := Lib.hid hbr
        clear hcell ht hb hown hF hbr
        go_wp2_with (at_builtin; refine wpList_append_any _ rfl _ _ 90 rfl w.heap.size 54 i0 (.agg #[.int .i64 0, .string ⟨#[]⟩]) 2 24 Try.underlying90 hi hz0 hz1 hz2 rfl (by decide) _ (2 + j) _ rfl HOW.out _ _ 1 1 [.int .i64 257, .string (B s)] rfl HR.out (by simp [Value.oneCell']) ?c3 ?c4 ?c5 ?_)
        case c3 => unfold maxLen; omega
        case c4 => omega
        case c5 => exact (HF.out.alloc _).size
        intro v' w1 hown' hgr' _
        have hFg := Fr.of_grown hgr'
        have hb1 := keep_grown HOW.out hFg (((Fr.refl [] wr).alloc _).blk HBR.out (by simp)) (by decide)
        have hF1 : Fr [] w w1 := (HF.out.alloc _).grown hgr' (fun q hq => own_new HOW.out q hq)
        have hown1 : w1.ownsRow w.heap.size 54 2 v' (2 + (j + 1)) (tgF ([(258, c.nm), (257, sv)] ++ (os.take (j + 1)).map (fun s => (257, s)))) := by
          have e : tgF ([(258, c.nm), (257, sv)] ++ (os.take (j + 1)).map (fun s => (257, s))) = tgF ([(258, c.nm), (257, sv)] ++ (os.take j).map (fun s => (257, s))) ++ [.int .i64 257, .string (B s)] := by
            rw [List.take_add_one, HT.out]
            simp [tgF, tgL, List.flatMap_append]
          rw [e, ← Nat.add_assoc, List.map_take]
          exact hown'
        have HREL := Lib.hid (And.intro hown1 (And.intro hb1 hF1))
        clear hFg hgr' hown' hb1 hF1 hown1 HR
        go_wp2_with fail
        go_roundw
        case rel => exact ⟨j + 1, by omega, by go_num, HREL.out.1, HREL.out.2.1, HREL.out.2.2⟩
        case measure => (simp [intOf]) <;> omega
      · obtain rfl : j = os.length := by omega
        have hge : ¬ (os.length : Int) < os.length := by omega
        rw [List.take_length] at hown
        obtain ⟨L0, hL0⟩ : ∃ x : List Tg, [(258, c.nm), (257, sv)] ++ os.map (fun s => ((257, s) : Tg)) = x := ⟨_, rfl⟩
        obtain ⟨n0, hn0⟩ : ∃ n, 2 + os.length = n := ⟨_, rfl⟩
        rw [hL0, hn0] at hown
        have HN0 : Hid (n0 ≤ 10) := Lib.hid (by omega)
        have HNL : Hid (n0 = L0.length) := Lib.hid (by rw [← hL0, ← hn0]; simp; omega)
        have hOL : offL c.nm sv os ck l = L0 ++ (260, ck) :: uniqT l := by
          unfold offL svcL
          rw [if_pos HSV.out, ← hL0]
          rfl
        rw [hOL] at HTO0 HSZ0
        have HOL := Lib.hid hOL
        have HTO := HTO0
        have HSZ := HSZ0
        obtain ⟨Ao, co, rfl⟩ := own_slice hown
        have hOut0 := hown
        have hbm3 := hbr
        have hFw3 := hF
        obtain ⟨V3, hV3⟩ : ∃ X, wr = X := ⟨_, rfl⟩
        rw [hV3] at hOut0 hbm3 hFw3 ⊢
        clear hown hbr hF hL0 hn0 hj hjl hOL HTO0 HSZ0 hV3
        go_wp2_with fail
        refine wp_region_held_drew (S := (fun W => (W.cell? ⟨bm, 0, none⟩ = some (.int .u8 t1) ∧ W.cell? ⟨bm, 1, none⟩ = some (.int .u8 t2) ∧ W.cell? ⟨bm, 2, none⟩ = some (.int .u8 t3) ∧ W.cell? ⟨bm, 3, none⟩ = some (.int .u8 t4) ∧ W.cell? ⟨bm, 4, none⟩ = some (.int .u8 t5) ∧ W.cell? ⟨bm, 5, none⟩ = some (.int .u8 t6) ∧ W.cell? ⟨g, 7, none⟩ = some (.string (B c.sec))) ∧ Blk W bm #[.int .u8 t1, .int .u8 t2, .int .u8 t3, .int .u8 t4, .int .u8 t5, .int .u8 t6] 28 ∧ Fr [] w W)) (by kernel_rfl) ?_ (fun hHeld => ?_)
        · (try dsimp only); exact HX.out _ ⟨hbm3.drew, hFw3.drew⟩
        have hOut1 := own_fr0 hOut0 (Fr.refl _ V3).drew
        obtain ⟨v0, hv⟩ : ∃ X, V3.drew = X := ⟨_, rfl⟩
        rw [hv] at hHeld hOut1 ⊢
        clear hv hOut0 hbm3 hFw3
        refine take_yes 0 50 rfl rfl (by kernel_rfl) (by kernel_rfl) (by kernel_rfl) (fun _ _ _ h => h) (by rfl) (by assumption) (v := ?_) ?_ ?_
        rotate_left
        · intro w hSw; (try dsimp only at hSw); go_simp; (try with_reducible rfl)
        try simp only [Act.put, List.setIfInBounds_toArray, List.set_cons_zero, List.set_cons_succ]
        refine take_yes 1 51 rfl rfl (by kernel_rfl) (by kernel_rfl) (by kernel_rfl) (fun _ _ _ h => h) (by rfl) (by assumption) (v := ?_) ?_ ?_
        rotate_left
        · intro w hSw; (try dsimp only at hSw); go_simp; (try with_reducible rfl)
        try simp only [Act.put, List.setIfInBounds_toArray, List.set_cons_zero, List.set_cons_succ]
        refine take_yes 2 52 rfl rfl (by kernel_rfl) (by kernel_rfl) (by kernel_rfl) (fun _ _ _ h => h) (by rfl) (by assumption) (v := ?_) ?_ ?_
        rotate_left
        · intro w hSw; (try dsimp only at hSw); go_simp; (try with_reducible rfl)
        try simp only [Act.put, List.setIfInBounds_toArray, List.set_cons_zero, List.set_cons_succ]
        refine take_yes 3 53 rfl rfl (by kernel_rfl) (by kernel_rfl) (by kernel_rfl) (fun _ _ _ h => h) (by rfl) (by assumption) (v := ?_) ?_ ?_
        rotate_left
        · intro w hSw; (try dsimp only at hSw); go_simp; (try with_reducible rfl)
        try simp only [Act.put, List.setIfInBounds_toArray, List.set_cons_zero, List.set_cons_succ]
        refine take_yes 4 54 rfl rfl (by kernel_rfl) (by kernel_rfl) (by kernel_rfl) (fun _ _ _ h => h) (by rfl) (by assumption) (v := ?_) ?_ ?_
        rotate_left
        · intro w hSw; (try dsimp only at hSw); go_simp; (try with_reducible rfl)
        try simp only [Act.put, List.setIfInBounds_toArray, List.set_cons_zero, List.set_cons_succ]
        refine take_yes 5 55 rfl rfl (by kernel_rfl) (by kernel_rfl) (by kernel_rfl) (fun _ _ _ h => h) (by rfl) (by assumption) (v := ?_) ?_ ?_
        rotate_left
        · intro w hSw; (try dsimp only at hSw); go_simp; (try with_reducible rfl)
        try simp only [Act.put, List.setIfInBounds_toArray, List.set_cons_zero, List.set_cons_succ]
        refine take_yes 6 56 rfl rfl (by kernel_rfl) (by kernel_rfl) (by kernel_rfl) (fun _ _ _ h => h) (by rfl) (by assumption) (v := ?_) ?_ ?_
        rotate_left
        · intro w hSw; (try dsimp only at hSw); go_simp; (try with_reducible rfl)
        try simp only [Act.put, List.setIfInBounds_toArray, List.set_cons_zero, List.set_cons_succ]
        refine take_yes 7 57 rfl rfl (by kernel_rfl) (by kernel_rfl) (by kernel_rfl) (fun _ _ _ h => h) (by rfl) (by assumption) (v := ?_) ?_ ?_
        rotate_left
        · intro w hSw; (try dsimp only at hSw); go_simp; (try with_reducible rfl)
        try simp only [Act.put, List.setIfInBounds_toArray, List.set_cons_zero, List.set_cons_succ]
        refine wpAnyH_ready (rs := [8]) (by kernel_rfl) (by simp) ?_
        refine AllReadyH.cons (o := _) rfl (fun K hK => ?_) AllReadyH.nil
        go_simp
        refine (MK.out _).mono ?_
        rintro e v1 ⟨rfl, hF5⟩
        (try go_wp2_with fail)
        have hb1 := hF5.blk hHeld.2.1 (by simp)
        have hf1 := hHeld.2.2.trans hF5
        replace hOut1 := own_fr0 hOut1 hF5
        refine hK.out _ _ ?_ (fun hHeld1 => ?_)
        · (try dsimp only); exact HX.out _ ⟨hb1, hf1⟩
        clear hK K
        try simp only [Act.put, List.setIfInBounds_toArray, List.set_cons_zero, List.set_cons_succ]
        replace hHeld := hHeld1
        clear hHeld1 hb1 hf1 hF5
        refine take_yes 9 59 rfl rfl (by kernel_rfl) (by kernel_rfl) (by kernel_rfl) (fun _ _ _ h => h) (by rfl) (by assumption) (v := ?_) ?_ ?_
        rotate_left
        · intro w hSw; (try dsimp only at hSw); go_simp; (try with_reducible rfl)
        try simp only [Act.put, List.setIfInBounds_toArray, List.set_cons_zero, List.set_cons_succ]
        refine wpAnyH_ready (rs := [10]) (by kernel_rfl) (by simp) ?_
        refine AllReadyH.cons (o := _) rfl (fun K hK => ?_) AllReadyH.nil
        go_simp
        (try go_wp2_with fail)
        have hFa : Fr [] v1 (v1.alloc (.cells #[.int .i64 260, .string (B ck)] 54 (0, 0))) := (Fr.refl _ _).alloc _
        have hOwnX := World.ownsRow_lit (base := w.heap.size) (e := 54) (size := 2) v1 #[.int .i64 260, .string (B ck)] 1 hHeld.2.2.size (by unfold maxLen; omega) rfl
        replace hOut1 := own_fr0 hOut1 hFa
        have hb1 := hFa.blk hHeld.2.1 (by simp)
        have hf1 := hHeld.2.2.trans hFa
        obtain ⟨v2, hv⟩ : ∃ X, v1.alloc (.cells #[.int .i64 260, .string (B ck)] 54 (0, 0)) = X := ⟨_, rfl⟩
        obtain ⟨qx, hqx⟩ : ∃ q, v1.heap.size = q := ⟨_, rfl⟩
        rw [hv] at hOut1 hOwnX hb1 hf1 ⊢
        rw [hqx] at hOwnX ⊢
        clear hv hqx hFa
        refine hK.out _ _ ?_ (fun hHeld1 => ?_)
        · (try dsimp only); exact HX.out _ ⟨hb1, hf1⟩
        clear hK K
        try simp only [Act.put, List.setIfInBounds_toArray, List.set_cons_zero, List.set_cons_succ]
        replace hHeld := hHeld1
        clear hHeld1 hb1 hf1
        refine wpAnyH_ready (rs := [11]) (by kernel_rfl) (by simp) ?_
        refine AllReadyH.cons (o := _) rfl (fun K hK => ?_) AllReadyH.nil
        rw [if_pos (by rfl)]
        refine app_any _ 61 rfl (.tmp 50) (.tmp 60) 90 rfl w.heap.size 54 i0 (.agg #[.int .i64 0, .string ⟨#[]⟩]) 2 24 Try.underlying90 hi hz0 hz1 hz2 rfl (by decide) _ n0 _ rfl hOut1 _ _ _ _ _ rfl (Reads.of_own hOwnX) (by simp [Value.oneCell']) ?_ ?_ ?_ ?_
        · have := HN0.out; unfold maxLen; omega
        · have := HN0.out; omega
        · exact hHeld.2.2.size
        intro va v3 hownA hgrA hrowA
        have hFg := Fr.of_grown hgrA
        have hb1 := keep_grown hOut1 hFg hHeld.2.1 (by decide)
        have hf1 := hHeld.2.2.grown hgrA (fun q hq => own_new hOut1 q hq)
        clear hFg hgrA hrowA hOut1 hOwnX
        refine hK.out _ _ ?_ (fun hHeld1 => ?_)
        · (try dsimp only); exact HX.out _ ⟨hb1, hf1⟩
        clear hK K
        try simp only [Act.put, List.setIfInBounds_toArray, List.set_cons_zero, List.set_cons_succ]
        refine take_yes 12 11 rfl rfl (by kernel_rfl) (by kernel_rfl) (by kernel_rfl) (fun _ _ _ h => h) (by rfl) (by assumption) (v := ?_) ?_ ?_
        rotate_left
        · intro w hSw; (try dsimp only at hSw); go_simp; (try with_reducible rfl)
        try simp only [Act.put, List.setIfInBounds_toArray, List.set_cons_zero, List.set_cons_succ]
        refine wpAnyH_done (by kernel_rfl) ?_ _
        clear hHeld hHeld1
        obtain ⟨A3, c3, rfl⟩ := own_slice hownA
        go_wp2_with fail
        refine wp_region_held_drew (S := (fun W => (W.cell? ⟨bm, 0, none⟩ = some (.int .u8 t1) ∧ W.cell? ⟨bm, 1, none⟩ = some (.int .u8 t2) ∧ W.cell? ⟨bm, 2, none⟩ = some (.int .u8 t3) ∧ W.cell? ⟨bm, 3, none⟩ = some (.int .u8 t4) ∧ W.cell? ⟨bm, 4, none⟩ = some (.int .u8 t5) ∧ W.cell? ⟨bm, 5, none⟩ = some (.int .u8 t6) ∧ W.cell? ⟨g, 7, none⟩ = some (.string (B c.sec))) ∧ Blk W bm #[.int .u8 t1, .int .u8 t2, .int .u8 t3, .int .u8 t4, .int .u8 t5, .int .u8 t6] 28 ∧ Fr [] w W)) (by kernel_rfl) ?_ (fun hHeld => ?_)
        · (try dsimp only); exact HX.out _ ⟨hb1.drew, hf1.drew⟩
        have hOut1 := own_fr0 hownA (Fr.refl _ v3).drew
        obtain ⟨v4, hv⟩ : ∃ X, v3.drew = X := ⟨_, rfl⟩
        rw [hv] at hHeld hOut1 ⊢
        clear hv hownA hb1 hf1
        refine take_yes 0 62 rfl rfl (by kernel_rfl) (by kernel_rfl) (by kernel_rfl) (fun _ _ _ h => h) (by rfl) (by assumption) (v := ?_) ?_ ?_
        rotate_left
        · intro w hSw; (try dsimp only at hSw); go_simp; (try with_reducible rfl)
        try simp only [Act.put, List.setIfInBounds_toArray, List.set_cons_zero, List.set_cons_succ]
        refine take_yes 1 63 rfl rfl (by kernel_rfl) (by kernel_rfl) (by kernel_rfl) (fun _ _ _ h => h) (by rfl) (by assumption) (v := ?_) ?_ ?_
        rotate_left
        · intro w hSw; (try dsimp only at hSw); go_simp; (try with_reducible rfl)
        try simp only [Act.put, List.setIfInBounds_toArray, List.set_cons_zero, List.set_cons_succ]
        refine take_yes 2 64 rfl rfl (by kernel_rfl) (by kernel_rfl) (by kernel_rfl) (fun _ _ _ h => h) (by rfl) (by assumption) (v := ?_) ?_ ?_
        rotate_left
        · intro w hSw; (try dsimp only at hSw); go_simp; (try with_reducible rfl)
        try simp only [Act.put, List.setIfInBounds_toArray, List.set_cons_zero, List.set_cons_succ]
        refine take_yes 3 65 rfl rfl (by kernel_rfl) (by kernel_rfl) (by kernel_rfl) (fun _ _ _ h => h) (by rfl) (by assumption) (v := ?_) ?_ ?_
        rotate_left
        · intro w hSw; (try dsimp only at hSw); go_simp; (try with_reducible rfl)
        try simp only [Act.put, List.setIfInBounds_toArray, List.set_cons_zero, List.set_cons_succ]
        refine wpAnyH_ready (rs := [4]) (by kernel_rfl) (by simp) ?_
        refine AllReadyH.cons (o := _) rfl (fun K hK => ?_) AllReadyH.nil
        go_simp
        refine (UQ.out _ hHeld.2.2).mono ?_
        rintro e v5 ⟨Au, cu, rfl, hUo0, hF5⟩
        (try go_wp2_with fail)
        have hUo := own_base hUo0 hHeld.2.2.size
        have hb1 := hF5.blk hHeld.2.1 (by simp)
        have hf1 := hHeld.2.2.trans hF5
        replace hOut1 := own_fr0 hOut1 hF5
        refine hK.out _ _ ?_ (fun hHeld1 => ?_)
        · (try dsimp only); exact HX.out _ ⟨hb1, hf1⟩
        clear hK K
        try simp only [Act.put, List.setIfInBounds_toArray, List.set_cons_zero, List.set_cons_succ]
        replace hHeld := hHeld1
        clear hHeld1 hb1 hf1 hF5 hUo0
        refine wpAnyH_ready (rs := [5]) (by kernel_rfl) (by simp) ?_
        refine AllReadyH.cons (o := _) rfl (fun K hK => ?_) AllReadyH.nil
        rw [if_pos (by rfl)]
        refine app_any _ 67 rfl (.tmp 64) (.tmp 66) 90 rfl w.heap.size 54 i0 (.agg #[.int .i64 0, .string ⟨#[]⟩]) 2 24 Try.underlying90 hi hz0 hz1 hz2 rfl (by decide) _ (n0 + 1) _ rfl hOut1 _ _ _ _ _ rfl (Reads.of_own hUo) (tgF_one _) ?_ ?_ ?_ ?_
        · have := HUL.out; have := HN0.out; unfold maxLen; omega
        · have := HUL.out; have := HN0.out; omega
        · exact hHeld.2.2.size
        intro vb v6 hownB hgrB hrowB
        have hFg := Fr.of_grown hgrB
        have hb1 := keep_grown hOut1 hFg hHeld.2.1 (by decide)
        have hf1 := hHeld.2.2.grown hgrB (fun q hq => own_new hOut1 q hq)
        obtain ⟨A1, c1, rfl⟩ := own_slice hownB
        have hcp := own_caps hownB
        clear hFg hgrB hrowB hOut1 hUo
        refine hK.out _ _ ?_ (fun hHeld1 => ?_)
        · (try dsimp only); exact HX.out _ ⟨hb1, hf1⟩
        clear hK K
        try simp only [Act.put, List.setIfInBounds_toArray, List.set_cons_zero, List.set_cons_succ]
        have hlen : n0 + 1 + (uniqT l).length = (L0 ++ (260, ck) :: uniqT l).length := by have := HNL.out; simp; omega
        have hxs : tgF (L0 ++ (260, ck) :: uniqT l) = (tgF L0 ++ [.int .i64 260, .string (B ck)]) ++ tgF (uniqT l) := by simp [tgF, tgL, List.flatMap_append]
        have hTx := TgAt.of_own (l := L0 ++ (260, ck) :: uniqT l) (by rw [← hlen, hxs]; exact hownB)
        have FRx := Lib.hid (cframe_any (c0 := c) ⟨t1, t2, t3, t4, t5, t6⟩ 7 0 hTx HTO.out (by rw [← hlen]; have := HUL.out; have := HN0.out; omega) (by rw [← hlen]; exact hcp.1) hcp.2 HSZ.out (by decide) (by decide) (by decide) (by decide) (hf1.blk H.out.st (by simp)))
        rw [← hlen] at FRx
        unfold mcL at FRx
        simp only at FRx
        have HK4 := Lib.hid hf1
        clear hlen hxs hTx hownB hcp hb1 hf1 hHeld
        refine wpAnyH_ready (rs := [6]) (by kernel_rfl) (by simp) ?_
        refine AllReadyH.cons (o := _) rfl (fun K hK => ?_) AllReadyH.nil
        go_simp
        refine FRx.out.mono ?_
        rintro e v7 ⟨q, rfl, hq, hN, hF2⟩
        have hFw := HK4.out.trans hF2
        have hqw := Nat.le_trans HK4.out.size hq
        (try go_wp2_with fail)
        refine hK.out _ _ ?_ (fun hHeld1 => ?_)
        · (try dsimp only); exact HX.out _ ⟨hF2.blk hHeld1.2.1 (by simp), hFw⟩
        clear hK K
        try simp only [Act.put, List.setIfInBounds_toArray, List.set_cons_zero, List.set_cons_succ]
        refine take_yes 7 10 rfl rfl (by kernel_rfl) (by kernel_rfl) (by kernel_rfl) (fun _ _ _ h => h) (by rfl) (by assumption) (v := ?_) ?_ ?_
        rotate_left
        · intro w hSw; (try dsimp only at hSw); go_simp; (try with_reducible rfl)
        try simp only [Act.put, List.setIfInBounds_toArray, List.set_cons_zero, List.set_cons_succ]
        refine wpAnyH_done (by kernel_rfl) ?_ _
        have HZ : Hid (OneP w ⟨t1, t2, t3, t4, t5, t6⟩ c.m 34915 (discB 7 0 (tgsB (L0 ++ (260, ck) :: uniqT l))) [] (.returned (.slice (some ⟨q, 0, none⟩) 1 1)) v7) := Lib.hid ⟨q, rfl, hqw, hN, hFw⟩
        clear hq hN hF2 hFw hqw
        go_wp2_with fail
        go_ret
        rw [HOL.out]
        exact HZ.out
  · have hin2 : sv ∈ os := HIN.out.resolve_left hsv
    have HSV := Lib.hid hsv
    have hie : sv.isEmpty = false := by cases hh : sv.isEmpty with | false => rfl | true => exact absurd (List.isEmpty_iff.1 hh) hsv
    have hie2 : ¬ B sv = B [] := fun e => hsv (by have := congrArg (fun x : ByteArray => x.toList) e; simpa [B_toList] using this)
    have hie3 : (B sv == B []) = false := by
      show ((B sv).data == (B []).data) = false
      rw [beq_eq_false_iff_ne]
      exact fun h => hie2 (ByteArray.ext h)
    have hie4 : (sv == []) = false := by rw [beq_eq_false_iff_ne]; exact hsv
    have e8 := D8.out _ hF0
    have CT1 := Lib.hid (CT.out _ hF0)
    rw [decide_eq_true hin2] at CT1
    clear hin2 hsv
    go_enter Try.func51, Try.ntmps51
    go_wp2_with fail
    refine CT1.out.mono ?_
    rintro e V2 ⟨rfl, hFx⟩
    have hF2 := hF0.trans hFx
    have hN2 := hFx.blk hN0 (by simp)
    have e6 := D6.out _ hF2
    have hOut0 := World.ownsRow_lit (base := w.heap.size) (e := 54) (size := 2) V2 #[.int .i64 258, .string (B c.nm), .int .i64 257, .string (B sv)] 2 hF2.size (by unfold maxLen; omega) rfl
    have hFa := (Fr.refl [] V2).alloc (.cells #[.int .i64 258, .string (B c.nm), .int .i64 257, .string (B sv)] 54 (0, 0))
    have hbm3 := hFa.blk hN2 (by simp)
    have hFw3 := hF2.trans hFa
    clear hFx hF2 hN2 hFa CT1 e8 hF0 hN0
    go_wp2_with fail
    obtain ⟨V3, hV3⟩ : ∃ X, V2.alloc (.cells #[.int .i64 258, .string (B c.nm), .int .i64 257, .string (B sv)] 54 (0, 0)) = X := ⟨_, rfl⟩
    obtain ⟨qo, hqo⟩ : ∃ X, V2.heap.size = X := ⟨_, rfl⟩
    rw [hV3] at hOut0 hbm3 hFw3 ⊢
    rw [hqo] at hOut0 ⊢
    obtain ⟨n0, hn0⟩ : ∃ n : Nat, 2 = n := ⟨_, rfl⟩
    obtain ⟨L0, hL0⟩ : ∃ x : List Tg, [(258, c.nm), (257, sv)] = x := ⟨_, rfl⟩
    have HN0 : Hid (n0 ≤ 10) := Lib.hid (by omega)
    have HNL : Hid (n0 = L0.length) := Lib.hid (by rw [← hL0, ← hn0]; rfl)
    have hOL : offL c.nm sv os ck l = L0 ++ (260, ck) :: uniqT l := by
      unfold offL svcL
      rw [if_neg HSV.out, ← hL0]
    rw [hOL] at HTO0 HSZ0
    have HOL := Lib.hid hOL
    have HTO := HTO0
    have HSZ := HSZ0
    replace hOut0 : V3.ownsRow w.heap.size 54 2 (.slice (some ⟨qo, 0, none⟩) 2 2) n0 (tgF L0) := by rw [← hn0, ← hL0]; exact hOut0
    clear hV3 hqo e6 hV1 hbm hn0 hL0 hOL HTO0 HSZ0
    refine wp_region_held_drew (S := (fun W => (W.cell? ⟨bm, 0, none⟩ = some (.int .u8 t1) ∧ W.cell? ⟨bm, 1, none⟩ = some (.int .u8 t2) ∧ W.cell? ⟨bm, 2, none⟩ = some (.int .u8 t3) ∧ W.cell? ⟨bm, 3, none⟩ = some (.int .u8 t4) ∧ W.cell? ⟨bm, 4, none⟩ = some (.int .u8 t5) ∧ W.cell? ⟨bm, 5, none⟩ = some (.int .u8 t6) ∧ W.cell? ⟨g, 7, none⟩ = some (.string (B c.sec))) ∧ Blk W bm #[.int .u8 t1, .int .u8 t2, .int .u8 t3, .int .u8 t4, .int .u8 t5, .int .u8 t6] 28 ∧ Fr [] w W)) (by kernel_rfl) ?_ (fun hHeld => ?_)
    · (try dsimp only); exact HX.out _ ⟨hbm3.drew, hFw3.drew⟩
    have hOut1 := own_fr0 hOut0 (Fr.refl _ V3).drew
    obtain ⟨v0, hv⟩ : ∃ X, V3.drew = X := ⟨_, rfl⟩
    rw [hv] at hHeld hOut1 ⊢
    clear hv hOut0 hbm3 hFw3
    refine take_yes 0 50 rfl rfl (by kernel_rfl) (by kernel_rfl) (by kernel_rfl) (fun _ _ _ h => h) (by rfl) (by assumption) (v := ?_) ?_ ?_
    rotate_left
    · intro w hSw; (try dsimp only at hSw); go_simp; (try with_reducible rfl)
    try simp only [Act.put, List.setIfInBounds_toArray, List.set_cons_zero, List.set_cons_succ]
    refine take_yes 1 51 rfl rfl (by kernel_rfl) (by kernel_rfl) (by kernel_rfl) (fun _ _ _ h => h) (by rfl) (by assumption) (v := ?_) ?_ ?_
    rotate_left
    · intro w hSw; (try dsimp only at hSw); go_simp; (try with_reducible rfl)
    try simp only [Act.put, List.setIfInBounds_toArray, List.set_cons_zero, List.set_cons_succ]
    refine take_yes 2 52 rfl rfl (by kernel_rfl) (by kernel_rfl) (by kernel_rfl) (fun _ _ _ h => h) (by rfl) (by assumption) (v := ?_) ?_ ?_
    rotate_left
    · intro w hSw; (try dsimp only at hSw); go_simp; (try with_reducible rfl)
    try simp only [Act.put, List.setIfInBounds_toArray, List.set_cons_zero, List.set_cons_succ]
    refine take_yes 3 53 rfl rfl (by kernel_rfl) (by kernel_rfl) (by kernel_rfl) (fun _ _ _ h => h) (by rfl) (by assumption) (v := ?_) ?_ ?_
    rotate_left
    · intro w hSw; (try dsimp only at hSw); go_simp; (try with_reducible rfl)
    try simp only [Act.put, List.setIfInBounds_toArray, List.set_cons_zero, List.set_cons_succ]
    refine take_yes 4 54 rfl rfl (by kernel_rfl) (by kernel_rfl) (by kernel_rfl) (fun _ _ _ h => h) (by rfl) (by assumption) (v := ?_) ?_ ?_
    rotate_left
    · intro w hSw; (try dsimp only at hSw); go_simp; (try with_reducible rfl)
    try simp only [Act.put, List.setIfInBounds_toArray, List.set_cons_zero, List.set_cons_succ]
    refine take_yes 5 55 rfl rfl (by kernel_rfl) (by kernel_rfl) (by kernel_rfl) (fun _ _ _ h => h) (by rfl) (by assumption) (v := ?_) ?_ ?_
    rotate_left
    · intro w hSw; (try dsimp only at hSw); go_simp; (try with_reducible rfl)
    try simp only [Act.put, List.setIfInBounds_toArray, List.set_cons_zero, List.set_cons_succ]
    refine take_yes 6 56 rfl rfl (by kernel_rfl) (by kernel_rfl) (by kernel_rfl) (fun _ _ _ h => h) (by rfl) (by assumption) (v := ?_) ?_ ?_
    rotate_left
    · intro w hSw; (try dsimp only at hSw); go_simp; (try with_reducible rfl)
    try simp only [Act.put, List.setIfInBounds_toArray, List.set_cons_zero, List.set_cons_succ]
    refine take_yes 7 57 rfl rfl (by kernel_rfl) (by kernel_rfl) (by kernel_rfl) (fun _ _ _ h => h) (by rfl) (by assumption) (v := ?_) ?_ ?_
    rotate_left
    · intro w hSw; (try dsimp only at hSw); go_simp; (try with_reducible rfl)
    try simp only [Act.put, List.setIfInBounds_toArray, List.set_cons_zero, List.set_cons_succ]
    refine wpAnyH_ready (rs := [8]) (by kernel_rfl) (by simp) ?_
    refine AllReadyH.cons (o := _) rfl (fun K hK => ?_) AllReadyH.nil
    go_simp
    refine (MK.out _).mono ?_
    rintro e v1 ⟨rfl, hF5⟩
    (try go_wp2_with fail)
    have hb1 := hF5.blk hHeld.2.1 (by simp)
    have hf1 := hHeld.2.2.trans hF5
    replace hOut1 := own_fr0 hOut1 hF5
    refine hK.out _ _ ?_ (fun hHeld1 => ?_)
    · (try dsimp only); exact HX.out _ ⟨hb1, hf1⟩
    clear hK K
    try simp only [Act.put, List.setIfInBounds_toArray, List.set_cons_zero, List.set_cons_succ]
    replace hHeld := hHeld1
    clear hHeld1 hb1 hf1 hF5
    refine take_yes 9 59 rfl rfl (by kernel_rfl) (by kernel_rfl) (by kernel_rfl) (fun _ _ _ h => h) (by rfl) (by assumption) (v := ?_) ?_ ?_
    rotate_left
    · intro w hSw; (try dsimp only at hSw); go_simp; (try with_reducible rfl)
    try simp only [Act.put, List.setIfInBounds_toArray, List.set_cons_zero, List.set_cons_succ]
    refine wpAnyH_ready (rs := [10]) (by kernel_rfl) (by simp) ?_
    refine AllReadyH.cons (o := _) rfl (fun K hK => ?_) AllReadyH.nil
    go_simp
    (try go_wp2_with fail)
    have hFa : Fr [] v1 (v1.alloc (.cells #[.int .i64 260, .string (B ck)] 54 (0, 0))) := (Fr.refl _ _).alloc _
    have hOwnX := World.ownsRow_lit (base := w.heap.size) (e := 54) (size := 2) v1 #[.int .i64 260, .string (B ck)] 1 hHeld.2.2.size (by unfold maxLen; omega) rfl
    replace hOut1 := own_fr0 hOut1 hFa
    have hb1 := hFa.blk hHeld.2.1 (by simp)
    have hf1 := hHeld.2.2.trans hFa
    obtain ⟨v2, hv⟩ : ∃ X, v1.alloc (.cells #[.int .i64 260, .string (B ck)] 54 (0, 0)) = X := ⟨_, rfl⟩
    obtain ⟨qx, hqx⟩ : ∃ q, v1.heap.size = q := ⟨_, rfl⟩
    rw [hv] at hOut1 hOwnX hb1 hf1 ⊢
    rw [hqx] at hOwnX ⊢
    clear hv hqx hFa
    refine hK.out _ _ ?_ (fun hHeld1 => ?_)
    · (try dsimp only); exact HX.out _ ⟨hb1, hf1⟩
    clear hK K
    try simp only [Act.put, List.setIfInBounds_toArray, List.set_cons_zero, List.set_cons_succ]
    replace hHeld := hHeld1
    clear hHeld1 hb1 hf1
    refine wpAnyH_ready (rs := [11]) (by kernel_rfl) (by simp) ?_
    refine AllReadyH.cons (o := _) rfl (fun K hK => ?_) AllReadyH.nil
    rw [if_pos (by rfl)]
    refine app_any _ 61 rfl (.tmp 50) (.tmp 60) 90 rfl w.heap.size 54 i0 (.agg #[.int .i64 0, .string ⟨#[]⟩]) 2 24 Try.underlying90 hi hz0 hz1 hz2 rfl (by decide) _ n0 _ rfl hOut1 _ _ _ _ _ rfl (Reads.of_own hOwnX) (by simp [Value.oneCell']) ?_ ?_ ?_ ?_
    · have := HN0.out; unfold maxLen; omega
    · have := HN0.out; omega
    · exact hHeld.2.2.size
    intro va v3 hownA hgrA hrowA
    have hFg := Fr.of_grown hgrA
    have hb1 := keep_grown hOut1 hFg hHeld.2.1 (by decide)
    have hf1 := hHeld.2.2.grown hgrA (fun q hq => own_new hOut1 q hq)
    clear hFg hgrA hrowA hOut1 hOwnX
    refine hK.out _ _ ?_ (fun hHeld1 => ?_)
    · (try dsimp only); exact HX.out _ ⟨hb1, hf1⟩
    clear hK K
    try simp only [Act.put, List.setIfInBounds_toArray, List.set_cons_zero, List.set_cons_succ]
    refine take_yes 12 11 rfl rfl (by kernel_rfl) (by kernel_rfl) (by kernel_rfl) (fun _ _ _ h => h) (by rfl) (by assumption) (v := ?_) ?_ ?_
    rotate_left
    · intro w hSw; (try dsimp only at hSw); go_simp; (try with_reducible rfl)
    try simp only [Act.put, List.setIfInBounds_toArray, List.set_cons_zero, List.set_cons_succ]
    refine wpAnyH_done (by kernel_rfl) ?_ _
    clear hHeld hHeld1
    obtain ⟨A3, c3, rfl⟩ := own_slice hownA
    go_wp2_with fail
    refine wp_region_held_drew (S := (fun W => (W.cell? ⟨bm, 0, none⟩ = some (.int .u8 t1) ∧ W.cell? ⟨bm, 1, none⟩ = some (.int .u8 t2) ∧ W.cell? ⟨bm, 2, none⟩ = some (.int .u8 t3) ∧ W.cell? ⟨bm, 3, none⟩ = some (.int .u8 t4) ∧ W.cell? ⟨bm, 4, none⟩ = some (.int .u8 t5) ∧ W.cell? ⟨bm, 5, none⟩ = some (.int .u8 t6) ∧ W.cell? ⟨g, 7, none⟩ = some (.string (B c.sec))) ∧ Blk W bm #[.int .u8 t1, .int .u8 t2, .int .u8 t3, .int .u8 t4, .int .u8 t5, .int .u8 t6] 28 ∧ Fr [] w W)) (by kernel_rfl) ?_ (fun hHeld => ?_)
    · (try dsimp only); exact HX.out _ ⟨hb1.drew, hf1.drew⟩
    have hOut1 := own_fr0 hownA (Fr.refl _ v3).drew
    obtain ⟨v4, hv⟩ : ∃ X, v3.drew = X := ⟨_, rfl⟩
    rw [hv] at hHeld hOut1 ⊢
    clear hv hownA hb1 hf1
    refine take_yes 0 62 rfl rfl (by kernel_rfl) (by kernel_rfl) (by kernel_rfl) (fun _ _ _ h => h) (by rfl) (by assumption) (v := ?_) ?_ ?_
    rotate_left
    · intro w hSw; (try dsimp only at hSw); go_simp; (try with_reducible rfl)
    try simp only [Act.put, List.setIfInBounds_toArray, List.set_cons_zero, List.set_cons_succ]
    refine take_yes 1 63 rfl rfl (by kernel_rfl) (by kernel_rfl) (by kernel_rfl) (fun _ _ _ h => h) (by rfl) (by assumption) (v := ?_) ?_ ?_
    rotate_left
    · intro w hSw; (try dsimp only at hSw); go_simp; (try with_reducible rfl)
    try simp only [Act.put, List.setIfInBounds_toArray, List.set_cons_zero, List.set_cons_succ]
    refine take_yes 2 64 rfl rfl (by kernel_rfl) (by kernel_rfl) (by kernel_rfl) (fun _ _ _ h => h) (by rfl) (by assumption) (v := ?_) ?_ ?_
    rotate_left
    · intro w hSw; (try dsimp only at hSw); go_simp; (try with_reducible rfl)
    try simp only [Act.put, List.setIfInBounds_toArray, List.set_cons_zero, List.set_cons_succ]
    refine take_yes 3 65 rfl rfl (by kernel_rfl) (by kernel_rfl) (by kernel_rfl) (fun _ _ _ h => h) (by rfl) (by assumption) (v := ?_) ?_ ?_
    rotate_left
    · intro w hSw; (try dsimp only at hSw); go_simp; (try with_reducible rfl)
    try simp only [Act.put, List.setIfInBounds_toArray, List.set_cons_zero, List.set_cons_succ]
    refine wpAnyH_ready (rs := [4]) (by kernel_rfl) (by simp) ?_
    refine AllReadyH.cons (o := _) rfl (fun K hK => ?_) AllReadyH.nil
    go_simp
    refine (UQ.out _ hHeld.2.2).mono ?_
    rintro e v5 ⟨Au, cu, rfl, hUo0, hF5⟩
    (try go_wp2_with fail)
    have hUo := own_base hUo0 hHeld.2.2.size
    have hb1 := hF5.blk hHeld.2.1 (by simp)
    have hf1 := hHeld.2.2.trans hF5
    replace hOut1 := own_fr0 hOut1 hF5
    refine hK.out _ _ ?_ (fun hHeld1 => ?_)
    · (try dsimp only); exact HX.out _ ⟨hb1, hf1⟩
    clear hK K
    try simp only [Act.put, List.setIfInBounds_toArray, List.set_cons_zero, List.set_cons_succ]
    replace hHeld := hHeld1
    clear hHeld1 hb1 hf1 hF5 hUo0
    refine wpAnyH_ready (rs := [5]) (by kernel_rfl) (by simp) ?_
    refine AllReadyH.cons (o := _) rfl (fun K hK => ?_) AllReadyH.nil
    rw [if_pos (by rfl)]
    refine app_any _ 67 rfl (.tmp 64) (.tmp 66) 90 rfl w.heap.size 54 i0 (.agg #[.int .i64 0, .string ⟨#[]⟩]) 2 24 Try.underlying90 hi hz0 hz1 hz2 rfl (by decide) _ (n0 + 1) _ rfl hOut1 _ _ _ _ _ rfl (Reads.of_own hUo) (tgF_one _) ?_ ?_ ?_ ?_
    · have := HUL.out; have := HN0.out; unfold maxLen; omega
    · have := HUL.out; have := HN0.out; omega
    · exact hHeld.2.2.size
    intro vb v6 hownB hgrB hrowB
    have hFg := Fr.of_grown hgrB
    have hb1 := keep_grown hOut1 hFg hHeld.2.1 (by decide)
    have hf1 := hHeld.2.2.grown hgrB (fun q hq => own_new hOut1 q hq)
    obtain ⟨A1, c1, rfl⟩ := own_slice hownB
    have hcp := own_caps hownB
    clear hFg hgrB hrowB hOut1 hUo
    refine hK.out _ _ ?_ (fun hHeld1 => ?_)
    · (try dsimp only); exact HX.out _ ⟨hb1, hf1⟩
    clear hK K
    try simp only [Act.put, List.setIfInBounds_toArray, List.set_cons_zero, List.set_cons_succ]
    have hlen : n0 + 1 + (uniqT l).length = (L0 ++ (260, ck) :: uniqT l).length := by have := HNL.out; simp; omega
    have hxs : tgF (L0 ++ (260, ck) :: uniqT l) = (tgF L0 ++ [.int .i64 260, .string (B ck)]) ++ tgF (uniqT l) := by simp [tgF, tgL, List.flatMap_append]
    have hTx := TgAt.of_own (l := L0 ++ (260, ck) :: uniqT l) (by rw [← hlen, hxs]; exact hownB)
    have FRx := Lib.hid (cframe_any (c0 := c) ⟨t1, t2, t3, t4, t5, t6⟩ 7 0 hTx HTO.out (by rw [← hlen]; have := HUL.out; have := HN0.out; omega) (by rw [← hlen]; exact hcp.1) hcp.2 HSZ.out (by decide) (by decide) (by decide) (by decide) (hf1.blk H.out.st (by simp)))
    rw [← hlen] at FRx
    unfold mcL at FRx
    simp only at FRx
    have HK4 := Lib.hid hf1
    clear hlen hxs hTx hownB hcp hb1 hf1 hHeld
    refine wpAnyH_ready (rs := [6]) (by kernel_rfl) (by simp) ?_
    refine AllReadyH.cons (o := _) rfl (fun K hK => ?_) AllReadyH.nil
    go_simp
    refine FRx.out.mono ?_
    rintro e v7 ⟨q, rfl, hq, hN, hF2⟩
    have hFw := HK4.out.trans hF2
    have hqw := Nat.le_trans HK4.out.size hq
    (try go_wp2_with fail)
    refine hK.out _ _ ?_ (fun hHeld1 => ?_)
    · (try dsimp only); exact HX.out _ ⟨hF2.blk hHeld1.2.1 (by simp), hFw⟩
    clear hK K
    try simp only [Act.put, List.setIfInBounds_toArray, List.set_cons_zero, List.set_cons_succ]
    refine take_yes 7 10 rfl rfl (by kernel_rfl) (by kernel_rfl) (by kernel_rfl) (fun _ _ _ h => h) (by rfl) (by assumption) (v := ?_) ?_ ?_
    rotate_left
    · intro w hSw; (try dsimp only at hSw); go_simp; (try with_reducible rfl)
    try simp only [Act.put, List.setIfInBounds_toArray, List.set_cons_zero, List.set_cons_succ]
    refine wpAnyH_done (by kernel_rfl) ?_ _
    have HZ : Hid (OneP w ⟨t1, t2, t3, t4, t5, t6⟩ c.m 34915 (discB 7 0 (tgsB (L0 ++ (260, ck) :: uniqT l))) [] (.returned (.slice (some ⟨q, 0, none⟩) 1 1)) v7) := Lib.hid ⟨q, rfl, hqw, hN, hFw⟩
    clear hq hN hF2 hFw hqw
    go_wp2_with fail
    go_ret
    rw [HOL.out]
    exact HZ.out
set_option maxRecDepth 100000 in
set_option maxHeartbeats 4000000 in
theorem offer_no (to : Mc) (sv : List UInt8) {A : Option Addr} {cap : Nat} {l : List Tg} (t : Int)
    {As : Option Addr} {cs : Nat} {os : List (List UInt8)} (hRS : RAt w As 1 strF os) (hos : os.length ≤ 8) (hcs : os.length ≤ cs) (hms : cs ≤ maxLen) (hsv : sv ≠ []) (hin : sv ∉ os)
    (hcsv : c.sv = .slice As os.length cs) (h : CnIs w g c S G) :
    Calls Try.prog 51 #[.pointer (some ⟨g, 0, none⟩), .agg (mcL to).toArray, .string (B sv), .slice A l.length cap, .int .i64 t] w fun e w' => e = .returned (.slice none 0 0) ∧ Fr [] w w' := by
  obtain ⟨t1, t2, t3, t4, t5, t6⟩ := to
  have CT := Lib.hid fun W (hW : Fr [] w W) => hasS_any sv (hRS.fr0 hW) (by omega) hcs hms
  have hF0 := (Fr.refl [] w).alloc (.cells #[.int .u8 t1, .int .u8 t2, .int .u8 t3, .int .u8 t4, .int .u8 t5, .int .u8 t6] 28 (0, 0))
  have e8 : (w.alloc (.cells #[.int .u8 t1, .int .u8 t2, .int .u8 t3, .int .u8 t4, .int .u8 t5, .int .u8 t6] 28 (0, 0))).cell? ⟨g, 8, none⟩ = some (.slice As os.length cs) := by
    have := (hF0.blk h.st (by simp)).c 8 c.sv rfl
    rwa [hcsv] at this
  have CT1 := Lib.hid (CT.out _ hF0)
  rw [decide_eq_false hin] at CT1
  have hie : sv.isEmpty = false := by cases hh : sv.isEmpty with | false => rfl | true => exact absurd (List.isEmpty_iff.1 hh) hsv
  unfold mcL
  simp only
  clear hRS hos hcs hms hin hcsv h CT hsv
  go_enter Try.func51, Try.ntmps51
  go_wp2_with fail
  refine CT1.out.mono ?_
  rintro e V2 ⟨rfl, hFx⟩
  have HF := Lib.hid (hF0.trans hFx)
  clear hFx CT1 e8 hF0
  go_wp2_with fail
  go_ret
  exact ⟨rfl, HF.out⟩
end
end Go.Proofs.Ytcdencpkgfehlaa
