/- AcStrange (printed by tools/gen_lawa2.py). -/
import Derived.Test.YtcdencpkgfehlaaAcP
import Derived.Test.YtcdencpkgfehlaaAlive7
import Derived.Test.YtcdencpkgfehlaaAcW
import Derived.Below
namespace Go.Proofs.Ytcdencpkgfehlaa
open Go.RowKit Go.Maps
set_option linter.unusedVariables false
def strT (sv ck u : List UInt8) : List Tg := [(257, sv), (260, ck), (259, u)]
theorem strT_ok (sv ck u : List UInt8) (hl : ck.length + sv.length + u.length ≤ 600) : ∀ x, x ∈ strT sv ck u → TgOk x ∧ x.2.length ≤ 1494 := by
  intro x hx
  simp [strT] at hx
  rcases hx with rfl | rfl | rfl <;> (unfold TgOk; simp only; omega)
theorem strT_size (sv ck u : List UInt8) : (tgsB (strT sv ck u)).length = ck.length + sv.length + u.length + 12 := by
  simp [strT, tgsB, tgB_len]
  omega
def StrP (w : World) (g xa xb : Nat) (gd : Bool) (v : Value) (w' : World) : Prop := ∃ A, ∃ n cap : Nat, v = .slice A n cap ∧ (gd = false → n = 0) ∧ ∃ c' S', CnIs w' g c' S' [] ∧ S'.length ≤ 1 ∧ (gd = false → S' = []) ∧ Fr [g, xa, xb] w w'
theorem strange_step {w : World} {g xa xb : Nat} (h : Mc) (hh : McOk h) (ck sv u : List UInt8) (hl : ck.length + sv.length + u.length ≤ 600) (t : Int) (t0 : -9223372036854775808 ≤ t) (t1 : t ≤ 9223372036854775807) (hC : CnIs w g (cn9 5 xa xb) [] []) :
    Calls Try.prog 24 #[.pointer (some ⟨g, 0, none⟩), .agg (ethC mc9 h 34915 (discB 25 0 (tgsB (strT sv ck u)))), .int .i64 t] w fun e w' => ∃ v, e = .returned v ∧ StrP w g xa xb (ckGood [115] h sv ck t) v w' := by
  by_cases hne : h = mc9
  · subst hne
    refine (take_own (c := cn9 5 xa xb) mc9 _ t hC).mono fun e w' ⟨he, hF⟩ => ?_
    exact ⟨_, he, none, 0, 0, rfl, fun _ => rfl, _, [], hC.fr0 hF, by simp, fun _ => rfl, hF.mono (by simp)⟩
  · have hU : uniqT (strT sv ck u) = [(259, u)] := by simp [uniqT, strT, findN, findS]
    have f1 : findS (strT sv ck u) 257 = sv := rfl
    have f2 : findS (strT sv ck u) 260 = ck := rfl
    have f3 : findS (strT sv ck u) 259 = u := rfl
    refine take_padr (c := cn9 5 xa xb) (S := []) (G := []) (fun v w' => StrP w g xa xb (ckGood [115] h sv ck t) v w') h (strT sv ck u) t hne (strT_ok sv ck u hl) (by simp [strT]) (by rw [strT_size]; omega) rfl (fun W2 A cap h1 h2 h3 h4 => ?_) hC
    rw [f1]
    cases hg : ckGood [115] h sv ck t with
    | false =>
      refine (grant_bad (w := W2) (c := cn9 5 xa xb) h sv t t0 t1 h1 (by simp [strT]) h2 h3 (by simp [strT, findN]) hg (by omega) (by rw [f2]; omega) (by unfold cn9; simp) (hC.fr0 h4)).mono fun e w' ⟨he, hF⟩ => ?_
      exact ⟨_, he, none, 0, 0, rfl, fun _ => rfl, _, [], (hC.fr0 h4).fr0 hF, by simp, fun _ => rfl, (h4.trans hF).mono (by simp)⟩
    | true =>
      by_cases hsv : sv = []
      · refine (grant_ok (w := W2) (c := cn9 5 xa xb) h sv t t0 t1 h1 (by simp [strT]) h2 h3 hh (by simp [strT, findN]) hg (by rw [hU]; simp [tgsB, tgB_len]; omega) (by rw [f3]; omega) (by rw [f2]; omega) (by unfold cn9; simp) (Or.inl hsv) (hC.fr0 h4) (by unfold cn9; simp) (by simp) (by unfold cn9; simp)).mono fun e w' hG => ?_
        unfold GrantP at hG
        rcases hG with ⟨s, hs, _⟩ | ⟨_, _, q, he, hq, hN, hF⟩ | ⟨_, _, _, p, hp, hCn, q, he, hq, hN, hF⟩
        · cases hs
        · exact ⟨_, he, _, 1, 1, rfl, (fun h => by cases h), _, [], (hC.fr0 h4).fr0 hF, by simp, fun _ => rfl, (h4.trans hF).mono (by simp)⟩
        · exact ⟨_, he, _, 1, 1, rfl, (fun h => by cases h), _, _, hCn, by simp, (fun h => by cases h), (h4.mono (by simp)).trans hF⟩
      · refine (grant_un (w := W2) (c := cn9 5 xa xb) h sv t t0 t1 h1 (by simp [strT]) h2 h3 hh (by simp [strT, findN]) hg (by rw [hU]; simp [tgsB, tgB_len]; omega) (by rw [f3]; omega) (by rw [f2]; omega) (by unfold cn9; simp) hsv (fun W _ => strcontains_nil _ W) (hC.fr0 h4)).mono fun e w' hG => ?_
        obtain ⟨q, he, hq, hN, hF⟩ := hG
        exact ⟨_, he, _, 1, 1, rfl, (fun h => by cases h), _, [], (hC.fr0 h4).fr0 hF, by simp, fun _ => rfl, (h4.trans hF).mono (by simp)⟩
set_option maxRecDepth 100000 in
set_option maxHeartbeats 16000000 in
theorem acStrange_walk (w : World) (h : Mc) (hh : McOk h) (ck : ByteArray) (sck : ck.size ≤ 140737488351232) (sv : ByteArray) (ssv : sv.size ≤ 140737488351232) (u : ByteArray) (su : u.size ≤ 140737488351232) (t : Int) (t0 : -9223372036854775808 ≤ t) (t1 : t ≤ 9223372036854775807) :
    Calls Try.prog 8 #[.agg (mcL h).toArray, .string ck, .string sv, .string u, .int .i64 t] w fun e w' => e = .returned (.bool true) ∧ Below w.heap.size w w' := by
  obtain ⟨ck, rfl⟩ : ∃ l, ck = B l := ⟨_, B_of ck⟩
  obtain ⟨sv, rfl⟩ : ∃ l, sv = B l := ⟨_, B_of sv⟩
  obtain ⟨u, rfl⟩ : ∃ l, u = B l := ⟨_, B_of u⟩
  rw [B_size] at sck ssv su
  have AL := Lib.hid fun W => alive7 W
  have SSH := Lib.hid fun W g xa xb (hl : ck.length + sv.length + u.length ≤ 600) (hC : CnIs W g (cn9 5 xa xb) [] []) => strange_step h hh ck sv u hl t t0 t1 hC
  have CK : Hid (∀ s W, s = B [115] → ck.length + sv.length + u.length ≤ 600 → Calls Try.prog 28 #[.string s, .agg (mcL h).toArray, .string (B sv), .string (B ck), .int .i64 t] W fun e w' => e = .returned (.bool (ckGood [115] h sv ck t)) ∧ Fr [] W w') := Lib.hid fun s W hs hl => by
    rw [hs]
    exact check_any [115] h.a h.b h.c h.d h.e h.f sv ck t W t0 t1 (by simp) (by omega) (by omega)
  have AS := Lib.hid fun W q (hl : ck.length + sv.length + u.length ≤ 600) (hT : TgAt W (some ⟨q, 0, none⟩) (strT sv ck u)) => asked_ok (w := W) (cap := 3) h mc9 25 0 hT (fun x hx => (strT_ok sv ck u hl x hx).1) (by simp [strT]) (by simp [strT]) (by unfold maxLen; omega) (by rw [strT_size]; omega) (by decide) (by decide) (by decide) (by decide)
  obtain ⟨gd, hgd⟩ : ∃ x, ckGood [115] h sv ck t = x := ⟨_, rfl⟩
  rw [hgd] at SSH CK
  have hlt : (strT sv ck u).length = 3 := rfl
  rw [hlt] at AS
  obtain ⟨h1, h2, h3, h4, h5, h6⟩ := h
  unfold mcL at CK AS ⊢
  unfold mc9 at AS SSH
  simp only at CK AS ⊢
  have hNh := (Blk.new w #[.int .u8 h1, .int .u8 h2, .int .u8 h3, .int .u8 h4, .int .u8 h5, .int .u8 h6] 28).alloc (.cells #[.int .u8 9, .int .u8 0, .int .u8 0, .int .u8 0, .int .u8 0, .int .u8 0] 28 (0, 0))
  have hNm := Blk.new (w.alloc (.cells #[.int .u8 h1, .int .u8 h2, .int .u8 h3, .int .u8 h4, .int .u8 h5, .int .u8 h6] 28 (0, 0))) #[.int .u8 9, .int .u8 0, .int .u8 0, .int .u8 0, .int .u8 0, .int .u8 0] 28
  rw [show (w.alloc (.cells #[.int .u8 h1, .int .u8 h2, .int .u8 h3, .int .u8 h4, .int .u8 h5, .int .u8 h6] 28 (0, 0))).heap.size = w.heap.size + 1 by simp] at hNm
  have hF := ((Fr.refl [] w).alloc (.cells #[.int .u8 h1, .int .u8 h2, .int .u8 h3, .int .u8 h4, .int .u8 h5, .int .u8 h6] 28 (0, 0))).alloc (.cells #[.int .u8 9, .int .u8 0, .int .u8 0, .int .u8 0, .int .u8 0, .int .u8 0] 28 (0, 0))
  have hF0 := (Fr.refl [] w).alloc (.cells #[.int .u8 h1, .int .u8 h2, .int .u8 h3, .int .u8 h4, .int .u8 h5, .int .u8 h6] 28 (0, 0))
  have hsz : ((w.alloc (.cells #[.int .u8 h1, .int .u8 h2, .int .u8 h3, .int .u8 h4, .int .u8 h5, .int .u8 h6] 28 (0, 0))).alloc (.cells #[.int .u8 9, .int .u8 0, .int .u8 0, .int .u8 0, .int .u8 0, .int .u8 0] 28 (0, 0))).heap.size = w.heap.size + 2 := by simp
  have HF := Lib.hid hF
  have HF0 := Lib.hid hF0
  have HNH := Lib.hid hNh
  have HNM := Lib.hid hNm
  have HSZ := Lib.hid hsz
  clear hh hgd hlt hNh hNm hF hF0 hsz t0 t1
  by_cases hb : (600 : Int) < (ck.length : Int) + sv.length + u.length
  · go_enter Try.func8, Try.ntmps8
    go_wp2_with fail
    refine (AL.out _).mono ?_
    rintro e w1 ⟨rfl, hF1⟩
    have hF2 := HF0.out.trans hF1
    go_wp2_with fail
    go_ret
    exact ⟨rfl, hF2.below (Nat.le_refl _) (by simp)⟩
  · have HLL : Hid (ck.length + sv.length + u.length ≤ 600) := Lib.hid (by omega)
    have NW := Lib.hid fun W => cnew_ok (w := W) mc9 5 (by decide) (by decide)
    unfold mcL B at NW
    rw [show mc9 = ⟨9, 0, 0, 0, 0, 0⟩ from rfl] at NW
    simp only at NW
    go_enter Try.func8, Try.ntmps8
    go_wp2_with fail
    refine (NW.out _).mono ?_
    rintro e w1 ⟨g, xa, xb, rfl, hg, hxa, hxb, hC, hF1⟩
    have hgs : w.heap.size + 2 ≤ g ∧ w.heap.size + 2 ≤ xa ∧ w.heap.size + 2 ≤ xb := by rw [HSZ.out] at hg hxa hxb; exact ⟨hg, hxa, hxb⟩
    have bh := hF1.blk HNH.out (by simp)
    have bm := hF1.blk HNM.out (by simp)
    have hFw := HF.out.trans hF1
    obtain ⟨qh, hqh⟩ : ∃ q, w.heap.size = q := ⟨_, rfl⟩
    obtain ⟨qm, hqm⟩ : ∃ q, qh + 1 = q := ⟨_, rfl⟩
    rw [hqh] at bh bm hgs ⊢
    rw [hqm] at bm ⊢
    have HGS : Hid (w.heap.size ≤ g ∧ w.heap.size ≤ xa ∧ w.heap.size ≤ xb) := Lib.hid (by omega)
    have HC1 : Hid (CnIs w1 g (cn9 5 xa xb) [] []) := Lib.hid hC
    have HB := Lib.hid (And.intro bh (And.intro bm hFw))
    obtain ⟨z0, z1, z2, z3, z4, z5, z6, z7, z8, z9, z10, z11⟩ : w1.cell? ⟨qh, 0, none⟩ = some (.int .u8 h1) ∧ w1.cell? ⟨qh, 1, none⟩ = some (.int .u8 h2) ∧ w1.cell? ⟨qh, 2, none⟩ = some (.int .u8 h3) ∧ w1.cell? ⟨qh, 3, none⟩ = some (.int .u8 h4) ∧ w1.cell? ⟨qh, 4, none⟩ = some (.int .u8 h5) ∧ w1.cell? ⟨qh, 5, none⟩ = some (.int .u8 h6) ∧ w1.cell? ⟨qm, 0, none⟩ = some (.int .u8 9) ∧ w1.cell? ⟨qm, 1, none⟩ = some (.int .u8 0) ∧ w1.cell? ⟨qm, 2, none⟩ = some (.int .u8 0) ∧ w1.cell? ⟨qm, 3, none⟩ = some (.int .u8 0) ∧ w1.cell? ⟨qm, 4, none⟩ = some (.int .u8 0) ∧ w1.cell? ⟨qm, 5, none⟩ = some (.int .u8 0) := ⟨HB.out.1.c 0 _ rfl, HB.out.1.c 1 _ rfl, HB.out.1.c 2 _ rfl, HB.out.1.c 3 _ rfl, HB.out.1.c 4 _ rfl, HB.out.1.c 5 _ rfl, HB.out.2.1.c 0 _ rfl, HB.out.2.1.c 1 _ rfl, HB.out.2.1.c 2 _ rfl, HB.out.2.1.c 3 _ rfl, HB.out.2.1.c 4 _ rfl, HB.out.2.1.c 5 _ rfl⟩
    clear hg hxa hxb hF1 hqh hqm hgs NW hC bh bm hFw
    go_wp2_with fail
    refine (CK.out _ _ rfl HLL.out).mono ?_
    rintro e w2 ⟨rfl, hF2⟩
    have HC2 := Lib.hid (HC1.out.fr0 hF2)
    have HB2 := Lib.hid (And.intro (hF2.blk HB.out.1 (by simp)) (And.intro (hF2.blk HB.out.2.1 (by simp)) (HB.out.2.2.trans hF2)))
    clear z0 z1 z2 z3 z4 z5 z6 z7 z8 z9 z10 z11 hF2 HC1 HB
    obtain ⟨z0, z1, z2, z3, z4, z5, z6, z7, z8, z9, z10, z11⟩ : w2.cell? ⟨qh, 0, none⟩ = some (.int .u8 h1) ∧ w2.cell? ⟨qh, 1, none⟩ = some (.int .u8 h2) ∧ w2.cell? ⟨qh, 2, none⟩ = some (.int .u8 h3) ∧ w2.cell? ⟨qh, 3, none⟩ = some (.int .u8 h4) ∧ w2.cell? ⟨qh, 4, none⟩ = some (.int .u8 h5) ∧ w2.cell? ⟨qh, 5, none⟩ = some (.int .u8 h6) ∧ w2.cell? ⟨qm, 0, none⟩ = some (.int .u8 9) ∧ w2.cell? ⟨qm, 1, none⟩ = some (.int .u8 0) ∧ w2.cell? ⟨qm, 2, none⟩ = some (.int .u8 0) ∧ w2.cell? ⟨qm, 3, none⟩ = some (.int .u8 0) ∧ w2.cell? ⟨qm, 4, none⟩ = some (.int .u8 0) ∧ w2.cell? ⟨qm, 5, none⟩ = some (.int .u8 0) := ⟨HB2.out.1.c 0 _ rfl, HB2.out.1.c 1 _ rfl, HB2.out.1.c 2 _ rfl, HB2.out.1.c 3 _ rfl, HB2.out.1.c 4 _ rfl, HB2.out.1.c 5 _ rfl, HB2.out.2.1.c 0 _ rfl, HB2.out.2.1.c 1 _ rfl, HB2.out.2.1.c 2 _ rfl, HB2.out.2.1.c 3 _ rfl, HB2.out.2.1.c 4 _ rfl, HB2.out.2.1.c 5 _ rfl⟩
    have hTg : TgAt (w2.alloc (.cells #[.int .i64 257, .string (B sv), .int .i64 260, .string (B ck), .int .i64 259, .string (B u)] 54 (0, 0))) (some ⟨w2.heap.size, 0, none⟩) (strT sv ck u) := TgAt.of_own (base := 0) (cap := 3) (World.ownsRow_lit (base := 0) (e := 54) (size := 2) w2 #[.int .i64 257, .string (B sv), .int .i64 260, .string (B ck), .int .i64 259, .string (B u)] 3 (Nat.zero_le _) (by unfold maxLen; omega) rfl)
    have HFa := Lib.hid ((Fr.refl [] w2).alloc (.cells #[.int .i64 257, .string (B sv), .int .i64 260, .string (B ck), .int .i64 259, .string (B u)] 54 (0, 0)))
    have AS2 := Lib.hid (AS.out _ _ HLL.out hTg)
    clear hTg
    go_wp2_with fail
    refine AS2.out.mono ?_
    rintro e w3 ⟨rfl, hF3⟩
    have HC3 := Lib.hid (HC2.out.fr0 (HFa.out.trans hF3))
    have HF3 := Lib.hid (HB2.out.2.2.trans (HFa.out.trans hF3))
    clear z0 z1 z2 z3 z4 z5 z6 z7 z8 z9 z10 z11 hF3 AS2 HC2 HB2 HFa
    have ST := Lib.hid (SSH.out w3 g xa xb HLL.out HC3.out)
    go_wp2_with fail
    refine ST.out.mono ?_
    rintro e w4 ⟨v, rfl, A, n, cap, rfl, hn, c', S', hC4, hS1, hS2, hF4⟩
    have HC4 := Lib.hid hC4
    have HF4 := Lib.hid (HF3.out.sub hF4 (by
      have := HGS.out
      intro x hx
      simp at hx
      right
      omega))
    have HN := Lib.hid (And.intro hn hS2)
    have LV := Lib.hid fun W (hW : Fr [] w4 W) => live_ok (hC4.fr0 hW) (by omega)
    have HS1 := Lib.hid hS1
    clear ST hn hC4 hS1 hS2 hF4 HF3 HC3
    go_wp2_with fail
    refine (AL.out _).mono ?_
    rintro e w5 ⟨rfl, hF5⟩
    have LV5 := Lib.hid (LV.out _ hF5)
    go_wp2_with fail
    refine LV5.out.mono ?_
    rintro e w6 ⟨A2, cap2, L, rfl, hLp, _, _, _, _, hF6⟩
    have hLl : (L.length : Int) ≤ 1 := by have := hLp.length_eq; have := HS1.out; omega
    have hL1 : L.length ≤ 1 := by omega
    have hF7 := hF5.trans hF6
    have HF7 := Lib.hid hF7
    clear LV5 hLp hF5 hF6
    cases gd with
    | true =>
      clear hF7 LV
      go_wp2_with fail
      go_ret
      exact ⟨rfl, (HF4.out.trans HF7.out).below (Nat.le_refl _) (by simp)⟩
    | false =>
      have hn0 : n = 0 := HN.out.1 rfl
      have hS0 : S' = [] := HN.out.2 rfl
      subst hn0 hS0
      have LV7 := Lib.hid (LV.out _ hF7)
      clear LV hF7
      go_wp2_with fail
      refine LV7.out.mono ?_
      rintro e w8 ⟨A3, cap3, L3, rfl, hLp3, _, _, _, _, hF8⟩
      have h0 : L3.length = 0 := by have := hLp3.length_eq; simpa using this
      have HF8 := Lib.hid (HF7.out.trans hF8)
      rw [h0]
      clear LV7 hLp3 hF8
      go_wp2_with fail
      go_ret
      exact ⟨rfl, (HF4.out.trans HF8.out).below (Nat.le_refl _) (by simp)⟩
end Go.Proofs.Ytcdencpkgfehlaa
