/- Several texts in one: Host3, Host4, Host5. -/
import Derived.Test.YtcdencpkgfehlaaHost2
/- host: a frame. -/
namespace Go.Proofs.Ytcdencpkgfehlaa
open Go.RowKit
set_option linter.unusedVariables false
def ethC (k m : Mc) (ty : Int) (d : List UInt8) : Array Value := #[.int .u8 k.a, .int .u8 k.b, .int .u8 k.c, .int .u8 k.d, .int .u8 k.e, .int .u8 k.f, .int .u8 m.a, .int .u8 m.b, .int .u8 m.c, .int .u8 m.d, .int .u8 m.e, .int .u8 m.f, .int .i64 ty, .string (B d)]
/-- one frame is told -/
def OneP (w : World) (k m : Mc) (ty : Int) (d : List UInt8) (S : List Nat) (e : Ending) (w' : World) : Prop := ∃ q, e = .returned (.slice (some ⟨q, 0, none⟩) 1 1) ∧ w.heap.size ≤ q ∧ Blk w' q (ethC k m ty d) 35 ∧ Fr S w w'
section
variable {w : World} {g : Nat} {h : Hs} {ck : Value}
set_option maxRecDepth 100000 in
set_option maxHeartbeats 4000000 in
theorem frame_any {A : Option Addr} {cap : Nat} {l : List Tg} (k : Mc) (c ss : Int) (hT : TgAt w A l) (hok : ∀ t, t ∈ l → TgOk t) (hl : l.length ≤ 20) (hc : l.length ≤ cap) (hm : cap ≤ maxLen) (hs : (tgsB l).length ≤ 1494) (c0 : 0 ≤ c) (c1 : c ≤ 255) (s0 : 0 ≤ ss) (s1 : ss ≤ 65535) (hB : Blk w g (hsC h ck) 92) :
    Calls Try.prog 39 #[.pointer (some ⟨g, 0, none⟩), .agg (mcL k).toArray, .int .i64 c, .int .i64 ss, .slice A l.length cap] w (OneP w k h.m 34915 (discB c ss (tgsB l)) []) := by
  have P1 := Lib.hid fun W (hW : Fr [] w W) => puttags_ok (hT.fr0 hW) hok hl hc hm hs
  have P2 := Lib.hid fun W => tput_ok (w := W) c ss (tgsB l) c0 c1 s0 s1 hs
  have CC := Lib.hid fun (i : Nat) (v : Value) (hv : (hsC h ck)[i]? = some v) W (hW : Fr [] w W) => (hW.blk hB (by simp)).c i v hv
  obtain ⟨D, hD⟩ : ∃ D, discB c ss (tgsB l) = D := ⟨_, rfl⟩
  obtain ⟨E, hE⟩ : ∃ E, tgsB l = E := ⟨_, rfl⟩
  rw [hD] at P2 ⊢
  rw [hE] at P1 P2
  have hgl := hB.lt
  obtain ⟨⟨m1, m2, m3, m4, m5, m6⟩, sv, un, rt, wt, st, kk, sx, tk, ag⟩ := h
  obtain ⟨k1, k2, k3, k4, k5, k6⟩ := k
  have C0 := Lib.hid (CC.out 0 (.int .u8 m1) rfl)
  have C1 := Lib.hid (CC.out 1 (.int .u8 m2) rfl)
  have C2 := Lib.hid (CC.out 2 (.int .u8 m3) rfl)
  have C3 := Lib.hid (CC.out 3 (.int .u8 m4) rfl)
  have C4 := Lib.hid (CC.out 4 (.int .u8 m5) rfl)
  have C5 := Lib.hid (CC.out 5 (.int .u8 m6) rfl)
  unfold mcL
  simp only
  clear hD hE hT hok hl hc hm hs c0 c1 s0 s1 hB CC
  go_enter Try.func39, Try.ntmps39
  have hF0 := (Fr.refl [] w).alloc (.cells #[.int .u8 k1, .int .u8 k2, .int .u8 k3, .int .u8 k4, .int .u8 k5, .int .u8 k6] 28 (0, 0))
  have hN0 := Blk.new w #[.int .u8 k1, .int .u8 k2, .int .u8 k3, .int .u8 k4, .int .u8 k5, .int .u8 k6] 28
  go_wp2_with fail
  refine (P1.out _ hF0).mono ?_
  rintro e w1 ⟨rfl, hG1⟩
  have hF1 := hF0.trans hG1
  have hN1 := hG1.blk hN0 (by simp)
  clear hF0 hN0 hG1
  go_wp2_with fail
  refine (P2.out _).mono ?_
  rintro e w2 ⟨rfl, hG2⟩
  have hF2 := hF1.trans hG2
  have hN2 := hG2.blk hN1 (by simp)
  obtain ⟨q, hq⟩ : ∃ q, w.heap.size = q := ⟨_, rfl⟩
  rw [hq] at hN2 ⊢
  have a0 := C0.out _ hF2
  have a1 := C1.out _ hF2
  have a2 := C2.out _ hF2
  have a3 := C3.out _ hF2
  have a4 := C4.out _ hF2
  have a5 := C5.out _ hF2
  have b0 : w2.cell? ⟨q, 0, none⟩ = some (.int .u8 k1) := hN2.c 0 _ rfl
  have b1 : w2.cell? ⟨q, 1, none⟩ = some (.int .u8 k2) := hN2.c 1 _ rfl
  have b2 : w2.cell? ⟨q, 2, none⟩ = some (.int .u8 k3) := hN2.c 2 _ rfl
  have b3 : w2.cell? ⟨q, 3, none⟩ = some (.int .u8 k4) := hN2.c 3 _ rfl
  have b4 : w2.cell? ⟨q, 4, none⟩ = some (.int .u8 k5) := hN2.c 4 _ rfl
  have b5 : w2.cell? ⟨q, 5, none⟩ = some (.int .u8 k6) := hN2.c 5 _ rfl
  have HQ := Lib.hid hq
  have HF2 := Lib.hid hF2
  clear hq hF1 hN1 hG2 hN2 hF2 P1 P2 C0 C1 C2 C3 C4 C5
  go_wp2_with fail
  go_region
  all_goals
    go_wp2_with fail
    go_ret
    exact ⟨w2.heap.size, rfl, HF2.out.size, (Blk.new w2 _ _).drew, (HF2.out.alloc _).drew⟩
end
end Go.Proofs.Ytcdencpkgfehlaa

/- host: say (while it asks), Start, Tick. -/
namespace Go.Proofs.Ytcdencpkgfehlaa
open Go.RowKit
set_option linter.unusedVariables false
def mcF : Mc := ⟨255, 255, 255, 255, 255, 255⟩
/-- what a host asks -/
def askD (h : Hs) : List UInt8 := discB 9 0 (tgsB (askT h))
def HsOk (h : Hs) : Prop := h.sv.length ≤ 40 ∧ h.un.length ≤ 40
theorem askT_ok (h : Hs) : ∀ t, t ∈ askT h → TgOk t := by
  intro t ht
  unfold askT at ht
  rcases List.mem_cons.1 ht with rfl | ht
  · unfold TgOk; simp only; omega
  · split at ht
    · cases ht
    · simp at ht; subst ht; unfold TgOk; simp only; omega
theorem askT_len (h : Hs) : (askT h).length ≤ 20 := by unfold askT; split <;> simp
theorem askT_size (h : Hs) (hk : HsOk h) : (tgsB (askT h)).length ≤ 1494 := by
  obtain ⟨h1, h2⟩ := hk
  unfold askT tgsB
  split
  · simp [tgB_len]; omega
  · simp [tgB_len]; omega
/-- one frame is told, and the host is h' -/
def SayP (w : World) (g : Nat) (h : Hs) (h' : Hs) (ck : Value) (e : Ending) (w' : World) : Prop := OneP w mcF h.m 34915 (askD h) [g] e w' ∧ Blk w' g (hsC h' ck) 92
section
variable {w : World} {g : Nat} {h : Hs} {ck : Value}
set_option maxRecDepth 100000 in
set_option maxHeartbeats 4000000 in
theorem say_asked (hk : HsOk h) (hst : h.st = 1) (hB : Blk w g (hsC h ck) 92) :
    Calls Try.prog 38 #[.pointer (some ⟨g, 0, none⟩)] w (SayP w g h { h with tk := 0 } ck) := by
  have hB1 : Blk (w.setCell ⟨g, 19, none⟩ (.int .i64 0)) g (hsC { h with tk := 0 } ck) 92 := by
    have := hB.set 19 (.int .i64 0)
    simpa [hsC] using this
  have hF1 := (Fr.refl [g] w).setCell (p := ⟨g, 19, none⟩) (by simp) (.int .i64 0)
  have d19 : w.cell? ⟨g, 19, none⟩ = some (.int .i64 h.tk) := hB.c 19 _ rfl
  have f19 := hB.fz 19
  obtain ⟨W1, hW1⟩ : ∃ W, w.setCell ⟨g, 19, none⟩ (.int .i64 0) = W := ⟨_, rfl⟩
  rw [hW1] at hB1 hF1
  have d10 : W1.cell? ⟨g, 10, none⟩ = some (.int .i64 1) := by have := hB1.c 10 (.int .i64 h.st) rfl; rw [hst] at this; exact this
  have TG := Lib.hid (tags_any hB1)
  have HB1 := Lib.hid hB1
  have HF1 := Lib.hid hF1
  have HK := Lib.hid hk
  have hgl := hB.lt
  clear hB hB1 hF1 hk hst
  go_enter Try.func38, Try.ntmps38
  go_wp2_with fail
  refine TG.out.mono ?_
  rintro e w2 ⟨A, cap, rfl, hT, hc, hm, hG⟩
  have hB2 := hG.blk HB1.out (by simp)
  have FR := Lib.hid (frame_any (h := { h with tk := 0 }) mcF 9 0 hT (askT_ok _) (askT_len _) hc hm (askT_size _ HK.out) (by decide) (by decide) (by decide) (by decide) hB2)
  have HB2 := Lib.hid hB2
  have HF2 := Lib.hid (HF1.out.trans (hG.mono (S' := [g]) (by simp)))
  have HS2 := Lib.hid hG.size
  unfold mcL mcF at FR
  simp only at FR
  clear TG hT hc hm hG hB2
  go_wp2_with fail
  refine FR.out.mono ?_
  rintro e w3 ⟨q, rfl, hq, hN, hF3⟩
  have HX : Hid (SayP w g h { h with tk := 0 } ck (.returned (.slice (some ⟨q, 0, none⟩) 1 1)) w3) := Lib.hid ⟨⟨q, rfl, Nat.le_trans HF2.out.size hq, hN, HF2.out.trans (hF3.mono (S' := [g]) (by simp))⟩, hF3.blk HB2.out (by simp)⟩
  clear FR hq hN hF3
  go_wp2_with fail
  go_ret
  exact HX.out
end
end Go.Proofs.Ytcdencpkgfehlaa

/- host: Start, Tick. -/
namespace Go.Proofs.Ytcdencpkgfehlaa
open Go.RowKit
set_option linter.unusedVariables false
section
variable {w : World} {g : Nat} {h : Hs} {ck : Value}
set_option maxRecDepth 100000 in
set_option maxHeartbeats 4000000 in
theorem start_yes (hk : HsOk h) (hw : h.wt ≠ 0) (hst : h.st = 0 ∨ h.st = 4) (hB : Blk w g (hsC h ck) 92) :
    Calls Try.prog 15 #[.pointer (some ⟨g, 0, none⟩)] w (SayP w g h (entered h 1) (.slice none 0 0)) := by
  have d10 : w.cell? ⟨g, 10, none⟩ = some (.int .i64 h.st) := hB.c 10 _ rfl
  have NO := Lib.hid (hnone_any hB)
  have hwt : (h.wt == 0) = false := by simpa using hw
  rw [hwt] at NO
  have EN := Lib.hid (enter_off 1 (by decide) (by decide) hB)
  have HK := Lib.hid (show HsOk (entered h 1) from hk)
  clear hwt hw hB hk
  rcases hst with hst | hst
  all_goals
    rw [hst] at d10
    clear hst
    go_enter Try.func15, Try.ntmps15
    go_wp2_with fail
    refine NO.out.mono ?_
    rintro e w1 ⟨rfl, rfl⟩
    go_wp2_with fail
    refine EN.out.mono ?_
    rintro e w2 ⟨rfl, hB2, hF2⟩
    have SA := Lib.hid (say_asked (h := entered h 1) HK.out rfl hB2)
    have HF2 := Lib.hid hF2
    clear EN NO hB2 hF2
    go_wp2_with fail
    refine SA.out.mono ?_
    rintro e w3 ⟨⟨q, rfl, hq, hN, hF3⟩, hB3⟩
    have HX : Hid (SayP w1 g h (entered h 1) (.slice none 0 0) (.returned (.slice (some ⟨q, 0, none⟩) 1 1)) w3) := Lib.hid ⟨⟨q, rfl, Nat.le_trans HF2.out.size hq, hN, HF2.out.trans hF3⟩, hB3⟩
    clear SA hq hN hF3 hB3
    go_wp2_with fail
    go_ret
    exact HX.out
set_option maxRecDepth 100000 in
theorem start_no (hw : h.wt ≠ 0) (h0 : h.st ≠ 0) (h4 : h.st ≠ 4) (hB : Blk w g (hsC h ck) 92) :
    Calls Try.prog 15 #[.pointer (some ⟨g, 0, none⟩)] w fun e w' => e = .returned (.slice none 0 0) ∧ w' = w := by
  have d10 : w.cell? ⟨g, 10, none⟩ = some (.int .i64 h.st) := hB.c 10 _ rfl
  have NO := Lib.hid (hnone_any hB)
  have hwt : (h.wt == 0) = false := by simpa using hw
  rw [hwt] at NO
  have n0 : (h.st != 0) = true := by simpa using h0
  have n4 : (h.st != 4) = true := by simpa using h4
  clear hwt hw hB
  go_enter Try.func15, Try.ntmps15
  go_wp2_with fail
  refine NO.out.mono ?_
  rintro e w1 ⟨rfl, rfl⟩
  go_wp2_with fail
  go_ret
  exact ⟨rfl, rfl⟩
end
end Go.Proofs.Ytcdencpkgfehlaa

