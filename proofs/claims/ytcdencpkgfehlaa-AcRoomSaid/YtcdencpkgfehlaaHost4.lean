/- host: say (while it asks), Start, Tick. -/
import Derived.Test.YtcdencpkgfehlaaHost3
namespace Go.Proofs.Ytcdencpkgfehlaa
open Go.RowKit
set_option linter.unusedVariables false
def mcF : Mc := ⟨255, 255, 255, 255, 255, 255⟩
/-- what a host asks -/
def askD (h : Hs) : List UInt8 := discB 9 0 (tgsB (askT h))
def HsOk (h : Hs) : Prop := h.sv.length ≤ 40 ∧ h.un.length ≤ 40
theorem askT_ok (h : Hs) : ∀ t, t ∈ askT h → TgOk t := by
  intro t ht
  unfold askT at ht
  rcases List.mem_cons.1 ht with rfl | ht
  · unfold TgOk; simp only; omega
  · split at ht
    · cases ht
    · simp at ht; subst ht; unfold TgOk; simp only; omega
theorem askT_len (h : Hs) : (askT h).length ≤ 20 := by unfold askT; split <;> simp
theorem askT_size (h : Hs) (hk : HsOk h) : (tgsB (askT h)).length ≤ 1494 := by
  obtain ⟨h1, h2⟩ := hk
  unfold askT tgsB
  split
  · simp [tgB_len]; omega
  · simp [tgB_len]; omega
/-- one frame is told, and the host is h' -/
def SayP (w : World) (g : Nat) (h : Hs) (h' : Hs) (ck : Value) (e : Ending) (w' : World) : Prop := OneP w mcF h.m 34915 (askD h) [g] e w' ∧ Blk w' g (hsC h' ck) 92
section
variable {w : World} {g : Nat} {h : Hs} {ck : Value}
set_option maxRecDepth 100000 in
set_option maxHeartbeats 4000000 in
theorem say_asked (hk : HsOk h) (hst : h.st = 1) (hB : Blk w g (hsC h ck) 92) :
    Calls Try.prog 38 #[.pointer (some ⟨g, 0, none⟩)] w (SayP w g h { h with tk := 0 } ck) := by
  have hB1 : Blk (w.setCell ⟨g, 19, none⟩ (.int .i64 0)) g (hsC { h with tk := 0 } ck) 92 := by
    have := hB.set 19 (.int .i64 0)
    simpa [hsC] using this
  have hF1 := (Fr.refl [g] w).setCell (p := ⟨g, 19, none⟩) (by simp) (.int .i64 0)
  have d19 : w.cell? ⟨g, 19, none⟩ = some (.int .i64 h.tk) := hB.c 19 _ rfl
  have f19 := hB.fz 19
  obtain ⟨W1, hW1⟩ : ∃ W, w.setCell ⟨g, 19, none⟩ (.int .i64 0) = W := ⟨_, rfl⟩
  rw [hW1] at hB1 hF1
  have d10 : W1.cell? ⟨g, 10, none⟩ = some (.int .i64 1) := by have := hB1.c 10 (.int .i64 h.st) rfl; rw [hst] at this; exact this
  have TG := Lib.hid (tags_any hB1)
  have HB1 := Lib.hid hB1
  have HF1 := Lib.hid hF1
  have HK := Lib.hid hk
  have hgl := hB.lt
  clear hB hB1 hF1 hk hst
  go_enter Try.func38, Try.ntmps38
  go_wp2_with fail
  refine TG.out.mono ?_
  rintro e w2 ⟨A, cap, rfl, hT, hc, hm, hG⟩
  have hB2 := hG.blk HB1.out (by simp)
  have FR := Lib.hid (frame_any (h := { h with tk := 0 }) mcF 9 0 hT (askT_ok _) (askT_len _) hc hm (askT_size _ HK.out) (by decide) (by decide) (by decide) (by decide) hB2)
  have HB2 := Lib.hid hB2
  have HF2 := Lib.hid (HF1.out.trans (hG.mono (S' := [g]) (by simp)))
  have HS2 := Lib.hid hG.size
  unfold mcL mcF at FR
  simp only at FR
  clear TG hT hc hm hG hB2
  go_wp2_with fail
  refine FR.out.mono ?_
  rintro e w3 ⟨q, rfl, hq, hN, hF3⟩
  have HX : Hid (SayP w g h { h with tk := 0 } ck (.returned (.slice (some ⟨q, 0, none⟩) 1 1)) w3) := Lib.hid ⟨⟨q, rfl, Nat.le_trans HF2.out.size hq, hN, HF2.out.trans (hF3.mono (S' := [g]) (by simp))⟩, hF3.blk HB2.out (by simp)⟩
  clear FR hq hN hF3
  go_wp2_with fail
  go_ret
  exact HX.out
end
end Go.Proofs.Ytcdencpkgfehlaa
