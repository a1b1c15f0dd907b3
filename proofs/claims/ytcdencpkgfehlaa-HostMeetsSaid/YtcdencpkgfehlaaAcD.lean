/- ac: a frame; who asks. -/
import Derived.Test.YtcdencpkgfehlaaAcC
namespace Go.Proofs.Ytcdencpkgfehlaa
open Go.RowKit Go.Maps
set_option linter.unusedVariables false
section
variable {w : World} {g : Nat} {c0 : Cn}
set_option maxRecDepth 100000 in
set_option maxHeartbeats 4000000 in
theorem cframe_any {A : Option Addr} {cap : Nat} {l : List Tg} (k : Mc) (c ss : Int) (hT : TgAt w A l) (hok : ∀ t, t ∈ l → TgOk t) (hl : l.length ≤ 20) (hc : l.length ≤ cap) (hm : cap ≤ maxLen) (hs : (tgsB l).length ≤ 1494) (cc0 : 0 ≤ c) (cc1 : c ≤ 255) (s0 : 0 ≤ ss) (s1 : ss ≤ 65535) (hB : Blk w g (cnC c0) 85) :
    Calls Try.prog 64 #[.pointer (some ⟨g, 0, none⟩), .agg (mcL k).toArray, .int .i64 c, .int .i64 ss, .slice A l.length cap] w (OneP w k c0.m 34915 (discB c ss (tgsB l)) []) := by
  have P1 := Lib.hid fun W (hW : Fr [] w W) => puttags_ok (hT.fr0 hW) hok hl hc hm hs
  have P2 := Lib.hid fun W => tput_ok (w := W) c ss (tgsB l) cc0 cc1 s0 s1 hs
  have CC := Lib.hid fun (i : Nat) (v : Value) (hv : (cnC c0)[i]? = some v) W (hW : Fr [] w W) => (hW.blk hB (by simp)).c i v hv
  obtain ⟨D, hD⟩ : ∃ D, discB c ss (tgsB l) = D := ⟨_, rfl⟩
  obtain ⟨E, hE⟩ : ∃ E, tgsB l = E := ⟨_, rfl⟩
  rw [hD] at P2 ⊢
  rw [hE] at P1 P2
  have hgl := hB.lt
  obtain ⟨⟨m1, m2, m3, m4, m5, m6⟩, nmx, secx, svx, mostx, atx, tkx, lastx, gonex⟩ := c0
  obtain ⟨k1, k2, k3, k4, k5, k6⟩ := k
  have C0 := Lib.hid (CC.out 0 (.int .u8 m1) rfl)
  have C1 := Lib.hid (CC.out 1 (.int .u8 m2) rfl)
  have C2 := Lib.hid (CC.out 2 (.int .u8 m3) rfl)
  have C3 := Lib.hid (CC.out 3 (.int .u8 m4) rfl)
  have C4 := Lib.hid (CC.out 4 (.int .u8 m5) rfl)
  have C5 := Lib.hid (CC.out 5 (.int .u8 m6) rfl)
  unfold mcL
  simp only
  clear hD hE hT hok hl hc hm hs cc0 cc1 s0 s1 hB CC
  go_enter Try.func64, Try.ntmps64
  have hF0 := (Fr.refl [] w).alloc (.cells #[.int .u8 k1, .int .u8 k2, .int .u8 k3, .int .u8 k4, .int .u8 k5, .int .u8 k6] 28 (0, 0))
  have hN0 := Blk.new w #[.int .u8 k1, .int .u8 k2, .int .u8 k3, .int .u8 k4, .int .u8 k5, .int .u8 k6] 28
  go_wp2_with fail
  refine (P1.out _ hF0).mono ?_
  rintro e w1 ⟨rfl, hG1⟩
  have hF1 := hF0.trans hG1
  have hN1 := hG1.blk hN0 (by simp)
  clear hF0 hN0 hG1
  go_wp2_with fail
  refine (P2.out _).mono ?_
  rintro e w2 ⟨rfl, hG2⟩
  have hF2 := hF1.trans hG2
  have hN2 := hG2.blk hN1 (by simp)
  obtain ⟨q, hq⟩ : ∃ q, w.heap.size = q := ⟨_, rfl⟩
  rw [hq] at hN2 ⊢
  have a0 := C0.out _ hF2
  have a1 := C1.out _ hF2
  have a2 := C2.out _ hF2
  have a3 := C3.out _ hF2
  have a4 := C4.out _ hF2
  have a5 := C5.out _ hF2
  have b0 : w2.cell? ⟨q, 0, none⟩ = some (.int .u8 k1) := hN2.c 0 _ rfl
  have b1 : w2.cell? ⟨q, 1, none⟩ = some (.int .u8 k2) := hN2.c 1 _ rfl
  have b2 : w2.cell? ⟨q, 2, none⟩ = some (.int .u8 k3) := hN2.c 2 _ rfl
  have b3 : w2.cell? ⟨q, 3, none⟩ = some (.int .u8 k4) := hN2.c 3 _ rfl
  have b4 : w2.cell? ⟨q, 4, none⟩ = some (.int .u8 k5) := hN2.c 4 _ rfl
  have b5 : w2.cell? ⟨q, 5, none⟩ = some (.int .u8 k6) := hN2.c 5 _ rfl
  have HQ := Lib.hid hq
  have HF2 := Lib.hid hF2
  clear hq hF1 hN1 hG2 hN2 hF2 P1 P2 C0 C1 C2 C3 C4 C5
  go_wp2_with fail
  go_region
  all_goals
    go_wp2_with fail
    go_ret
    exact ⟨w2.heap.size, rfl, HF2.out.size, (Blk.new w2 _ _).drew, (HF2.out.alloc _).drew⟩

def uniqT (l : List Tg) : List Tg := if findN l 259 = 0 then [] else [(259, findS l 259)]
def UniqP (w : World) (l : List Tg) (e : Ending) (w' : World) : Prop := ∃ A cap, e = .returned (.slice A (uniqT l).length cap) ∧ w'.ownsRow w.heap.size 54 2 (.slice A (uniqT l).length cap) (uniqT l).length (tgF (uniqT l)) ∧ Fr [] w w'
set_option maxRecDepth 100000 in
theorem uniq_any {A : Option Addr} {cap : Nat} {l : List Tg} (h : TgAt w A l) (hl : l.length ≤ 20) (hc : l.length ≤ cap) (hm : cap ≤ maxLen) :
    Calls Try.prog 72 #[.slice A l.length cap] w (UniqP w l) := by
  have FI := Lib.hid (find_any 259 h hl hc hm)
  have hU : uniqT l = if findN l 259 = 0 then [] else [(259, findS l 259)] := rfl
  obtain ⟨n, hn⟩ : ∃ n, findN l 259 = n := ⟨_, rfl⟩
  obtain ⟨s, hs⟩ : ∃ s, findS l 259 = s := ⟨_, rfl⟩
  have hnl := findN_le l 259
  rw [hn, hs] at hU FI
  rw [hn] at hnl
  have HU := Lib.hid hU
  have hnb : (n : Int) ≤ 20 := by omega
  clear h hc hm hU hn hs hnl
  by_cases hz : n = 0
  · subst hz
    go_enter Try.func72, Try.ntmps72
    go_wp2_with fail
    refine FI.out.mono ?_
    rintro e w1 ⟨rfl, hF⟩
    have HX : Hid (UniqP w l (.returned (.slice none 0 0)) w1) := Lib.hid (by
      have h1 : uniqT l = [] := by have := HU.out; simpa using this
      unfold UniqP
      rw [h1]
      exact ⟨none, 0, rfl, World.ownsRow_nil _ _ _ _, hF⟩)
    clear hF
    go_wp2_with fail
    go_ret
    exact HX.out
  · have hz2 : ((n : Int) == 0) = false := by simpa using hz
    have HZ := Lib.hid hz
    clear hz
    go_enter Try.func72, Try.ntmps72
    go_wp2_with fail
    refine FI.out.mono ?_
    rintro e w1 ⟨rfl, hF⟩
    have HX : Hid (UniqP w l (.returned (.slice (some ⟨w1.heap.size, 0, none⟩) 1 1)) (w1.alloc (.cells #[.int .i64 259, .string (B s)] 54 (0, 0)))) := Lib.hid (by
      have h1 : uniqT l = [(259, s)] := by have := HU.out; rwa [if_neg HZ.out] at this
      unfold UniqP
      rw [h1]
      exact ⟨_, 1, rfl, World.ownsRow_lit (base := w.heap.size) (e := 54) (size := 2) w1 #[.int .i64 259, .string (B s)] 1 hF.size (by unfold maxLen; omega) rfl, hF.alloc _⟩)
    clear hF
    go_wp2_with fail
    go_ret
    exact HX.out
end
end Go.Proofs.Ytcdencpkgfehlaa
