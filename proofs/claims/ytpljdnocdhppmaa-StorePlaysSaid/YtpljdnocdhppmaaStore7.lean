/- package store: a store with one name; the first call that the document fixes. -/
import Derived.Test.YtpljdnocdhppmaaStore6
namespace Go.Proofs.Ytpljdnocdhppmaa
open Go.RowKit Go.Maps
set_option linter.unusedVariables false

theorem StoreIs.congr {w : World} {g : Nat} {lim calm : Int} {mp : Option Nat} {L : List (Who × Nat)} {K K' : Nat → Kn} (h : StoreIs w g lim calm mp L K) (he : ∀ p, p ∈ L → K' p.2 = K p.2) : StoreIs w g lim calm mp L K' :=
  ⟨h.st, h.mapAt, fun p hp => by rw [he p hp]; exact h.kn p hp, h.nd, h.apart⟩
/-- a store that knows one name -/
def One (w : World) (g bm x : Nat) (lim calm : Int) (who : Who) (k : Kn) : Prop := StoreIs w g lim calm (some bm) [(who, x)] (fun _ => k)
theorem look_one (who : Who) (x : Nat) : look [(who, x)] who = some x := by simp [look]
section
variable {w w' : World} {g x bm : Nat} {lim calm t : Int} {who : Who} {k : Kn}
theorem One.fr0 (h : One w g bm x lim calm who k) (hF : Fr [] w w') : One w' g bm x lim calm who k := StoreIs.fr0 h hF
theorem one_pap (f s : List UInt8) (hf : f.length ≤ 140737488355328) (hs : s.length ≤ 140737488351232) (hw : (spN f, spR f) = who) (h : One w g bm x lim calm who k) (ko : KnOk k) (kl : k.s.length ≤ 60)
    (t0 : -9223372036854775808 ≤ t) (t1 : t ≤ 9223372036854775807) (m0 : 0 ≤ calm) (m1 : calm ≤ 1000) (v : Int) (k' : Kn) (hv : tryE lim calm t (fun k => decide (k.s = s)) (some k) = v) (hk : tryK lim calm t (fun k => decide (k.s = s)) k = k') :
    Calls Try.prog 26 #[.pointer (some ⟨g, 0, none⟩), .string (B f), .string (B s), .int .i64 t] w fun e w' => e = .returned (.int .i64 v) ∧ One w' g bm x lim calm who k' ∧ Fr [x] w w' := by
  have hl : look [(who, x)] (spN f, spR f) = some x := by rw [hw]; exact look_one who x
  refine (pap_any f s hf hs h (fun p hp => by simp at hp; subst hp; exact ko) (fun p hp => by simp at hp; subst hp; exact kl) t0 t1 m0 m1).mono ?_
  rintro e w' ⟨rfl, hS, hF⟩
  rw [hl] at hS ⊢
  refine ⟨rint hv, StoreIs.congr hS (fun p hp => ?_), hF⟩
  simp at hp; subst hp
  simp only [tryKs, kupd, if_true, hk]
theorem one_wrong (f : List UInt8) (hf : f.length ≤ 140737488355328) (hw : (spN f, spR f) = who) (h : One w g bm x lim calm who k) :
    Calls Try.prog 27 #[.pointer (some ⟨g, 0, none⟩), .string (B f)] w fun e w' => e = .returned (.int .i64 k.wr) ∧ Fr [] w w' := by
  have hl : look [(who, x)] (spN f, spR f) = some x := by rw [hw]; exact look_one who x
  have := wrong_any f hf h
  rw [hl] at this
  exact this
theorem one_new (f s : List UInt8) (hf : f.length ≤ 60) (hs : s.length ≤ 60) (s0 : s ≠ []) (hw : (spN f, spR f) = who) {K : Nat → Kn} (h : StoreIs w g lim calm (some bm) [] K) :
    Calls Try.prog 25 #[.pointer (some ⟨g, 0, none⟩), .string (B f), .string (B s)] w fun e w' => ∃ x, e = .returned (.int .i64 0) ∧ w.heap.size ≤ x ∧ One w' g bm x lim calm who ⟨s, 0, 0⟩ ∧ Fr [bm] w w' := by
  refine (set_new f s hf hs s0 rfl (by decide) h).mono ?_
  rintro e w' ⟨x, rfl, hx, hS, hF⟩
  refine ⟨x, rfl, hx, ?_, hF⟩
  rw [hw] at hS
  exact StoreIs.congr hS (fun p hp => by
    have : p = (who, x) := by simpa [put, look] using hp
    subst this
    simp [kupd])
end
set_option maxRecDepth 100000 in
set_option maxHeartbeats 4000000 in
theorem alive15 (w : World) :
    Calls Try.prog 13 #[] w fun e w' => e = .returned (.bool true) ∧ Fr [] w w' := by
  have P1 := Lib.hid (snew_ok (w := w) (lim := 2) (calm := 10) (by decide) (by decide) (by decide) (by decide))
  have SP := Lib.hid fun W => split_any [97, 64, 98, 64, 99] W (by decide)
  rw [show spN [97, 64, 98, 64, 99] = [97, 64, 98] from by decide, show spR [97, 64, 98, 64, 99] = [99] from by decide] at SP
  unfold whoC at SP
  go_enter Try.func13, Try.ntmps13
  go_wp2_with fail
  refine P1.out.mono ?_
  rintro e w1 ⟨g, b, rfl, hg, hb, hS1, hF1⟩
  have HS1 := Lib.hid (one_new (who := ([97], [120])) [97, 64, 120] [112] (by decide) (by decide) (by decide) (by decide) hS1)
  clear hS1 P1
  go_wp2_with fail
  refine HS1.out.mono ?_
  rintro e w2 ⟨x, rfl, hx, hS2, hF2⟩
  have hx' : w.heap.size ≤ x := by have := hF1.size; omega
  have hF3 : Fr [] w w2 := hF1.sub hF2 (fun y hy => by simp at hy; subst hy; exact Or.inr hb)
  clear HS1 hF1 hF2
  have HP := Lib.hid (one_pap (t := 0) (k := ⟨[112], 0, 0⟩) [97, 64, 120] [113] (by decide) (by decide) (by decide) hS2 (by unfold KnOk; decide) (by decide) (by decide) (by decide) (by decide) (by decide) 30 ⟨[112], 1, 0⟩ (by decide) rfl)
  clear hS2
  go_wp2_with fail
  refine HP.out.mono ?_
  rintro e w3 ⟨rfl, hS3, hG⟩
  have hF4 : Fr [] w w3 := hF3.sub hG (fun y hy => by simp at hy; subst hy; exact Or.inr hx')
  clear HP hG hF3
  have HP := Lib.hid (one_pap (t := 0) (k := ⟨[112], 1, 0⟩) [97, 64, 120] [113] (by decide) (by decide) (by decide) hS3 (by unfold KnOk; decide) (by decide) (by decide) (by decide) (by decide) (by decide) 30 ⟨[112], 2, 0⟩ (by decide) rfl)
  clear hS3
  go_wp2_with fail
  refine HP.out.mono ?_
  rintro e w4 ⟨rfl, hS4, hG⟩
  have hF5 : Fr [] w w4 := hF4.sub hG (fun y hy => by simp at hy; subst hy; exact Or.inr hx')
  clear HP hG hF4
  have HP := Lib.hid (one_pap (t := 9) (k := ⟨[112], 2, 0⟩) [97, 64, 120] [112] (by decide) (by decide) (by decide) hS4 (by unfold KnOk; decide) (by decide) (by decide) (by decide) (by decide) (by decide) 20 ⟨[112], 2, 0⟩ (by decide) rfl)
  clear hS4
  go_wp2_with fail
  refine HP.out.mono ?_
  rintro e w5 ⟨rfl, hS5, hG⟩
  have hF6 : Fr [] w w5 := hF5.sub hG (fun y hy => by simp at hy; subst hy; exact Or.inr hx')
  clear HP hG hF5
  have HP := Lib.hid (one_pap (t := 10) (k := ⟨[112], 2, 0⟩) [97, 64, 120] [112] (by decide) (by decide) (by decide) hS5 (by unfold KnOk; decide) (by decide) (by decide) (by decide) (by decide) (by decide) 0 ⟨[112], 0, 0⟩ (by decide) rfl)
  clear hS5
  go_wp2_with fail
  refine HP.out.mono ?_
  rintro e w6 ⟨rfl, hS6, hG⟩
  have hF7 : Fr [] w w6 := hF6.sub hG (fun y hy => by simp at hy; subst hy; exact Or.inr hx')
  clear HP hG hF6
  clear hS6
  go_wp2_with fail
  refine (SP.out _).mono ?_
  rintro e w9 ⟨rfl, hG⟩
  have heq : (Op.equalIn 10000 24 (.agg #[.string (B [97, 64, 98]), .string (B [99])]) (.agg #[.string ⟨#[97, 64, 98]⟩, .string ⟨#[99]⟩])).run Try.prog w9 = .ok true w9 := by kernel_rfl
  go_wp2
  go_ret
  exact ⟨rfl, hF7.trans hG⟩
end Go.Proofs.Ytpljdnocdhppmaa
