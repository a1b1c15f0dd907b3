/- the program's host: choose (printed by tools/gen_pho3.py). -/
import Derived.Test.YtcdencpkgfehlaaPHo2
import Derived.Test.YtcdencpkgfehlaaBookK
namespace Go.Proofs.Ytcdencpkgfehlaa
open Go.RowKit
set_option linter.unusedVariables false
section
variable {w : World} {g : Nat} {h : Hs} {ck : Value}
set_option maxRecDepth 100000 in
set_option maxHeartbeats 16000000 in
theorem choose_any {A : Option Addr} {cap : Nat} {l : List Tg} (src : Mc) (o : Option (List UInt8)) (hi : HI (h, o)) (hv : (findS l 260).length ≤ 1494) (hown : w.ownsRow 0 54 2 (.slice A l.length cap) l.length (tgF l)) (hl : l.length ≤ 20) (hB : Blk w g (hsC h ck) 92) (hck : CkV w o ck) :
    Calls Try.prog 42 #[.pointer (some ⟨g, 0, none⟩), .agg (mcL src).toArray, .slice A l.length cap] w
      (POut w g (if offB h.sv l = true ∧ mineB h.un l = true then pSayL (pChosen (h, o) src l) else []) (if offB h.sv l = true ∧ mineB h.un l = true then pChosen (h, o) src l else (h, o))) := by
  have hT := TgAt.of_own hown
  have hcc := own_caps hown
  have HAS := Lib.hid fun W (hW : Fr [] w W) => has_any (257, h.sv) (hT.fr0 hW) hl hcc.1 hcc.2
  have MN := Lib.hid fun W (hW : Fr [] w W) => mine_any (hT.fr0 hW) hl hcc.1 hcc.2 (hW.blk hB (by simp))
  have HC6 := Lib.hid fun W (hW : Fr [] w W) => (hW.blk hB (by simp)).c 6 (.string (B h.sv)) rfl
  have HPS : Hid (∀ W, Fr [] w W → PhIs W g (h, o)) := Lib.hid fun W hW => ⟨ck, hW.blk hB (by simp), hck.fr hW (fun q hq => by cases hq)⟩
  rw [show decide ((257, h.sv) ∈ l) = offB h.sv l from rfl] at HAS
  simp only at HAS
  have hHC := hi.chosen src l hv
  obtain ⟨s1, s2, s3, s4, s5, s6⟩ := src
  unfold mcL
  simp only
  have hF0 := (Fr.refl [] w).alloc (.cells #[.int .u8 s1, .int .u8 s2, .int .u8 s3, .int .u8 s4, .int .u8 s5, .int .u8 s6] 28 (0, 0))
  have hN0 := Blk.new w #[.int .u8 s1, .int .u8 s2, .int .u8 s3, .int .u8 s4, .int .u8 s5, .int .u8 s6] 28
  obtain ⟨q0, hq0⟩ : ∃ q, w.heap.size = q := ⟨_, rfl⟩
  obtain ⟨W0, hW0⟩ : ∃ W, w.alloc (.cells #[.int .u8 s1, .int .u8 s2, .int .u8 s3, .int .u8 s4, .int .u8 s5, .int .u8 s6] 28 (0, 0)) = W := ⟨_, rfl⟩
  rw [hq0] at hN0
  rw [hW0] at hN0 hF0
  have d6 := HC6.out _ hF0
  have HOWN := Lib.hid hown
  have HBH := Lib.hid hB
  have HCK := Lib.hid hck
  have hgl := hB.lt
  clear hT hcc hown hB hck
  by_cases hoff : offB h.sv l = true
  · rw [hoff] at HAS
    by_cases hm : mineB h.un l = true
    · rw [hm] at MN
      rw [if_pos ⟨hoff, hm⟩, if_pos ⟨hoff, hm⟩]
      have HPC : Hid (pChosen (h, o) ⟨s1, s2, s3, s4, s5, s6⟩ l = ({ h with st := 2, tk := 0, ag := 0, ss := 0, k := ⟨s1, s2, s3, s4, s5, s6⟩ }, if 0 < findN l 260 then some (findS l 260) else o)) := Lib.hid rfl
      have HHC := Lib.hid hHC
      have HN0 := Lib.hid hN0
      have HF0 := Lib.hid hF0
      have HVL := Lib.hid hv
      have HLL := Lib.hid hl
      clear hN0 hHC hi hoff hm hv hl
      go_enter Try.func42, Try.ntmps42
      go_wp2_with fail
      (try rw [hq0])
      (try rw [hW0])
      refine (HAS.out _ hF0).mono ?_
      rintro e w1 ⟨rfl, hF1⟩
      have HF1 := Lib.hid (HF0.out.trans hF1)
      have HFa := Lib.hid hF1
      clear hF1 HAS d6 hF0 hW0 hq0
      go_wp2_with fail
      refine (MN.out _ HF1.out).mono ?_
      rintro e w2 ⟨rfl, hF2⟩
      have HF2 := Lib.hid (HF1.out.trans hF2)
      have HFb := Lib.hid (HFa.out.trans hF2)
      have EN := Lib.hid (enter_two (HF2.out.blk HBH.out (by simp)))
      clear hF2 MN HC6
      go_wp2_with fail
      refine EN.out.mono ?_
      rintro e w3 ⟨rfl, hB3, hF3⟩
      have hne : q0 ≠ g := fun e => by subst e; exact (HFb.out.blk HN0.out (by simp)).neT (HF2.out.blk HBH.out (by simp)) (by decide) rfl
      have hN3 := hF3.blk (HFb.out.blk HN0.out (by simp)) (by simpa using hne)
      have y0 : w3.cell? ⟨q0, 0, none⟩ = some (.int .u8 s1) := hN3.c 0 _ rfl
      have y1 : w3.cell? ⟨q0, 1, none⟩ = some (.int .u8 s2) := hN3.c 1 _ rfl
      have y2 : w3.cell? ⟨q0, 2, none⟩ = some (.int .u8 s3) := hN3.c 2 _ rfl
      have y3 : w3.cell? ⟨q0, 3, none⟩ = some (.int .u8 s4) := hN3.c 3 _ rfl
      have y4 : w3.cell? ⟨q0, 4, none⟩ = some (.int .u8 s5) := hN3.c 4 _ rfl
      have y5 : w3.cell? ⟨q0, 5, none⟩ = some (.int .u8 s6) := hN3.c 5 _ rfl
      have e11 := hB3.c 11 _ rfl
      have f11 := hB3.fz 11
      have e12 := hB3.c 12 _ rfl
      have f12 := hB3.fz 12
      have e13 := hB3.c 13 _ rfl
      have f13 := hB3.fz 13
      have e14 := hB3.c 14 _ rfl
      have f14 := hB3.fz 14
      have e15 := hB3.c 15 _ rfl
      have f15 := hB3.fz 15
      have e16 := hB3.c 16 _ rfl
      have f16 := hB3.fz 16
      have hB4 : Blk ((((((w3.setCell ⟨g, 11, none⟩ (.int .u8 s1)).setCell ⟨g, 12, none⟩ (.int .u8 s2)).setCell ⟨g, 13, none⟩ (.int .u8 s3)).setCell ⟨g, 14, none⟩ (.int .u8 s4)).setCell ⟨g, 15, none⟩ (.int .u8 s5)).setCell ⟨g, 16, none⟩ (.int .u8 s6)) g (hsC { h with st := 2, tk := 0, ag := 0, ss := 0, k := ⟨s1, s2, s3, s4, s5, s6⟩ } ck) 92 := by
        have := ((((((hB3.set 11 (.int .u8 s1)).set 12 (.int .u8 s2)).set 13 (.int .u8 s3)).set 14 (.int .u8 s4)).set 15 (.int .u8 s5)).set 16 (.int .u8 s6))
        simpa [hsC] using this
      have hF4 := ((((((Fr.refl [g] w3).setCell (p := ⟨g, 11, none⟩) (by simp) (.int .u8 s1)).setCell (p := ⟨g, 12, none⟩) (by simp) (.int .u8 s2)).setCell (p := ⟨g, 13, none⟩) (by simp) (.int .u8 s3)).setCell (p := ⟨g, 14, none⟩) (by simp) (.int .u8 s4)).setCell (p := ⟨g, 15, none⟩) (by simp) (.int .u8 s5)).setCell (p := ⟨g, 16, none⟩) (by simp) (.int .u8 s6)
      obtain ⟨W4, hW4⟩ : ∃ W, ((((((w3.setCell ⟨g, 11, none⟩ (.int .u8 s1)).setCell ⟨g, 12, none⟩ (.int .u8 s2)).setCell ⟨g, 13, none⟩ (.int .u8 s3)).setCell ⟨g, 14, none⟩ (.int .u8 s4)).setCell ⟨g, 15, none⟩ (.int .u8 s5)).setCell ⟨g, 16, none⟩ (.int .u8 s6)) = W := ⟨_, rfl⟩
      rw [hW4] at hB4 hF4
      have HF4 := Lib.hid (((HF2.out.mono (S' := [g]) (by simp)).trans hF3).trans hF4)
      have HB4 := Lib.hid hB4
      have HG : Hid (∀ q, q ∈ [g] → ∀ cur U, Blk w q cur U → U ≠ 54) := Lib.hid fun q hq cur U hc e => by simp at hq; subst hq; exact hc.neT HBH.out (by rw [e]; decide) rfl
      have hown4 := rown_off HOWN.out HF4.out HG.out
      have FD := Lib.hid (find_any 260 (TgAt.of_own hown4) HLL.out (own_caps hown4).1 (own_caps hown4).2)
      have HCK4 := Lib.hid (HCK.out.fr HF4.out HG.out)
      clear hB3 hF3 hN3 hB4 hF4 hown4 EN hne HN0
      go_wp2_with fail
      (try rw [hW4])
      refine FD.out.mono ?_
      rintro e w5 ⟨rfl, hF5⟩
      have hB5 := hF5.blk HB4.out (by simp)
      have hc5 : CkV w5 o ck := HCK4.out.fr hF5 (fun q hq => by cases hq)
      have HF5 := Lib.hid (HF4.out.trans (hF5.mono (S' := [g]) (by simp)))
      have hn20 := findN_le l 260
      obtain ⟨n, hn⟩ : ∃ n, findN l 260 = n := ⟨_, rfl⟩
      obtain ⟨s, hs⟩ : ∃ s, findS l 260 = s := ⟨_, rfl⟩
      rw [hn] at HPC hn20 ⊢
      rw [hs] at HPC HVL ⊢
      have hnb : (n : Int) ≤ 20 := by have := HLL.out; omega
      clear hF5 FD hW4 y0 y1 y2 y3 y4 y5 e11 f11 e12 f12 e13 f13 e14 f14 e15 f15 e16 f16
      by_cases hz : n = 0
      · subst hz
        rw [if_neg (by omega)] at HPC
        have SY := Lib.hid (say_two o (by rw [← HPC.out]; exact HHC.out) rfl hB5 hc5)
        have HP2 : Hid (pSayL (pChosen (h, o) ⟨s1, s2, s3, s4, s5, s6⟩ l) = frameL ⟨s1, s2, s3, s4, s5, s6⟩ h.m 25 0 (askL h.sv h.un o)) := Lib.hid (by rw [HPC.out]; unfold pSayL; rw [if_neg (by show ¬ (2 : Int) = 1; decide)])
        clear hB5 hc5 HHC hn hs hn20
        go_wp2_with fail
        refine SY.out.mono ?_
        rintro e w6 hP
        have HP := Lib.hid (POut.later hP HF5.out)
        obtain ⟨⟨A9, c9, rfl, _, _⟩, _⟩ := hP
        clear SY
        go_wp2_with fail
        go_ret
        rw [HP2.out, HPC.out]
        exact HP.out
      · have hz1 : (0 : Int) < n := by omega
        rw [if_pos (by omega)] at HPC
        have x18 : w5.cell? ⟨g, 18, none⟩ = some ck := hB5.c 18 _ rfl
        have f18 := hB5.fz 18
        have x18b : (w5.alloc (.cells #[.int .i64 260, .string (B s)] 54 (0, 0))).cell? ⟨g, 18, none⟩ = some ck := (hB5.alloc _).c 18 _ rfl
        have f18b := (hB5.alloc (.cells #[.int .i64 260, .string (B s)] 54 (0, 0))).fz 18
        have hB6 : Blk ((w5.setCell ⟨g, 18, none⟩ (.slice (some ⟨w5.heap.size, 0, none⟩) 1 1)).alloc (.cells #[.int .i64 260, .string (B s)] 54 (0, 0))) g (hsC { h with st := 2, tk := 0, ag := 0, ss := 0, k := ⟨s1, s2, s3, s4, s5, s6⟩ } (.slice (some ⟨w5.heap.size, 0, none⟩) 1 1)) 92 := by
          have := (hB5.set 18 (.slice (some ⟨w5.heap.size, 0, none⟩) 1 1)).alloc (.cells #[.int .i64 260, .string (B s)] 54 (0, 0))
          simpa [hsC] using this
        have hg5 := hB5.lt
        have hF6 := ((Fr.refl [g] w5).setCell (p := ⟨g, 18, none⟩) (by simp) (.slice (some ⟨w5.heap.size, 0, none⟩) 1 1)).alloc (.cells #[.int .i64 260, .string (B s)] 54 (0, 0))
        have hsz : (w5.setCell ⟨g, 18, none⟩ (.slice (some ⟨w5.heap.size, 0, none⟩) 1 1)).heap.size = w5.heap.size := by simp
        have hc6 : CkV ((w5.setCell ⟨g, 18, none⟩ (.slice (some ⟨w5.heap.size, 0, none⟩) 1 1)).alloc (.cells #[.int .i64 260, .string (B s)] 54 (0, 0))) (some s) (.slice (some ⟨w5.heap.size, 0, none⟩) 1 1) := by
          have hb := Blk.new (w5.setCell ⟨g, 18, none⟩ (.slice (some ⟨w5.heap.size, 0, none⟩) 1 1)) #[.int .i64 260, .string (B s)] 54
          rw [hsz] at hb
          exact ⟨w5.heap.size, rfl, hb⟩
        have SY := Lib.hid (say_two (some s) (by rw [← HPC.out]; exact HHC.out) rfl hB6 hc6)
        have HF6 := Lib.hid (HF5.out.trans hF6)
        have HG5 := Lib.hid hg5
        have HP2 : Hid (pSayL (pChosen (h, o) ⟨s1, s2, s3, s4, s5, s6⟩ l) = frameL ⟨s1, s2, s3, s4, s5, s6⟩ h.m 25 0 (askL h.sv h.un (some s))) := Lib.hid (by rw [HPC.out]; unfold pSayL; rw [if_neg (by show ¬ (2 : Int) = 1; decide)])
        clear hB5 hc5 hB6 hc6 hF6 hsz HHC hn hs hn20 hz
        go_wp2_with fail
        refine SY.out.mono ?_
        rintro e w6 hP
        have HP := Lib.hid (POut.later hP HF6.out)
        obtain ⟨⟨A9, c9, rfl, _, _⟩, _⟩ := hP
        clear SY
        go_wp2_with fail
        go_ret
        rw [HP2.out, HPC.out]
        exact HP.out
    · have hm2 : mineB h.un l = false := by simpa using hm
      rw [hm2] at MN
      rw [if_neg (fun hh => hm hh.2), if_neg (fun hh => hm hh.2)]
      clear hN0 hHC hi hoff hm hm2 hv hl
      go_enter Try.func42, Try.ntmps42
      go_wp2_with fail
      (try rw [hq0])
      (try rw [hW0])
      refine (HAS.out _ hF0).mono ?_
      rintro e w1 ⟨rfl, hF1⟩
      have HF1 := Lib.hid (hF0.trans hF1)
      clear hF1 HAS d6 hF0 hW0 hq0
      go_wp2_with fail
      refine (MN.out _ HF1.out).mono ?_
      rintro e w2 ⟨rfl, hF2⟩
      have HX : Hid (POut w g [] (h, o) (.returned (.slice none 0 0)) w2) := Lib.hid ⟨OutP.none_ ((HF1.out.trans hF2).mono (by simp)), HPS.out _ (HF1.out.trans hF2)⟩
      clear hF2 MN
      go_wp2_with fail
      go_ret
      exact HX.out
  · have hoff2 : offB h.sv l = false := by simpa using hoff
    rw [hoff2] at HAS
    rw [if_neg (fun hh => hoff hh.1), if_neg (fun hh => hoff hh.1)]
    clear hN0 hHC hi hoff hoff2 hv hl
    go_enter Try.func42, Try.ntmps42
    go_wp2_with fail
    (try rw [hq0])
    (try rw [hW0])
    refine (HAS.out _ hF0).mono ?_
    rintro e w1 ⟨rfl, hF1⟩
    have HX : Hid (POut w g [] (h, o) (.returned (.slice none 0 0)) w1) := Lib.hid ⟨OutP.none_ ((hF0.trans hF1).mono (by simp)), HPS.out _ (hF0.trans hF1)⟩
    clear hF1 HAS d6 hF0 hW0 hq0
    go_wp2_with fail
    go_ret
    exact HX.out
end
end Go.Proofs.Ytcdencpkgfehlaa
