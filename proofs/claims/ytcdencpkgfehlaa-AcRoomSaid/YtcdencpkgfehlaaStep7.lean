/- ac: a right request taken. -/
import Derived.Test.YtcdencpkgfehlaaPadr
namespace Go.Proofs.Ytcdencpkgfehlaa
open Go.RowKit Go.Maps
set_option linter.unusedVariables false
def StepP (w : World) (g : Nat) (c : Cn) (S : List Ses) (G : List Idk) (h : Mc) (u : List UInt8) (e : Ending) (w' : World) : Prop :=
  ∃ q d, e = .returned (.slice (some ⟨q, 0, none⟩) 1 1) ∧ w.heap.size ≤ q ∧ Blk w' q (ethC h mc9 34915 d) 35 ∧
    ((∃ s, s ∈ S ∧ Fits h u s ∧ CnIs w' g c S G ∧ Fr [] w w') ∨ ((∀ s, s ∈ S → ¬ Fits h u s) ∧ (c.most ≤ S.length ∨ 2 ≤ ofCard S h) ∧ CnIs w' g c S G ∧ Fr [] w w') ∨
    ((∀ s, s ∈ S → ¬ Fits h u s) ∧ (S.length : Int) < c.most ∧ ofCard S h < 2 ∧ ∃ p, w.heap.size ≤ p ∧ CnIs w' g { c with last := c.last + 1 } (S ++ [⟨h, c.last + 1, u, false, p⟩]) G ∧ Fr [g, c.at_, c.tk] w w'))
theorem take_step {w : World} {g : Nat} {c : Cn} {S : List Ses} {G : List Idk} (h : Mc) (u : List UInt8) (hh : McOk h) (hne : h ≠ mc9) (hu : u.length ≤ 1000) (hm : c.m = mc9) (hs : c.sec = [115]) (hC : CnIs w g c S G) (hl : c.last < 60000) (hS : S.length < 1000) (hmo : c.most ≤ 100000) :
    Calls Try.prog 24 #[.pointer (some ⟨g, 0, none⟩), .agg (ethC mc9 h 34915 (discB 25 0 (tgsB (padT h u)))), .int .i64 6] w (StepP w g c S G h u) := by
  have hck : (ckOf h 0).length = 16 := md5_length _
  have hU : uniqT (padT h u) = [(259, u)] := by simp [uniqT, padT, findN, findS]
  have := take_padr (w := w) (c := c) (S := S) (G := G) (fun v w' => StepP w g c S G h u (.returned v) w') h (padT h u) 6 (by rw [hm]; exact hne) (padT_ok h u hu) (by simp [padT]) (by rw [padT_size]; omega) rfl (fun W2 A cap h1 h2 h3 h4 => by
    have f1 : findS (padT h u) 257 = [] := rfl
    have f2 : findS (padT h u) 260 = ckOf h 0 := rfl
    have f3 : findS (padT h u) 259 = u := rfl
    rw [f1]
    have hg := grant_ok (w := W2) (c := c) h [] 6 (by decide) (by decide) h1 (by simp [padT]) h2 h3 hh (by simp [padT, findN]) (by
      rw [f2, hs]
      unfold ckGood
      rw [show md5 (cookL (6 / 64) [h.a, h.b, h.c, h.d, h.e, h.f] [] [115]) = ckOf h 0 from rfl]
      simp [sameB]) (by rw [hU]; simp [tgsB, tgB_len]; omega) (by rw [f3]; omega) (by rw [f2, hck]; omega) (by rw [hs]; simp) (Or.inl rfl) (hC.fr0 h4) hl hS hmo
    rw [f3, hU] at hg
    refine hg.mono fun e w' hG => ?_
    unfold GrantP at hG
    rcases hG with ⟨s, hs, hf, q, he, hq, hN, hF⟩ | ⟨hn, hr, q, he, hq, hN, hF⟩ | ⟨hn, h5, h6, p, hp, hCn, q, he, hq, hN, hF⟩
    · exact ⟨_, he, q, _, rfl, Nat.le_trans h4.size hq, (by rw [← hm]; exact hN), Or.inl ⟨s, hs, hf, (hC.fr0 h4).fr0 hF, h4.trans hF⟩⟩
    · exact ⟨_, he, q, _, rfl, Nat.le_trans h4.size hq, (by rw [← hm]; exact hN), Or.inr (Or.inl ⟨hn, hr, (hC.fr0 h4).fr0 hF, h4.trans hF⟩)⟩
    · exact ⟨_, he, q, _, rfl, Nat.le_trans h4.size hq, (by rw [← hm]; exact hN), Or.inr (Or.inr ⟨hn, h5, h6, p, Nat.le_trans h4.size hp, hCn, (h4.mono (by simp)).trans hF⟩)⟩) hC
  rw [hm] at this
  exact this.mono fun e w' ⟨v, he, hR⟩ => by rw [he]; exact hR
end Go.Proofs.Ytcdencpkgfehlaa
