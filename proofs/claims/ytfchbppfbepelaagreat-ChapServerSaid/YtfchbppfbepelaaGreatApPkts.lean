/- the book: is what was answered apart? Only Options, Packets have lists here (printed by tools/gen_apinst.py). -/
import Derived.Test.YtfchbppfbepelaaGreatBkOptions
import Derived.Test.YtfchbppfbepelaaGreatBkPackets
import Derived.Test.YtfchbppfbepelaaGreatBkD1
import Derived.Test.YtfchbppfbepelaaGreatApAny
namespace Go.Proofs.YtfchbppfbepelaaGreat
open Go.RowKit
set_option linter.unusedVariables false
def apPkts0 (w0 : World) (b : Nat) (Fb : Nat → Value) (k8 : List (Bl (Int × List UInt8))) (k10 : List (Bl (Int × Int × List UInt8))) (ws8 : List Value) (ws10 : List Value) : World → Prop := fun w => Blk w b (bkC Fb) 52 ∧ Fr [] w0 w ∧ optKd w (Fb 8) k8 ∧ optWs w (Fb 9) k8 ws8 ∧ pkKd w (Fb 10) k10 ∧ pkWs w (Fb 11) k10 ws10
def apPkts1 (w0 : World) (b : Nat) (Fb : Nat → Value) (k8 : List (Bl (Int × List UInt8))) (k10 : List (Bl (Int × Int × List UInt8))) : Nat → World → Prop := fun j w => Blk w b (bkC Fb) 52 ∧ Fr [] w0 w ∧ optKd w (Fb 8) (if 8 < j then (putT optM k8 k8.length) else k8) ∧ pkKd w (Fb 10) (if 0 < j then (putT pkM k10 k10.length) else k10)
def apPkts2 (w0 : World) (b : Nat) (Fb : Nat → Value) (k8 : List (Bl (Int × List UInt8))) (k10 : List (Bl (Int × Int × List UInt8))) : List Value → World → Prop := fun gs w => Blk w b (bkC Fb) 52 ∧ Fr [] w0 w ∧ (∀ (j : Nat) g, gs[j]? = some g → j ∉ ([4, 5] : List Nat) → g = .slice none 0 0) ∧ optKd w (Fb 8) (putT optM k8 k8.length) ∧ (∀ g, gs[4]? = some g → ∃ A c gl, g = .slice A k8.length c ∧ optLs w g gl ∧ Mk optM gl ∧ gl.length = k8.length ∧ ∀ l, l ∈ gl → l.xs.length ≤ 2072) ∧ pkKd w (Fb 10) (putT pkM k10 k10.length) ∧ (∀ g, gs[5]? = some g → ∃ A c gl, g = .slice A k10.length c ∧ pkLs w g gl ∧ Mk pkM gl ∧ gl.length = k10.length ∧ ∀ l, l ∈ gl → l.xs.length ≤ 2072)
section
variable {w0 w w' : World} {b : Nat} {Fb : Nat → Value} {k8 : List (Bl (Int × List UInt8))} {ws8 : List Value} {k10 : List (Bl (Int × Int × List UInt8))} {ws10 : List Value}
theorem apPkts0.fr (h : apPkts0 w0 b Fb k8 k10 ws8 ws10 w) (hF : Fr [] w w') : apPkts0 w0 b Fb k8 k10 ws8 ws10 w' := by
  obtain ⟨hB, h0, hK8, hW8, hK10, hW10⟩ := h
  exact ⟨hF.blk hB (by simp), h0.trans hF, hK8.fr0 hF, hW8.fr0 hF, hK10.fr0 hF, hW10.fr0 hF⟩
theorem apPkts1.fr {j : Nat} (h : apPkts1 w0 b Fb k8 k10 j w) (hF : Fr [] w w') : apPkts1 w0 b Fb k8 k10 j w' := by
  obtain ⟨hB, h0, hK8, hK10⟩ := h
  exact ⟨hF.blk hB (by simp), h0.trans hF, hK8.fr0 hF, hK10.fr0 hF⟩
theorem apPkts1.on {j : Nat} (h : apPkts1 w0 b Fb k8 k10 j w) (hj : j ∉ ([8, 0] : List Nat)) : apPkts1 w0 b Fb k8 k10 (j + 1) w := by
  obtain ⟨hB, h0, hK8, hK10⟩ := h
  simp at hj
  refine ⟨hB, h0, ?_, ?_⟩
  · have : (8 < j + 1) ↔ (8 < j) := by omega
    simp only [this]; exact hK8
  · have : (0 < j + 1) ↔ (0 < j) := by omega
    simp only [this]; exact hK10
theorem apPkts2.fr {gs : List Value} (h : apPkts2 w0 b Fb k8 k10 gs w) (hF : Fr [] w w') : apPkts2 w0 b Fb k8 k10 gs w' := by
  obtain ⟨hB, h0, hD, hK8, hG8, hK10, hG10⟩ := h
  exact ⟨hF.blk hB (by simp), h0.trans hF, hD, hK8.fr0 hF, (fun g hg => by obtain ⟨A, c, gl, e, h1, h2⟩ := hG8 g hg; exact ⟨A, c, gl, e, h1.fr0 hF, h2⟩), hK10.fr0 hF, (fun g hg => by obtain ⟨A, c, gl, e, h1, h2⟩ := hG10 g hg; exact ⟨A, c, gl, e, h1.fr0 hF, h2⟩)⟩
theorem apPkts2.dead {gs : List Value} (h : apPkts2 w0 b Fb k8 k10 gs w) (hF : Fr [] w w') (hl : gs.length ∉ ([4, 5] : List Nat)) : apPkts2 w0 b Fb k8 k10 (gs ++ [.slice none 0 0]) w' := by
  obtain ⟨hB, h0, hD, hK8, hG8, hK10, hG10⟩ := h.fr hF
  simp at hl
  refine ⟨hB, h0, fun j g hg hj => ?_, hK8, (fun g hg => ?_), hK10, (fun g hg => ?_)⟩
  · rcases snoc_at hg with h1 | ⟨_, h1⟩
    · exact hD j g h1 hj
    · exact h1
  · rcases snoc_at hg with h1 | ⟨h2, _⟩
    · exact hG8 g h1
    · omega
  · rcases snoc_at hg with h1 | ⟨h2, _⟩
    · exact hG10 g h1
    · omega
theorem apPkts2.growOptions {gs : List Value} {A : Option Addr} {c : Nat} {gl : List (Bl (Int × List UInt8))} (h : apPkts2 w0 b Fb k8 k10 gs w) (hO : GrO 316 54 2 optF optM w w' (Fb 8) (putT optM k8 k8.length) gl (.slice A (putT optM k8 k8.length).length c) (putT optM k8 k8.length).length) (hl : gs.length = 4) (hbk8 : ∀ u, u ∈ k8 → ∀ q, u.v.ownBlock = some q → w0.heap.size ≤ q) : apPkts2 w0 b Fb k8 k10 (gs ++ [.slice A (putT optM k8 k8.length).length c]) w' := by
  obtain ⟨hB, h0, hD, hK8, hG8, hK10, hG10⟩ := h
  have hL : (putT optM k8 k8.length).length = k8.length := putT_len _ _ _
  refine ⟨hO.fr.blk hK8 hB (by decide), FrL.out0 h0 hO.fr (putT_own hbk8), fun j g hg hj => ?_, hO.kd, (fun g hg => ?_), hK10.offL hO.fr hK8 (by decide) (by decide), (fun g hg => ?_)⟩
  · rcases snoc_at hg with h1 | ⟨h2, _⟩
    · exact hD j g h1 hj
    · subst h2; rw [hl] at hj; exact absurd (by decide) hj
  · rcases snoc_at hg with h1 | ⟨_, h1⟩
    · exact absurd (List.getElem?_eq_some_iff.1 h1).1 (by omega)
    · subst h1
      refine ⟨A, c, gl, by rw [hL], hO.toLs, hO.gm, by rw [← hL]; exact hO.gn, hO.gx⟩
  · rcases snoc_at hg with h1 | ⟨h2, _⟩
    · obtain ⟨A2, c2, gl2, e, h3, h4⟩ := hG10 g h1
      exact ⟨A2, c2, gl2, e, h3.offL hO.fr hK8 (by decide) (by decide), h4⟩
    · omega
theorem apPkts2.growPackets {gs : List Value} {A : Option Addr} {c : Nat} {gl : List (Bl (Int × Int × List UInt8))} (h : apPkts2 w0 b Fb k8 k10 gs w) (hO : GrO 56 53 4 pkF pkM w w' (Fb 10) (putT pkM k10 k10.length) gl (.slice A (putT pkM k10 k10.length).length c) (putT pkM k10 k10.length).length) (hl : gs.length = 5) (hbk10 : ∀ u, u ∈ k10 → ∀ q, u.v.ownBlock = some q → w0.heap.size ≤ q) : apPkts2 w0 b Fb k8 k10 (gs ++ [.slice A (putT pkM k10 k10.length).length c]) w' := by
  obtain ⟨hB, h0, hD, hK8, hG8, hK10, hG10⟩ := h
  have hL : (putT pkM k10 k10.length).length = k10.length := putT_len _ _ _
  refine ⟨hO.fr.blk hK10 hB (by decide), FrL.out0 h0 hO.fr (putT_own hbk10), fun j g hg hj => ?_, hK8.offL hO.fr hK10 (by decide) (by decide), (fun g hg => ?_), hO.kd, (fun g hg => ?_)⟩
  · rcases snoc_at hg with h1 | ⟨h2, _⟩
    · exact hD j g h1 hj
    · subst h2; rw [hl] at hj; exact absurd (by decide) hj
  · rcases snoc_at hg with h1 | ⟨h2, _⟩
    · obtain ⟨A2, c2, gl2, e, h3, h4⟩ := hG8 g h1
      exact ⟨A2, c2, gl2, e, h3.offL hO.fr hK10 (by decide) (by decide), h4⟩
    · omega
  · rcases snoc_at hg with h1 | ⟨_, h1⟩
    · exact absurd (List.getElem?_eq_some_iff.1 h1).1 (by omega)
    · subst h1
      refine ⟨A, c, gl, by rw [hL], hO.toLs, hO.gm, by rw [← hL]; exact hO.gn, hO.gx⟩
theorem apPkts_H {AL8 : Option Addr} {cl8 : Nat} {AL10 : Option Addr} {cl10 : Nat} (hd0 : Fb 0 = .slice none 0 0) (hd2 : Fb 2 = .slice none 0 0) (hd4 : Fb 4 = .slice none 0 0) (hd6 : Fb 6 = .slice none 0 0) (hd12 : Fb 12 = .slice none 0 0) (hd14 : Fb 14 = .slice none 0 0) (hd16 : Fb 16 = .slice none 0 0) (hd18 : Fb 18 = .slice none 0 0) (hd20 : Fb 20 = .slice none 0 0) (hd22 : Fb 22 = .slice none 0 0) (hd24 : Fb 24 = .slice none 0 0) (hd26 : Fb 26 = .slice none 0 0) (hd28 : Fb 28 = .slice none 0 0) (hd30 : Fb 30 = .slice none 0 0) (hd32 : Fb 32 = .slice none 0 0) (hd34 : Fb 34 = .slice none 0 0) (hI8 : Fb 8 = .slice AL8 k8.length cl8) (hn8 : k8.length ≤ 250) (hbk8 : ∀ u, u ∈ k8 → ∀ q, u.v.ownBlock = some q → w0.heap.size ≤ q) (hI10 : Fb 10 = .slice AL10 k10.length cl10) (hn10 : k10.length ≤ 250) (hbk10 : ∀ u, u ∈ k10 → ∀ q, u.v.ownBlock = some q → w0.heap.size ≤ q) : ApH b (apPkts0 w0 b Fb k8 k10 ws8 ws10) (apPkts1 w0 b Fb k8 k10) (apPkts2 w0 b Fb k8 k10) (fun i => if i = 4 then AL8 else if i = 5 then AL10 else none) (fun i => if i = 4 then k8.length else if i = 5 then k10.length else 0) (fun i => if i = 4 then cl8 else if i = 5 then cl10 else 0) where
  sTexts h := (stillTexts_dead h.1 hd0).mono fun e w' q => ⟨q.1, apPkts0.fr h q.2⟩
  sInts h := (stillInts_dead h.1 hd2).mono fun e w' q => ⟨q.1, apPkts0.fr h q.2⟩
  sEthers h := (stillEthers_dead h.1 hd4).mono fun e w' q => ⟨q.1, apPkts0.fr h q.2⟩
  sTags h := (stillTags_dead h.1 hd6).mono fun e w' q => ⟨q.1, apPkts0.fr h q.2⟩
  sOptions h := by
    obtain ⟨hB, h0, hK8, hW8, hK10, hW10⟩ := h
    exact (opt_still hB hK8 hW8 hn8).mono fun e w' q => ⟨q.1, apPkts0.fr (show apPkts0 w0 b Fb k8 k10 ws8 ws10 _ from ⟨hB, h0, hK8, hW8, hK10, hW10⟩) q.2⟩
  sPackets h := by
    obtain ⟨hB, h0, hK8, hW8, hK10, hW10⟩ := h
    exact (pk_still hB hK10 hW10 hn10).mono fun e w' q => ⟨q.1, apPkts0.fr (show apPkts0 w0 b Fb k8 k10 ws8 ws10 _ from ⟨hB, h0, hK8, hW8, hK10, hW10⟩) q.2⟩
  sAvps h := (stillAvps_dead h.1 hd12).mono fun e w' q => ⟨q.1, apPkts0.fr h q.2⟩
  sCtls h := (stillCtls_dead h.1 hd14).mono fun e w' q => ⟨q.1, apPkts0.fr h q.2⟩
  sKeys h := (stillKeys_dead h.1 hd16).mono fun e w' q => ⟨q.1, apPkts0.fr h q.2⟩
  sSessions h := (stillSessions_dead h.1 hd18).mono fun e w' q => ⟨q.1, apPkts0.fr h q.2⟩
  sIds h := (stillIds_dead h.1 hd20).mono fun e w' q => ⟨q.1, apPkts0.fr h q.2⟩
  sGrams h := (stillGrams_dead h.1 hd22).mono fun e w' q => ⟨q.1, apPkts0.fr h q.2⟩
  sSays h := (stillSays_dead h.1 hd24).mono fun e w' q => ⟨q.1, apPkts0.fr h q.2⟩
  sItems h := (stillItems_dead h.1 hd26).mono fun e w' q => ⟨q.1, apPkts0.fr h q.2⟩
  sLines h := (stillLines_dead h.1 hd28).mono fun e w' q => ⟨q.1, apPkts0.fr h q.2⟩
  sSeats h := (stillSeats_dead h.1 hd30).mono fun e w' q => ⟨q.1, apPkts0.fr h q.2⟩
  sEvents h := (stillEvents_dead h.1 hd32).mono fun e w' q => ⟨q.1, apPkts0.fr h q.2⟩
  sSteps h := (stillSteps_dead h.1 hd34).mono fun e w' q => ⟨q.1, apPkts0.fr h q.2⟩
  t1 h := by
    obtain ⟨hB, h0, hK8, hW8, hK10, hW10⟩ := h
    exact ⟨hB, h0, hK8, hK10⟩
  pPackets h := by
    obtain ⟨hB, h0, hK8, hK10⟩ := h
    refine (pk_put hB (show pkKd _ (Fb 10) k10 from hK10) hn10).mono ?_
    rintro e w' ⟨rfl, hK, hF⟩
    have hKo : pkKd _ (Fb 10) k10 := hK10
    exact ⟨rfl, hF.blk hKo hB (by decide), FrL.out0 h0 hF hbk10, hK8.offL hF hKo (by decide) (by decide), hK⟩
  pCtls h := (putCtls_dead h.1 hd14).mono fun e w' q => ⟨q.1, apPkts1.on (apPkts1.fr h q.2) (by decide)⟩
  pSays h := (putSays_dead h.1 hd24).mono fun e w' q => ⟨q.1, apPkts1.on (apPkts1.fr h q.2) (by decide)⟩
  pSteps h := (putSteps_dead h.1 hd34).mono fun e w' q => ⟨q.1, apPkts1.on (apPkts1.fr h q.2) (by decide)⟩
  pTexts h := (putTexts_dead h.1 hd0).mono fun e w' q => ⟨q.1, apPkts1.on (apPkts1.fr h q.2) (by decide)⟩
  pInts h := (putInts_dead h.1 hd2).mono fun e w' q => ⟨q.1, apPkts1.on (apPkts1.fr h q.2) (by decide)⟩
  pEthers h := (putEthers_dead h.1 hd4).mono fun e w' q => ⟨q.1, apPkts1.on (apPkts1.fr h q.2) (by decide)⟩
  pTags h := (putTags_dead h.1 hd6).mono fun e w' q => ⟨q.1, apPkts1.on (apPkts1.fr h q.2) (by decide)⟩
  pOptions h := by
    obtain ⟨hB, h0, hK8, hK10⟩ := h
    refine (opt_put hB (show optKd _ (Fb 8) k8 from hK8) hn8).mono ?_
    rintro e w' ⟨rfl, hK, hF⟩
    have hKo : optKd _ (Fb 8) k8 := hK8
    exact ⟨rfl, hF.blk hKo hB (by decide), FrL.out0 h0 hF hbk8, hK, hK10.offL hF hKo (by decide) (by decide)⟩
  pAvps h := (putAvps_dead h.1 hd12).mono fun e w' q => ⟨q.1, apPkts1.on (apPkts1.fr h q.2) (by decide)⟩
  pKeys h := (putKeys_dead h.1 hd16).mono fun e w' q => ⟨q.1, apPkts1.on (apPkts1.fr h q.2) (by decide)⟩
  pSessions h := (putSessions_dead h.1 hd18).mono fun e w' q => ⟨q.1, apPkts1.on (apPkts1.fr h q.2) (by decide)⟩
  pIds h := (putIds_dead h.1 hd20).mono fun e w' q => ⟨q.1, apPkts1.on (apPkts1.fr h q.2) (by decide)⟩
  pGrams h := (putGrams_dead h.1 hd22).mono fun e w' q => ⟨q.1, apPkts1.on (apPkts1.fr h q.2) (by decide)⟩
  pItems h := (putItems_dead h.1 hd26).mono fun e w' q => ⟨q.1, apPkts1.on (apPkts1.fr h q.2) (by decide)⟩
  pLines h := (putLines_dead h.1 hd28).mono fun e w' q => ⟨q.1, apPkts1.on (apPkts1.fr h q.2) (by decide)⟩
  pSeats h := (putSeats_dead h.1 hd30).mono fun e w' q => ⟨q.1, apPkts1.on (apPkts1.fr h q.2) (by decide)⟩
  pEvents h := (putEvents_dead h.1 hd32).mono fun e w' q => ⟨q.1, apPkts1.on (apPkts1.fr h q.2) (by decide)⟩
  t2 h := by
    obtain ⟨hB, h0, hK8, hK10⟩ := h
    exact ⟨hB, h0, (fun j g hg => by simp at hg), hK8, (fun g hg => by simp at hg), hK10, (fun g hg => by simp at hg)⟩
  gTexts h := (growTexts_dead h.1 hd0).mono fun e w' q => ⟨_, q.1, apPkts2.dead h q.2 (by simp)⟩
  gInts h := (growInts_dead h.1 hd2).mono fun e w' q => ⟨_, q.1, apPkts2.dead h q.2 (by simp)⟩
  gEthers h := (growEthers_dead h.1 hd4).mono fun e w' q => ⟨_, q.1, apPkts2.dead h q.2 (by simp)⟩
  gTags h := (growTags_dead h.1 hd6).mono fun e w' q => ⟨_, q.1, apPkts2.dead h q.2 (by simp)⟩
  gOptions {w} g0 g1 g2 g3 h := by
    obtain ⟨hB, h0, hD, hK8, hG8, hK10, hG10⟩ := h
    refine (opt_grow hB hK8 (putT_mk _ _) (by rw [putT_len]; exact hn8)).mono ?_
    rintro e w' ⟨A, c, gl, rfl, hO⟩
    exact ⟨_, rfl, apPkts2.growOptions (show apPkts2 w0 b Fb k8 k10 [g0, g1, g2, g3] _ from ⟨hB, h0, hD, hK8, hG8, hK10, hG10⟩) hO rfl hbk8⟩
  gPackets {w} g0 g1 g2 g3 g4 h := by
    obtain ⟨hB, h0, hD, hK8, hG8, hK10, hG10⟩ := h
    refine (pk_grow hB hK10 (putT_mk _ _) (by rw [putT_len]; exact hn10)).mono ?_
    rintro e w' ⟨A, c, gl, rfl, hO⟩
    exact ⟨_, rfl, apPkts2.growPackets (show apPkts2 w0 b Fb k8 k10 [g0, g1, g2, g3, g4] _ from ⟨hB, h0, hD, hK8, hG8, hK10, hG10⟩) hO rfl hbk10⟩
  gAvps h := (growAvps_dead h.1 hd12).mono fun e w' q => ⟨_, q.1, apPkts2.dead h q.2 (by simp)⟩
  gCtls h := (growCtls_dead h.1 hd14).mono fun e w' q => ⟨_, q.1, apPkts2.dead h q.2 (by simp)⟩
  gKeys h := (growKeys_dead h.1 hd16).mono fun e w' q => ⟨_, q.1, apPkts2.dead h q.2 (by simp)⟩
  gSessions h := (growSessions_dead h.1 hd18).mono fun e w' q => ⟨_, q.1, apPkts2.dead h q.2 (by simp)⟩
  gIds h := (growIds_dead h.1 hd20).mono fun e w' q => ⟨_, q.1, apPkts2.dead h q.2 (by simp)⟩
  gGrams h := (growGrams_dead h.1 hd22).mono fun e w' q => ⟨_, q.1, apPkts2.dead h q.2 (by simp)⟩
  gSays h := (growSays_dead h.1 hd24).mono fun e w' q => ⟨_, q.1, apPkts2.dead h q.2 (by simp)⟩
  gItems h := (growItems_dead h.1 hd26).mono fun e w' q => ⟨_, q.1, apPkts2.dead h q.2 (by simp)⟩
  gLines h := (growLines_dead h.1 hd28).mono fun e w' q => ⟨_, q.1, apPkts2.dead h q.2 (by simp)⟩
  gSeats h := (growSeats_dead h.1 hd30).mono fun e w' q => ⟨_, q.1, apPkts2.dead h q.2 (by simp)⟩
  gEvents h := (growEvents_dead h.1 hd32).mono fun e w' q => ⟨_, q.1, apPkts2.dead h q.2 (by simp)⟩
  gSteps h := (growSteps_dead h.1 hd34).mono fun e w' q => ⟨_, q.1, apPkts2.dead h q.2 (by simp)⟩
  mTexts {w} g0 g1 g2 g3 g4 g5 g6 g7 g8 g9 g10 g11 g12 g13 g14 g15 g16 g17 h := by
    obtain rfl := h.2.2.1 0 g0 rfl (by decide)
    exact (markedTexts_dead).mono fun e w' q => ⟨q.1, apPkts2.fr h q.2⟩
  nTexts h := (markedTexts_dead).mono fun e w' q => ⟨q.1, apPkts2.fr h q.2⟩
  xTexts {w} g0 g1 g2 g3 g4 g5 g6 g7 g8 g9 g10 g11 g12 g13 g14 g15 g16 g17 h := by
    have : w.cell? ⟨b, 0, none⟩ = some (Fb 0) := h.1.c 0 _ rfl
    rw [hd0] at this
    exact this
  mInts {w} g0 g1 g2 g3 g4 g5 g6 g7 g8 g9 g10 g11 g12 g13 g14 g15 g16 g17 h := by
    obtain rfl := h.2.2.1 1 g1 rfl (by decide)
    exact (markedInts_dead).mono fun e w' q => ⟨q.1, apPkts2.fr h q.2⟩
  nInts h := (markedInts_dead).mono fun e w' q => ⟨q.1, apPkts2.fr h q.2⟩
  xInts {w} g0 g1 g2 g3 g4 g5 g6 g7 g8 g9 g10 g11 g12 g13 g14 g15 g16 g17 h := by
    have : w.cell? ⟨b, 2, none⟩ = some (Fb 2) := h.1.c 2 _ rfl
    rw [hd2] at this
    exact this
  mEthers {w} g0 g1 g2 g3 g4 g5 g6 g7 g8 g9 g10 g11 g12 g13 g14 g15 g16 g17 h := by
    obtain rfl := h.2.2.1 2 g2 rfl (by decide)
    exact (markedEthers_dead).mono fun e w' q => ⟨q.1, apPkts2.fr h q.2⟩
  nEthers h := (markedEthers_dead).mono fun e w' q => ⟨q.1, apPkts2.fr h q.2⟩
  xEthers {w} g0 g1 g2 g3 g4 g5 g6 g7 g8 g9 g10 g11 g12 g13 g14 g15 g16 g17 h := by
    have : w.cell? ⟨b, 4, none⟩ = some (Fb 4) := h.1.c 4 _ rfl
    rw [hd4] at this
    exact this
  mTags {w} g0 g1 g2 g3 g4 g5 g6 g7 g8 g9 g10 g11 g12 g13 g14 g15 g16 g17 h := by
    obtain rfl := h.2.2.1 3 g3 rfl (by decide)
    exact (markedTags_dead).mono fun e w' q => ⟨q.1, apPkts2.fr h q.2⟩
  nTags h := (markedTags_dead).mono fun e w' q => ⟨q.1, apPkts2.fr h q.2⟩
  xTags {w} g0 g1 g2 g3 g4 g5 g6 g7 g8 g9 g10 g11 g12 g13 g14 g15 g16 g17 h := by
    have : w.cell? ⟨b, 6, none⟩ = some (Fb 6) := h.1.c 6 _ rfl
    rw [hd6] at this
    exact this
  mOptions {w} g0 g1 g2 g3 g4 g5 g6 g7 g8 g9 g10 g11 g12 g13 g14 g15 g16 g17 h := by
    obtain ⟨A, c, gl, e1, h1, h2, h3, h4⟩ : ∃ A c gl, g4 = .slice A k8.length c ∧ optLs w g4 gl ∧ Mk optM gl ∧ gl.length = k8.length ∧ ∀ l, l ∈ gl → l.xs.length ≤ 2072 := by
      obtain ⟨hB, h0, hD, hK8, hG8, hK10, hG10⟩ := h
      exact hG8 g4 rfl
    subst e1
    exact (opt_markedn gl _ h3 _ _ h1 h2 hn8 h4).mono fun e w' q => ⟨q.1, apPkts2.fr h q.2⟩
  nOptions {w} g0 g1 g2 g3 g4 g5 g6 g7 g8 g9 g10 g11 g12 g13 g14 g15 g16 g17 h := by
    have hK : optKd w (Fb 8) (putT optM k8 k8.length) := by
      obtain ⟨hB, h0, hD, hK8, hG8, hK10, hG10⟩ := h
      exact hK8
    have hL := hK.toLs
    rw [hI8] at hL
    exact (opt_markedn (putT optM k8 k8.length) k8.length (putT_len _ _ _) AL8 cl8 hL (putT_mk _ _) hn8 (fun l hl => Nat.le_trans (hK.sm l hl) (by decide))).mono fun e w' q => ⟨q.1, apPkts2.fr h q.2⟩
  xOptions {w} g0 g1 g2 g3 g4 g5 g6 g7 g8 g9 g10 g11 g12 g13 g14 g15 g16 g17 h := by
    have : w.cell? ⟨b, 8, none⟩ = some (Fb 8) := h.1.c 8 _ rfl
    rw [hI8] at this
    exact this
  mPackets {w} g0 g1 g2 g3 g4 g5 g6 g7 g8 g9 g10 g11 g12 g13 g14 g15 g16 g17 h := by
    obtain ⟨A, c, gl, e1, h1, h2, h3, h4⟩ : ∃ A c gl, g5 = .slice A k10.length c ∧ pkLs w g5 gl ∧ Mk pkM gl ∧ gl.length = k10.length ∧ ∀ l, l ∈ gl → l.xs.length ≤ 2072 := by
      obtain ⟨hB, h0, hD, hK8, hG8, hK10, hG10⟩ := h
      exact hG10 g5 rfl
    subst e1
    exact (pk_markedn gl _ h3 _ _ h1 h2 hn10 h4).mono fun e w' q => ⟨q.1, apPkts2.fr h q.2⟩
  nPackets {w} g0 g1 g2 g3 g4 g5 g6 g7 g8 g9 g10 g11 g12 g13 g14 g15 g16 g17 h := by
    have hK : pkKd w (Fb 10) (putT pkM k10 k10.length) := by
      obtain ⟨hB, h0, hD, hK8, hG8, hK10, hG10⟩ := h
      exact hK10
    have hL := hK.toLs
    rw [hI10] at hL
    exact (pk_markedn (putT pkM k10 k10.length) k10.length (putT_len _ _ _) AL10 cl10 hL (putT_mk _ _) hn10 (fun l hl => Nat.le_trans (hK.sm l hl) (by decide))).mono fun e w' q => ⟨q.1, apPkts2.fr h q.2⟩
  xPackets {w} g0 g1 g2 g3 g4 g5 g6 g7 g8 g9 g10 g11 g12 g13 g14 g15 g16 g17 h := by
    have : w.cell? ⟨b, 10, none⟩ = some (Fb 10) := h.1.c 10 _ rfl
    rw [hI10] at this
    exact this
  mAvps {w} g0 g1 g2 g3 g4 g5 g6 g7 g8 g9 g10 g11 g12 g13 g14 g15 g16 g17 h := by
    obtain rfl := h.2.2.1 6 g6 rfl (by decide)
    exact (markedAvps_dead).mono fun e w' q => ⟨q.1, apPkts2.fr h q.2⟩
  nAvps h := (markedAvps_dead).mono fun e w' q => ⟨q.1, apPkts2.fr h q.2⟩
  xAvps {w} g0 g1 g2 g3 g4 g5 g6 g7 g8 g9 g10 g11 g12 g13 g14 g15 g16 g17 h := by
    have : w.cell? ⟨b, 12, none⟩ = some (Fb 12) := h.1.c 12 _ rfl
    rw [hd12] at this
    exact this
  mCtls {w} g0 g1 g2 g3 g4 g5 g6 g7 g8 g9 g10 g11 g12 g13 g14 g15 g16 g17 h := by
    obtain rfl := h.2.2.1 7 g7 rfl (by decide)
    exact (markedCtls_dead).mono fun e w' q => ⟨q.1, apPkts2.fr h q.2⟩
  nCtls h := (markedCtls_dead).mono fun e w' q => ⟨q.1, apPkts2.fr h q.2⟩
  xCtls {w} g0 g1 g2 g3 g4 g5 g6 g7 g8 g9 g10 g11 g12 g13 g14 g15 g16 g17 h := by
    have : w.cell? ⟨b, 14, none⟩ = some (Fb 14) := h.1.c 14 _ rfl
    rw [hd14] at this
    exact this
  mKeys {w} g0 g1 g2 g3 g4 g5 g6 g7 g8 g9 g10 g11 g12 g13 g14 g15 g16 g17 h := by
    obtain rfl := h.2.2.1 8 g8 rfl (by decide)
    exact (markedKeys_dead).mono fun e w' q => ⟨q.1, apPkts2.fr h q.2⟩
  nKeys h := (markedKeys_dead).mono fun e w' q => ⟨q.1, apPkts2.fr h q.2⟩
  xKeys {w} g0 g1 g2 g3 g4 g5 g6 g7 g8 g9 g10 g11 g12 g13 g14 g15 g16 g17 h := by
    have : w.cell? ⟨b, 16, none⟩ = some (Fb 16) := h.1.c 16 _ rfl
    rw [hd16] at this
    exact this
  mSessions {w} g0 g1 g2 g3 g4 g5 g6 g7 g8 g9 g10 g11 g12 g13 g14 g15 g16 g17 h := by
    obtain rfl := h.2.2.1 9 g9 rfl (by decide)
    exact (markedSessions_dead).mono fun e w' q => ⟨q.1, apPkts2.fr h q.2⟩
  nSessions h := (markedSessions_dead).mono fun e w' q => ⟨q.1, apPkts2.fr h q.2⟩
  xSessions {w} g0 g1 g2 g3 g4 g5 g6 g7 g8 g9 g10 g11 g12 g13 g14 g15 g16 g17 h := by
    have : w.cell? ⟨b, 18, none⟩ = some (Fb 18) := h.1.c 18 _ rfl
    rw [hd18] at this
    exact this
  mIds {w} g0 g1 g2 g3 g4 g5 g6 g7 g8 g9 g10 g11 g12 g13 g14 g15 g16 g17 h := by
    obtain rfl := h.2.2.1 10 g10 rfl (by decide)
    exact (markedIds_dead).mono fun e w' q => ⟨q.1, apPkts2.fr h q.2⟩
  nIds h := (markedIds_dead).mono fun e w' q => ⟨q.1, apPkts2.fr h q.2⟩
  xIds {w} g0 g1 g2 g3 g4 g5 g6 g7 g8 g9 g10 g11 g12 g13 g14 g15 g16 g17 h := by
    have : w.cell? ⟨b, 20, none⟩ = some (Fb 20) := h.1.c 20 _ rfl
    rw [hd20] at this
    exact this
  mGrams {w} g0 g1 g2 g3 g4 g5 g6 g7 g8 g9 g10 g11 g12 g13 g14 g15 g16 g17 h := by
    obtain rfl := h.2.2.1 11 g11 rfl (by decide)
    exact (markedGrams_dead).mono fun e w' q => ⟨q.1, apPkts2.fr h q.2⟩
  nGrams h := (markedGrams_dead).mono fun e w' q => ⟨q.1, apPkts2.fr h q.2⟩
  xGrams {w} g0 g1 g2 g3 g4 g5 g6 g7 g8 g9 g10 g11 g12 g13 g14 g15 g16 g17 h := by
    have : w.cell? ⟨b, 22, none⟩ = some (Fb 22) := h.1.c 22 _ rfl
    rw [hd22] at this
    exact this
  mSays {w} g0 g1 g2 g3 g4 g5 g6 g7 g8 g9 g10 g11 g12 g13 g14 g15 g16 g17 h := by
    obtain rfl := h.2.2.1 12 g12 rfl (by decide)
    exact (markedSays_dead).mono fun e w' q => ⟨q.1, apPkts2.fr h q.2⟩
  nSays h := (markedSays_dead).mono fun e w' q => ⟨q.1, apPkts2.fr h q.2⟩
  xSays {w} g0 g1 g2 g3 g4 g5 g6 g7 g8 g9 g10 g11 g12 g13 g14 g15 g16 g17 h := by
    have : w.cell? ⟨b, 24, none⟩ = some (Fb 24) := h.1.c 24 _ rfl
    rw [hd24] at this
    exact this
  mItems {w} g0 g1 g2 g3 g4 g5 g6 g7 g8 g9 g10 g11 g12 g13 g14 g15 g16 g17 h := by
    obtain rfl := h.2.2.1 13 g13 rfl (by decide)
    exact (markedItems_dead).mono fun e w' q => ⟨q.1, apPkts2.fr h q.2⟩
  nItems h := (markedItems_dead).mono fun e w' q => ⟨q.1, apPkts2.fr h q.2⟩
  xItems {w} g0 g1 g2 g3 g4 g5 g6 g7 g8 g9 g10 g11 g12 g13 g14 g15 g16 g17 h := by
    have : w.cell? ⟨b, 26, none⟩ = some (Fb 26) := h.1.c 26 _ rfl
    rw [hd26] at this
    exact this
  mLines {w} g0 g1 g2 g3 g4 g5 g6 g7 g8 g9 g10 g11 g12 g13 g14 g15 g16 g17 h := by
    obtain rfl := h.2.2.1 14 g14 rfl (by decide)
    exact (markedLines_dead).mono fun e w' q => ⟨q.1, apPkts2.fr h q.2⟩
  nLines h := (markedLines_dead).mono fun e w' q => ⟨q.1, apPkts2.fr h q.2⟩
  xLines {w} g0 g1 g2 g3 g4 g5 g6 g7 g8 g9 g10 g11 g12 g13 g14 g15 g16 g17 h := by
    have : w.cell? ⟨b, 28, none⟩ = some (Fb 28) := h.1.c 28 _ rfl
    rw [hd28] at this
    exact this
  mSeats {w} g0 g1 g2 g3 g4 g5 g6 g7 g8 g9 g10 g11 g12 g13 g14 g15 g16 g17 h := by
    obtain rfl := h.2.2.1 15 g15 rfl (by decide)
    exact (markedSeats_dead).mono fun e w' q => ⟨q.1, apPkts2.fr h q.2⟩
  nSeats h := (markedSeats_dead).mono fun e w' q => ⟨q.1, apPkts2.fr h q.2⟩
  xSeats {w} g0 g1 g2 g3 g4 g5 g6 g7 g8 g9 g10 g11 g12 g13 g14 g15 g16 g17 h := by
    have : w.cell? ⟨b, 30, none⟩ = some (Fb 30) := h.1.c 30 _ rfl
    rw [hd30] at this
    exact this
  mEvents {w} g0 g1 g2 g3 g4 g5 g6 g7 g8 g9 g10 g11 g12 g13 g14 g15 g16 g17 h := by
    obtain rfl := h.2.2.1 16 g16 rfl (by decide)
    exact (markedEvents_dead).mono fun e w' q => ⟨q.1, apPkts2.fr h q.2⟩
  nEvents h := (markedEvents_dead).mono fun e w' q => ⟨q.1, apPkts2.fr h q.2⟩
  xEvents {w} g0 g1 g2 g3 g4 g5 g6 g7 g8 g9 g10 g11 g12 g13 g14 g15 g16 g17 h := by
    have : w.cell? ⟨b, 32, none⟩ = some (Fb 32) := h.1.c 32 _ rfl
    rw [hd32] at this
    exact this
  mSteps {w} g0 g1 g2 g3 g4 g5 g6 g7 g8 g9 g10 g11 g12 g13 g14 g15 g16 g17 h := by
    obtain rfl := h.2.2.1 17 g17 rfl (by decide)
    exact (markedSteps_dead).mono fun e w' q => ⟨q.1, apPkts2.fr h q.2⟩
  nSteps h := (markedSteps_dead).mono fun e w' q => ⟨q.1, apPkts2.fr h q.2⟩
  xSteps {w} g0 g1 g2 g3 g4 g5 g6 g7 g8 g9 g10 g11 g12 g13 g14 g15 g16 g17 h := by
    have : w.cell? ⟨b, 34, none⟩ = some (Fb 34) := h.1.c 34 _ rfl
    rw [hd34] at this
    exact this
theorem apart_pkts (hB : Blk w b (bkC Fb) 52) (h0 : Fr [] w0 w) (hd0 : Fb 0 = .slice none 0 0) (hd2 : Fb 2 = .slice none 0 0) (hd4 : Fb 4 = .slice none 0 0) (hd6 : Fb 6 = .slice none 0 0) (hd12 : Fb 12 = .slice none 0 0) (hd14 : Fb 14 = .slice none 0 0) (hd16 : Fb 16 = .slice none 0 0) (hd18 : Fb 18 = .slice none 0 0) (hd20 : Fb 20 = .slice none 0 0) (hd22 : Fb 22 = .slice none 0 0) (hd24 : Fb 24 = .slice none 0 0) (hd26 : Fb 26 = .slice none 0 0) (hd28 : Fb 28 = .slice none 0 0) (hd30 : Fb 30 = .slice none 0 0) (hd32 : Fb 32 = .slice none 0 0) (hd34 : Fb 34 = .slice none 0 0) (h8 : KB 316 54 2 optF w (Fb 8) (Fb 9) k8) (h10 : KB 56 53 4 pkF w (Fb 10) (Fb 11) k10) (hbk8 : ∀ u, u ∈ k8 → ∀ q, u.v.ownBlock = some q → w0.heap.size ≤ q) (hbk10 : ∀ u, u ∈ k10 → ∀ q, u.v.ownBlock = some q → w0.heap.size ≤ q) :
    Calls Tryz.prog 26 #[.pointer (some ⟨b, 0, none⟩)] w fun e w' => e = .returned (.bool true) ∧ Fr [] w0 w' := by
  obtain ⟨ws8, hK8, hW8, hn8, _⟩ := h8
  obtain ⟨AL8, cl8, hI8⟩ := rown_slice hK8.row
  obtain ⟨ws10, hK10, hW10, hn10, _⟩ := h10
  obtain ⟨AL10, cl10, hI10⟩ := rown_slice hK10.row
  exact (apart_any (apPkts_H hd0 hd2 hd4 hd6 hd12 hd14 hd16 hd18 hd20 hd22 hd24 hd26 hd28 hd30 hd32 hd34 hI8 hn8 hbk8 hI10 hn10 hbk10) (show apPkts0 w0 b Fb k8 k10 ws8 ws10 w from ⟨hB, h0, hK8, hW8, hK10, hW10⟩)).mono fun e w' q => ⟨q.1, by obtain ⟨_, gs, _, h2, _⟩ := q; exact h2⟩
end
end Go.Proofs.YtfchbppfbepelaaGreat
