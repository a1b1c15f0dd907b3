/- the book: is what was answered apart? Only Ethers have lists here (printed by tools/gen_apinst.py). -/
import Derived.Test.YtfchbppfbepelaaGreatBkEthers
import Derived.Test.YtfchbppfbepelaaGreatBkD1
import Derived.Test.YtfchbppfbepelaaGreatApAny
namespace Go.Proofs.YtfchbppfbepelaaGreat
open Go.RowKit
set_option linter.unusedVariables false
def apEths0 (w0 : World) (b : Nat) (Fb : Nat → Value) (k4 : List (Bl (Mc × Mc × Int × List UInt8))) (ws4 : List Value) : World → Prop := fun w => Blk w b (bkC Fb) 52 ∧ Fr [] w0 w ∧ etKd w (Fb 4) k4 ∧ etWs w (Fb 5) k4 ws4
def apEths1 (w0 : World) (b : Nat) (Fb : Nat → Value) (k4 : List (Bl (Mc × Mc × Int × List UInt8))) : Nat → World → Prop := fun j w => Blk w b (bkC Fb) 52 ∧ Fr [] w0 w ∧ etKd w (Fb 4) (if 6 < j then (putT etM k4 k4.length) else k4)
def apEths2 (w0 : World) (b : Nat) (Fb : Nat → Value) (k4 : List (Bl (Mc × Mc × Int × List UInt8))) : List Value → World → Prop := fun gs w => Blk w b (bkC Fb) 52 ∧ Fr [] w0 w ∧ (∀ (j : Nat) g, gs[j]? = some g → j ∉ ([2] : List Nat) → g = .slice none 0 0) ∧ etKd w (Fb 4) (putT etM k4 k4.length) ∧ (∀ g, gs[2]? = some g → ∃ A c gl, g = .slice A k4.length c ∧ etLs w g gl ∧ Mk etM gl ∧ gl.length = k4.length ∧ ∀ l, l ∈ gl → l.xs.length ≤ 2072)
section
variable {w0 w w' : World} {b : Nat} {Fb : Nat → Value} {k4 : List (Bl (Mc × Mc × Int × List UInt8))} {ws4 : List Value}
theorem apEths0.fr (h : apEths0 w0 b Fb k4 ws4 w) (hF : Fr [] w w') : apEths0 w0 b Fb k4 ws4 w' := by
  obtain ⟨hB, h0, hK4, hW4⟩ := h
  exact ⟨hF.blk hB (by simp), h0.trans hF, hK4.fr0 hF, hW4.fr0 hF⟩
theorem apEths1.fr {j : Nat} (h : apEths1 w0 b Fb k4 j w) (hF : Fr [] w w') : apEths1 w0 b Fb k4 j w' := by
  obtain ⟨hB, h0, hK4⟩ := h
  exact ⟨hF.blk hB (by simp), h0.trans hF, hK4.fr0 hF⟩
theorem apEths1.on {j : Nat} (h : apEths1 w0 b Fb k4 j w) (hj : j ∉ ([6] : List Nat)) : apEths1 w0 b Fb k4 (j + 1) w := by
  obtain ⟨hB, h0, hK4⟩ := h
  simp at hj
  refine ⟨hB, h0, ?_⟩
  · have : (6 < j + 1) ↔ (6 < j) := by omega
    simp only [this]; exact hK4
theorem apEths2.fr {gs : List Value} (h : apEths2 w0 b Fb k4 gs w) (hF : Fr [] w w') : apEths2 w0 b Fb k4 gs w' := by
  obtain ⟨hB, h0, hD, hK4, hG4⟩ := h
  exact ⟨hF.blk hB (by simp), h0.trans hF, hD, hK4.fr0 hF, (fun g hg => by obtain ⟨A, c, gl, e, h1, h2⟩ := hG4 g hg; exact ⟨A, c, gl, e, h1.fr0 hF, h2⟩)⟩
theorem apEths2.dead {gs : List Value} (h : apEths2 w0 b Fb k4 gs w) (hF : Fr [] w w') (hl : gs.length ∉ ([2] : List Nat)) : apEths2 w0 b Fb k4 (gs ++ [.slice none 0 0]) w' := by
  obtain ⟨hB, h0, hD, hK4, hG4⟩ := h.fr hF
  simp at hl
  refine ⟨hB, h0, fun j g hg hj => ?_, hK4, (fun g hg => ?_)⟩
  · rcases snoc_at hg with h1 | ⟨_, h1⟩
    · exact hD j g h1 hj
    · exact h1
  · rcases snoc_at hg with h1 | ⟨h2, _⟩
    · exact hG4 g h1
    · omega
theorem apEths2.growEthers {gs : List Value} {A : Option Addr} {c : Nat} {gl : List (Bl (Mc × Mc × Int × List UInt8))} (h : apEths2 w0 b Fb k4 gs w) (hO : GrO 113 116 14 etF etM w w' (Fb 4) (putT etM k4 k4.length) gl (.slice A (putT etM k4 k4.length).length c) (putT etM k4 k4.length).length) (hl : gs.length = 2) (hbk4 : ∀ u, u ∈ k4 → ∀ q, u.v.ownBlock = some q → w0.heap.size ≤ q) : apEths2 w0 b Fb k4 (gs ++ [.slice A (putT etM k4 k4.length).length c]) w' := by
  obtain ⟨hB, h0, hD, hK4, hG4⟩ := h
  have hL : (putT etM k4 k4.length).length = k4.length := putT_len _ _ _
  refine ⟨hO.fr.blk hK4 hB (by decide), FrL.out0 h0 hO.fr (putT_own hbk4), fun j g hg hj => ?_, hO.kd, (fun g hg => ?_)⟩
  · rcases snoc_at hg with h1 | ⟨h2, _⟩
    · exact hD j g h1 hj
    · subst h2; rw [hl] at hj; exact absurd (by decide) hj
  · rcases snoc_at hg with h1 | ⟨_, h1⟩
    · exact absurd (List.getElem?_eq_some_iff.1 h1).1 (by omega)
    · subst h1
      refine ⟨A, c, gl, by rw [hL], hO.toLs, hO.gm, by rw [← hL]; exact hO.gn, hO.gx⟩
theorem apEths_H {AL4 : Option Addr} {cl4 : Nat} (hd0 : Fb 0 = .slice none 0 0) (hd2 : Fb 2 = .slice none 0 0) (hd6 : Fb 6 = .slice none 0 0) (hd8 : Fb 8 = .slice none 0 0) (hd10 : Fb 10 = .slice none 0 0) (hd12 : Fb 12 = .slice none 0 0) (hd14 : Fb 14 = .slice none 0 0) (hd16 : Fb 16 = .slice none 0 0) (hd18 : Fb 18 = .slice none 0 0) (hd20 : Fb 20 = .slice none 0 0) (hd22 : Fb 22 = .slice none 0 0) (hd24 : Fb 24 = .slice none 0 0) (hd26 : Fb 26 = .slice none 0 0) (hd28 : Fb 28 = .slice none 0 0) (hd30 : Fb 30 = .slice none 0 0) (hd32 : Fb 32 = .slice none 0 0) (hd34 : Fb 34 = .slice none 0 0) (hI4 : Fb 4 = .slice AL4 k4.length cl4) (hn4 : k4.length ≤ 250) (hbk4 : ∀ u, u ∈ k4 → ∀ q, u.v.ownBlock = some q → w0.heap.size ≤ q) : ApH b (apEths0 w0 b Fb k4 ws4) (apEths1 w0 b Fb k4) (apEths2 w0 b Fb k4) (fun i => if i = 2 then AL4 else none) (fun i => if i = 2 then k4.length else 0) (fun i => if i = 2 then cl4 else 0) where
  sTexts h := (stillTexts_dead h.1 hd0).mono fun e w' q => ⟨q.1, apEths0.fr h q.2⟩
  sInts h := (stillInts_dead h.1 hd2).mono fun e w' q => ⟨q.1, apEths0.fr h q.2⟩
  sEthers h := by
    obtain ⟨hB, h0, hK4, hW4⟩ := h
    exact (et_still hB hK4 hW4 hn4).mono fun e w' q => ⟨q.1, apEths0.fr (show apEths0 w0 b Fb k4 ws4 _ from ⟨hB, h0, hK4, hW4⟩) q.2⟩
  sTags h := (stillTags_dead h.1 hd6).mono fun e w' q => ⟨q.1, apEths0.fr h q.2⟩
  sOptions h := (stillOptions_dead h.1 hd8).mono fun e w' q => ⟨q.1, apEths0.fr h q.2⟩
  sPackets h := (stillPackets_dead h.1 hd10).mono fun e w' q => ⟨q.1, apEths0.fr h q.2⟩
  sAvps h := (stillAvps_dead h.1 hd12).mono fun e w' q => ⟨q.1, apEths0.fr h q.2⟩
  sCtls h := (stillCtls_dead h.1 hd14).mono fun e w' q => ⟨q.1, apEths0.fr h q.2⟩
  sKeys h := (stillKeys_dead h.1 hd16).mono fun e w' q => ⟨q.1, apEths0.fr h q.2⟩
  sSessions h := (stillSessions_dead h.1 hd18).mono fun e w' q => ⟨q.1, apEths0.fr h q.2⟩
  sIds h := (stillIds_dead h.1 hd20).mono fun e w' q => ⟨q.1, apEths0.fr h q.2⟩
  sGrams h := (stillGrams_dead h.1 hd22).mono fun e w' q => ⟨q.1, apEths0.fr h q.2⟩
  sSays h := (stillSays_dead h.1 hd24).mono fun e w' q => ⟨q.1, apEths0.fr h q.2⟩
  sItems h := (stillItems_dead h.1 hd26).mono fun e w' q => ⟨q.1, apEths0.fr h q.2⟩
  sLines h := (stillLines_dead h.1 hd28).mono fun e w' q => ⟨q.1, apEths0.fr h q.2⟩
  sSeats h := (stillSeats_dead h.1 hd30).mono fun e w' q => ⟨q.1, apEths0.fr h q.2⟩
  sEvents h := (stillEvents_dead h.1 hd32).mono fun e w' q => ⟨q.1, apEths0.fr h q.2⟩
  sSteps h := (stillSteps_dead h.1 hd34).mono fun e w' q => ⟨q.1, apEths0.fr h q.2⟩
  t1 h := by
    obtain ⟨hB, h0, hK4, hW4⟩ := h
    exact ⟨hB, h0, hK4⟩
  pPackets h := (putPackets_dead h.1 hd10).mono fun e w' q => ⟨q.1, apEths1.on (apEths1.fr h q.2) (by decide)⟩
  pCtls h := (putCtls_dead h.1 hd14).mono fun e w' q => ⟨q.1, apEths1.on (apEths1.fr h q.2) (by decide)⟩
  pSays h := (putSays_dead h.1 hd24).mono fun e w' q => ⟨q.1, apEths1.on (apEths1.fr h q.2) (by decide)⟩
  pSteps h := (putSteps_dead h.1 hd34).mono fun e w' q => ⟨q.1, apEths1.on (apEths1.fr h q.2) (by decide)⟩
  pTexts h := (putTexts_dead h.1 hd0).mono fun e w' q => ⟨q.1, apEths1.on (apEths1.fr h q.2) (by decide)⟩
  pInts h := (putInts_dead h.1 hd2).mono fun e w' q => ⟨q.1, apEths1.on (apEths1.fr h q.2) (by decide)⟩
  pEthers h := by
    obtain ⟨hB, h0, hK4⟩ := h
    refine (et_put hB (show etKd _ (Fb 4) k4 from hK4) hn4).mono ?_
    rintro e w' ⟨rfl, hK, hF⟩
    have hKo : etKd _ (Fb 4) k4 := hK4
    exact ⟨rfl, hF.blk hKo hB (by decide), FrL.out0 h0 hF hbk4, hK⟩
  pTags h := (putTags_dead h.1 hd6).mono fun e w' q => ⟨q.1, apEths1.on (apEths1.fr h q.2) (by decide)⟩
  pOptions h := (putOptions_dead h.1 hd8).mono fun e w' q => ⟨q.1, apEths1.on (apEths1.fr h q.2) (by decide)⟩
  pAvps h := (putAvps_dead h.1 hd12).mono fun e w' q => ⟨q.1, apEths1.on (apEths1.fr h q.2) (by decide)⟩
  pKeys h := (putKeys_dead h.1 hd16).mono fun e w' q => ⟨q.1, apEths1.on (apEths1.fr h q.2) (by decide)⟩
  pSessions h := (putSessions_dead h.1 hd18).mono fun e w' q => ⟨q.1, apEths1.on (apEths1.fr h q.2) (by decide)⟩
  pIds h := (putIds_dead h.1 hd20).mono fun e w' q => ⟨q.1, apEths1.on (apEths1.fr h q.2) (by decide)⟩
  pGrams h := (putGrams_dead h.1 hd22).mono fun e w' q => ⟨q.1, apEths1.on (apEths1.fr h q.2) (by decide)⟩
  pItems h := (putItems_dead h.1 hd26).mono fun e w' q => ⟨q.1, apEths1.on (apEths1.fr h q.2) (by decide)⟩
  pLines h := (putLines_dead h.1 hd28).mono fun e w' q => ⟨q.1, apEths1.on (apEths1.fr h q.2) (by decide)⟩
  pSeats h := (putSeats_dead h.1 hd30).mono fun e w' q => ⟨q.1, apEths1.on (apEths1.fr h q.2) (by decide)⟩
  pEvents h := (putEvents_dead h.1 hd32).mono fun e w' q => ⟨q.1, apEths1.on (apEths1.fr h q.2) (by decide)⟩
  t2 h := by
    obtain ⟨hB, h0, hK4⟩ := h
    exact ⟨hB, h0, (fun j g hg => by simp at hg), hK4, (fun g hg => by simp at hg)⟩
  gTexts h := (growTexts_dead h.1 hd0).mono fun e w' q => ⟨_, q.1, apEths2.dead h q.2 (by simp)⟩
  gInts h := (growInts_dead h.1 hd2).mono fun e w' q => ⟨_, q.1, apEths2.dead h q.2 (by simp)⟩
  gEthers {w} g0 g1 h := by
    obtain ⟨hB, h0, hD, hK4, hG4⟩ := h
    refine (et_grow hB hK4 (putT_mk _ _) (by rw [putT_len]; exact hn4)).mono ?_
    rintro e w' ⟨A, c, gl, rfl, hO⟩
    exact ⟨_, rfl, apEths2.growEthers (show apEths2 w0 b Fb k4 [g0, g1] _ from ⟨hB, h0, hD, hK4, hG4⟩) hO rfl hbk4⟩
  gTags h := (growTags_dead h.1 hd6).mono fun e w' q => ⟨_, q.1, apEths2.dead h q.2 (by simp)⟩
  gOptions h := (growOptions_dead h.1 hd8).mono fun e w' q => ⟨_, q.1, apEths2.dead h q.2 (by simp)⟩
  gPackets h := (growPackets_dead h.1 hd10).mono fun e w' q => ⟨_, q.1, apEths2.dead h q.2 (by simp)⟩
  gAvps h := (growAvps_dead h.1 hd12).mono fun e w' q => ⟨_, q.1, apEths2.dead h q.2 (by simp)⟩
  gCtls h := (growCtls_dead h.1 hd14).mono fun e w' q => ⟨_, q.1, apEths2.dead h q.2 (by simp)⟩
  gKeys h := (growKeys_dead h.1 hd16).mono fun e w' q => ⟨_, q.1, apEths2.dead h q.2 (by simp)⟩
  gSessions h := (growSessions_dead h.1 hd18).mono fun e w' q => ⟨_, q.1, apEths2.dead h q.2 (by simp)⟩
  gIds h := (growIds_dead h.1 hd20).mono fun e w' q => ⟨_, q.1, apEths2.dead h q.2 (by simp)⟩
  gGrams h := (growGrams_dead h.1 hd22).mono fun e w' q => ⟨_, q.1, apEths2.dead h q.2 (by simp)⟩
  gSays h := (growSays_dead h.1 hd24).mono fun e w' q => ⟨_, q.1, apEths2.dead h q.2 (by simp)⟩
  gItems h := (growItems_dead h.1 hd26).mono fun e w' q => ⟨_, q.1, apEths2.dead h q.2 (by simp)⟩
  gLines h := (growLines_dead h.1 hd28).mono fun e w' q => ⟨_, q.1, apEths2.dead h q.2 (by simp)⟩
  gSeats h := (growSeats_dead h.1 hd30).mono fun e w' q => ⟨_, q.1, apEths2.dead h q.2 (by simp)⟩
  gEvents h := (growEvents_dead h.1 hd32).mono fun e w' q => ⟨_, q.1, apEths2.dead h q.2 (by simp)⟩
  gSteps h := (growSteps_dead h.1 hd34).mono fun e w' q => ⟨_, q.1, apEths2.dead h q.2 (by simp)⟩
  mTexts {w} g0 g1 g2 g3 g4 g5 g6 g7 g8 g9 g10 g11 g12 g13 g14 g15 g16 g17 h := by
    obtain rfl := h.2.2.1 0 g0 rfl (by decide)
    exact (markedTexts_dead).mono fun e w' q => ⟨q.1, apEths2.fr h q.2⟩
  nTexts h := (markedTexts_dead).mono fun e w' q => ⟨q.1, apEths2.fr h q.2⟩
  xTexts {w} g0 g1 g2 g3 g4 g5 g6 g7 g8 g9 g10 g11 g12 g13 g14 g15 g16 g17 h := by
    have : w.cell? ⟨b, 0, none⟩ = some (Fb 0) := h.1.c 0 _ rfl
    rw [hd0] at this
    exact this
  mInts {w} g0 g1 g2 g3 g4 g5 g6 g7 g8 g9 g10 g11 g12 g13 g14 g15 g16 g17 h := by
    obtain rfl := h.2.2.1 1 g1 rfl (by decide)
    exact (markedInts_dead).mono fun e w' q => ⟨q.1, apEths2.fr h q.2⟩
  nInts h := (markedInts_dead).mono fun e w' q => ⟨q.1, apEths2.fr h q.2⟩
  xInts {w} g0 g1 g2 g3 g4 g5 g6 g7 g8 g9 g10 g11 g12 g13 g14 g15 g16 g17 h := by
    have : w.cell? ⟨b, 2, none⟩ = some (Fb 2) := h.1.c 2 _ rfl
    rw [hd2] at this
    exact this
  mEthers {w} g0 g1 g2 g3 g4 g5 g6 g7 g8 g9 g10 g11 g12 g13 g14 g15 g16 g17 h := by
    obtain ⟨A, c, gl, e1, h1, h2, h3, h4⟩ : ∃ A c gl, g2 = .slice A k4.length c ∧ etLs w g2 gl ∧ Mk etM gl ∧ gl.length = k4.length ∧ ∀ l, l ∈ gl → l.xs.length ≤ 2072 := by
      obtain ⟨hB, h0, hD, hK4, hG4⟩ := h
      exact hG4 g2 rfl
    subst e1
    exact (et_markedn gl _ h3 _ _ h1 h2 hn4 h4).mono fun e w' q => ⟨q.1, apEths2.fr h q.2⟩
  nEthers {w} g0 g1 g2 g3 g4 g5 g6 g7 g8 g9 g10 g11 g12 g13 g14 g15 g16 g17 h := by
    have hK : etKd w (Fb 4) (putT etM k4 k4.length) := by
      obtain ⟨hB, h0, hD, hK4, hG4⟩ := h
      exact hK4
    have hL := hK.toLs
    rw [hI4] at hL
    exact (et_markedn (putT etM k4 k4.length) k4.length (putT_len _ _ _) AL4 cl4 hL (putT_mk _ _) hn4 (fun l hl => Nat.le_trans (hK.sm l hl) (by decide))).mono fun e w' q => ⟨q.1, apEths2.fr h q.2⟩
  xEthers {w} g0 g1 g2 g3 g4 g5 g6 g7 g8 g9 g10 g11 g12 g13 g14 g15 g16 g17 h := by
    have : w.cell? ⟨b, 4, none⟩ = some (Fb 4) := h.1.c 4 _ rfl
    rw [hI4] at this
    exact this
  mTags {w} g0 g1 g2 g3 g4 g5 g6 g7 g8 g9 g10 g11 g12 g13 g14 g15 g16 g17 h := by
    obtain rfl := h.2.2.1 3 g3 rfl (by decide)
    exact (markedTags_dead).mono fun e w' q => ⟨q.1, apEths2.fr h q.2⟩
  nTags h := (markedTags_dead).mono fun e w' q => ⟨q.1, apEths2.fr h q.2⟩
  xTags {w} g0 g1 g2 g3 g4 g5 g6 g7 g8 g9 g10 g11 g12 g13 g14 g15 g16 g17 h := by
    have : w.cell? ⟨b, 6, none⟩ = some (Fb 6) := h.1.c 6 _ rfl
    rw [hd6] at this
    exact this
  mOptions {w} g0 g1 g2 g3 g4 g5 g6 g7 g8 g9 g10 g11 g12 g13 g14 g15 g16 g17 h := by
    obtain rfl := h.2.2.1 4 g4 rfl (by decide)
    exact (markedOptions_dead).mono fun e w' q => ⟨q.1, apEths2.fr h q.2⟩
  nOptions h := (markedOptions_dead).mono fun e w' q => ⟨q.1, apEths2.fr h q.2⟩
  xOptions {w} g0 g1 g2 g3 g4 g5 g6 g7 g8 g9 g10 g11 g12 g13 g14 g15 g16 g17 h := by
    have : w.cell? ⟨b, 8, none⟩ = some (Fb 8) := h.1.c 8 _ rfl
    rw [hd8] at this
    exact this
  mPackets {w} g0 g1 g2 g3 g4 g5 g6 g7 g8 g9 g10 g11 g12 g13 g14 g15 g16 g17 h := by
    obtain rfl := h.2.2.1 5 g5 rfl (by decide)
    exact (markedPackets_dead).mono fun e w' q => ⟨q.1, apEths2.fr h q.2⟩
  nPackets h := (markedPackets_dead).mono fun e w' q => ⟨q.1, apEths2.fr h q.2⟩
  xPackets {w} g0 g1 g2 g3 g4 g5 g6 g7 g8 g9 g10 g11 g12 g13 g14 g15 g16 g17 h := by
    have : w.cell? ⟨b, 10, none⟩ = some (Fb 10) := h.1.c 10 _ rfl
    rw [hd10] at this
    exact this
  mAvps {w} g0 g1 g2 g3 g4 g5 g6 g7 g8 g9 g10 g11 g12 g13 g14 g15 g16 g17 h := by
    obtain rfl := h.2.2.1 6 g6 rfl (by decide)
    exact (markedAvps_dead).mono fun e w' q => ⟨q.1, apEths2.fr h q.2⟩
  nAvps h := (markedAvps_dead).mono fun e w' q => ⟨q.1, apEths2.fr h q.2⟩
  xAvps {w} g0 g1 g2 g3 g4 g5 g6 g7 g8 g9 g10 g11 g12 g13 g14 g15 g16 g17 h := by
    have : w.cell? ⟨b, 12, none⟩ = some (Fb 12) := h.1.c 12 _ rfl
    rw [hd12] at this
    exact this
  mCtls {w} g0 g1 g2 g3 g4 g5 g6 g7 g8 g9 g10 g11 g12 g13 g14 g15 g16 g17 h := by
    obtain rfl := h.2.2.1 7 g7 rfl (by decide)
    exact (markedCtls_dead).mono fun e w' q => ⟨q.1, apEths2.fr h q.2⟩
  nCtls h := (markedCtls_dead).mono fun e w' q => ⟨q.1, apEths2.fr h q.2⟩
  xCtls {w} g0 g1 g2 g3 g4 g5 g6 g7 g8 g9 g10 g11 g12 g13 g14 g15 g16 g17 h := by
    have : w.cell? ⟨b, 14, none⟩ = some (Fb 14) := h.1.c 14 _ rfl
    rw [hd14] at this
    exact this
  mKeys {w} g0 g1 g2 g3 g4 g5 g6 g7 g8 g9 g10 g11 g12 g13 g14 g15 g16 g17 h := by
    obtain rfl := h.2.2.1 8 g8 rfl (by decide)
    exact (markedKeys_dead).mono fun e w' q => ⟨q.1, apEths2.fr h q.2⟩
  nKeys h := (markedKeys_dead).mono fun e w' q => ⟨q.1, apEths2.fr h q.2⟩
  xKeys {w} g0 g1 g2 g3 g4 g5 g6 g7 g8 g9 g10 g11 g12 g13 g14 g15 g16 g17 h := by
    have : w.cell? ⟨b, 16, none⟩ = some (Fb 16) := h.1.c 16 _ rfl
    rw [hd16] at this
    exact this
  mSessions {w} g0 g1 g2 g3 g4 g5 g6 g7 g8 g9 g10 g11 g12 g13 g14 g15 g16 g17 h := by
    obtain rfl := h.2.2.1 9 g9 rfl (by decide)
    exact (markedSessions_dead).mono fun e w' q => ⟨q.1, apEths2.fr h q.2⟩
  nSessions h := (markedSessions_dead).mono fun e w' q => ⟨q.1, apEths2.fr h q.2⟩
  xSessions {w} g0 g1 g2 g3 g4 g5 g6 g7 g8 g9 g10 g11 g12 g13 g14 g15 g16 g17 h := by
    have : w.cell? ⟨b, 18, none⟩ = some (Fb 18) := h.1.c 18 _ rfl
    rw [hd18] at this
    exact this
  mIds {w} g0 g1 g2 g3 g4 g5 g6 g7 g8 g9 g10 g11 g12 g13 g14 g15 g16 g17 h := by
    obtain rfl := h.2.2.1 10 g10 rfl (by decide)
    exact (markedIds_dead).mono fun e w' q => ⟨q.1, apEths2.fr h q.2⟩
  nIds h := (markedIds_dead).mono fun e w' q => ⟨q.1, apEths2.fr h q.2⟩
  xIds {w} g0 g1 g2 g3 g4 g5 g6 g7 g8 g9 g10 g11 g12 g13 g14 g15 g16 g17 h := by
    have : w.cell? ⟨b, 20, none⟩ = some (Fb 20) := h.1.c 20 _ rfl
    rw [hd20] at this
    exact this
  mGrams {w} g0 g1 g2 g3 g4 g5 g6 g7 g8 g9 g10 g11 g12 g13 g14 g15 g16 g17 h := by
    obtain rfl := h.2.2.1 11 g11 rfl (by decide)
    exact (markedGrams_dead).mono fun e w' q => ⟨q.1, apEths2.fr h q.2⟩
  nGrams h := (markedGrams_dead).mono fun e w' q => ⟨q.1, apEths2.fr h q.2⟩
  xGrams {w} g0 g1 g2 g3 g4 g5 g6 g7 g8 g9 g10 g11 g12 g13 g14 g15 g16 g17 h := by
    have : w.cell? ⟨b, 22, none⟩ = some (Fb 22) := h.1.c 22 _ rfl
    rw [hd22] at this
    exact this
  mSays {w} g0 g1 g2 g3 g4 g5 g6 g7 g8 g9 g10 g11 g12 g13 g14 g15 g16 g17 h := by
    obtain rfl := h.2.2.1 12 g12 rfl (by decide)
    exact (markedSays_dead).mono fun e w' q => ⟨q.1, apEths2.fr h q.2⟩
  nSays h := (markedSays_dead).mono fun e w' q => ⟨q.1, apEths2.fr h q.2⟩
  xSays {w} g0 g1 g2 g3 g4 g5 g6 g7 g8 g9 g10 g11 g12 g13 g14 g15 g16 g17 h := by
    have : w.cell? ⟨b, 24, none⟩ = some (Fb 24) := h.1.c 24 _ rfl
    rw [hd24] at this
    exact this
  mItems {w} g0 g1 g2 g3 g4 g5 g6 g7 g8 g9 g10 g11 g12 g13 g14 g15 g16 g17 h := by
    obtain rfl := h.2.2.1 13 g13 rfl (by decide)
    exact (markedItems_dead).mono fun e w' q => ⟨q.1, apEths2.fr h q.2⟩
  nItems h := (markedItems_dead).mono fun e w' q => ⟨q.1, apEths2.fr h q.2⟩
  xItems {w} g0 g1 g2 g3 g4 g5 g6 g7 g8 g9 g10 g11 g12 g13 g14 g15 g16 g17 h := by
    have : w.cell? ⟨b, 26, none⟩ = some (Fb 26) := h.1.c 26 _ rfl
    rw [hd26] at this
    exact this
  mLines {w} g0 g1 g2 g3 g4 g5 g6 g7 g8 g9 g10 g11 g12 g13 g14 g15 g16 g17 h := by
    obtain rfl := h.2.2.1 14 g14 rfl (by decide)
    exact (markedLines_dead).mono fun e w' q => ⟨q.1, apEths2.fr h q.2⟩
  nLines h := (markedLines_dead).mono fun e w' q => ⟨q.1, apEths2.fr h q.2⟩
  xLines {w} g0 g1 g2 g3 g4 g5 g6 g7 g8 g9 g10 g11 g12 g13 g14 g15 g16 g17 h := by
    have : w.cell? ⟨b, 28, none⟩ = some (Fb 28) := h.1.c 28 _ rfl
    rw [hd28] at this
    exact this
  mSeats {w} g0 g1 g2 g3 g4 g5 g6 g7 g8 g9 g10 g11 g12 g13 g14 g15 g16 g17 h := by
    obtain rfl := h.2.2.1 15 g15 rfl (by decide)
    exact (markedSeats_dead).mono fun e w' q => ⟨q.1, apEths2.fr h q.2⟩
  nSeats h := (markedSeats_dead).mono fun e w' q => ⟨q.1, apEths2.fr h q.2⟩
  xSeats {w} g0 g1 g2 g3 g4 g5 g6 g7 g8 g9 g10 g11 g12 g13 g14 g15 g16 g17 h := by
    have : w.cell? ⟨b, 30, none⟩ = some (Fb 30) := h.1.c 30 _ rfl
    rw [hd30] at this
    exact this
  mEvents {w} g0 g1 g2 g3 g4 g5 g6 g7 g8 g9 g10 g11 g12 g13 g14 g15 g16 g17 h := by
    obtain rfl := h.2.2.1 16 g16 rfl (by decide)
    exact (markedEvents_dead).mono fun e w' q => ⟨q.1, apEths2.fr h q.2⟩
  nEvents h := (markedEvents_dead).mono fun e w' q => ⟨q.1, apEths2.fr h q.2⟩
  xEvents {w} g0 g1 g2 g3 g4 g5 g6 g7 g8 g9 g10 g11 g12 g13 g14 g15 g16 g17 h := by
    have : w.cell? ⟨b, 32, none⟩ = some (Fb 32) := h.1.c 32 _ rfl
    rw [hd32] at this
    exact this
  mSteps {w} g0 g1 g2 g3 g4 g5 g6 g7 g8 g9 g10 g11 g12 g13 g14 g15 g16 g17 h := by
    obtain rfl := h.2.2.1 17 g17 rfl (by decide)
    exact (markedSteps_dead).mono fun e w' q => ⟨q.1, apEths2.fr h q.2⟩
  nSteps h := (markedSteps_dead).mono fun e w' q => ⟨q.1, apEths2.fr h q.2⟩
  xSteps {w} g0 g1 g2 g3 g4 g5 g6 g7 g8 g9 g10 g11 g12 g13 g14 g15 g16 g17 h := by
    have : w.cell? ⟨b, 34, none⟩ = some (Fb 34) := h.1.c 34 _ rfl
    rw [hd34] at this
    exact this
theorem apart_eths (hB : Blk w b (bkC Fb) 52) (h0 : Fr [] w0 w) (hd0 : Fb 0 = .slice none 0 0) (hd2 : Fb 2 = .slice none 0 0) (hd6 : Fb 6 = .slice none 0 0) (hd8 : Fb 8 = .slice none 0 0) (hd10 : Fb 10 = .slice none 0 0) (hd12 : Fb 12 = .slice none 0 0) (hd14 : Fb 14 = .slice none 0 0) (hd16 : Fb 16 = .slice none 0 0) (hd18 : Fb 18 = .slice none 0 0) (hd20 : Fb 20 = .slice none 0 0) (hd22 : Fb 22 = .slice none 0 0) (hd24 : Fb 24 = .slice none 0 0) (hd26 : Fb 26 = .slice none 0 0) (hd28 : Fb 28 = .slice none 0 0) (hd30 : Fb 30 = .slice none 0 0) (hd32 : Fb 32 = .slice none 0 0) (hd34 : Fb 34 = .slice none 0 0) (h4 : KB 113 116 14 etF w (Fb 4) (Fb 5) k4) (hbk4 : ∀ u, u ∈ k4 → ∀ q, u.v.ownBlock = some q → w0.heap.size ≤ q) :
    Calls Tryz.prog 26 #[.pointer (some ⟨b, 0, none⟩)] w fun e w' => e = .returned (.bool true) ∧ Fr [] w0 w' := by
  obtain ⟨ws4, hK4, hW4, hn4, _⟩ := h4
  obtain ⟨AL4, cl4, hI4⟩ := rown_slice hK4.row
  exact (apart_any (apEths_H hd0 hd2 hd6 hd8 hd10 hd12 hd14 hd16 hd18 hd20 hd22 hd24 hd26 hd28 hd30 hd32 hd34 hI4 hn4 hbk4) (show apEths0 w0 b Fb k4 ws4 w from ⟨hB, h0, hK4, hW4⟩)).mono fun e w' q => ⟨q.1, by obtain ⟨_, gs, _, h2, _⟩ := q; exact h2⟩
end
end Go.Proofs.YtfchbppfbepelaaGreat
