/- HostPlays: what a call leaves of two hosts; a card that came in; New's errors. -/
import Derived.Test.YtfchbppfbepelaaGreatHpS
import Derived.Test.YtfchbppfbepelaaGreatPHo6
import Derived.Test.YtfchbppfbepelaaGreatHostW
import Derived.Test.YtfchbppfbepelaaGreatDHo9
namespace Go.Proofs.YtfchbppfbepelaaGreat
open Go.ChangeShapes Go.WideShapes Go.ChangeAt Go.RowKit Go.Deep Go.Maps
set_option linter.unusedVariables false
def HT (p : Ps) : Prop := p.1.st = 1 ∨ p.1.st = 2 → p.1.tk < p.1.wt * 2 ^ p.1.ag.toNat
theorem pos_pow (x : Int) (n : Nat) (h : 1 ≤ x) : 0 < x * 2 ^ n := Int.mul_pos (by omega) (Int.pow_pos (by decide))
theorem HT.off (h : Hs) (s : Int) (h1 : 1 ≤ h.wt) : HT (entered h s, none) := fun _ => pos_pow h.wt 0 h1
theorem HT.start {p : Ps} (h : HT p) (hi : HI p) : HT (pStart p).1 := by
  unfold pStart
  split
  · exact HT.off _ _ hi.wt.1
  · exact h
theorem HT.stop {p : Ps} (hi : HI p) : HT (pStop p).1 := HT.off _ _ hi.wt.1
theorem HT.tick {p : Ps} (h : HT p) (hi : HI p) : HT (pTick p).1 := by
  unfold pTick
  split
  · split
    · rename_i hlt; exact fun _ => hlt
    · split
      · exact HT.off _ _ hi.wt.1
      · exact fun _ => pos_pow _ _ hi.wt.1
  · exact h
theorem HT.got {p : Ps} (h : HT p) (hi : HI p) (src : Mc) (c ss : Int) (l : List Tg) : HT (pGot p src c ss l).1 := by
  unfold pGot
  split
  · split
    · exact fun _ => pos_pow _ 0 hi.wt.1
    · exact h
  · split
    · split
      · exact HT.off _ _ hi.wt.1
      · exact fun hh => by rcases hh with hh | hh <;> exact absurd hh (by show ¬ (3 : Int) = _; decide)
    · split
      · exact HT.off _ _ hi.wt.1
      · exact h
theorem HT.take {p : Ps} (h : HT p) (hi : HI p) (f : Eth) : HT (pTake p f).1 := by
  unfold pTake
  cases readF p.1.m f with
  | none => exact h
  | some x => exact h.got hi _ _ _ _
theorem HT.new (m : Mc) (sv un : List UInt8) (rt wt : Int) : HT (hs0 m sv un rt wt, none) := fun hh => by rcases hh with hh | hh <;> exact absurd hh (by show ¬ (0 : Int) = _; decide)
theorem HR.o1' {p : Ps} {d : Dh} (h : HR p d) (hs : p.1.st = 1) : p.2 = none := h.o1 (by rw [← h.st]; exact hs)
theorem frameL_len (k m : Mc) (c ss : Int) (l : List Tg) : (frameL k m c ss l).length ≤ 1 := by
  unfold frameL
  split <;> simp
theorem pSayL_len (p : Ps) : (pSayL p).length ≤ 1 := by
  unfold pSayL
  split <;> exact frameL_len _ _ _ _ _
theorem pStart_len (p : Ps) : (pStart p).2.length ≤ 1 := by
  unfold pStart
  split
  · exact frameL_len _ _ _ _ _
  · simp
theorem pStop_len (p : Ps) : (pStop p).2.length ≤ 1 := by
  unfold pStop
  simp only
  split
  · exact frameL_len _ _ _ _ _
  · simp
theorem pTick_len (p : Ps) : (pTick p).2.length ≤ 1 := by
  unfold pTick
  split
  · split
    · simp
    · split
      · simp
      · exact pSayL_len p
  · simp
theorem pGot_len (p : Ps) (src : Mc) (c ss : Int) (l : List Tg) : (pGot p src c ss l).2.length ≤ 1 := by
  unfold pGot
  split
  · split
    · exact pSayL_len (pChosen p src l)
    · simp
  · split
    · split <;> simp
    · split <;> simp
theorem pTake_len (p : Ps) (f : Eth) : (pTake p f).2.length ≤ 1 := by
  unfold pTake
  cases readF p.1.m f with
  | none => simp
  | some x => exact pGot_len _ _ _ _ _
section
variable {w : World}
theorem hnew_err (m : Mc) (sv un : List UInt8) (rt wt : Int) (hE : 40 < sv.length ∨ 40 < un.length ∨ rt < 0 ∨ 10 < rt ∨ wt < 1 ∨ 100 < wt) :
    Calls Tryz.prog 48 #[.agg (mcL m).toArray, .string (B sv), .string (B un), .int .i64 rt, .int .i64 wt] w fun e w' => e = .returned (.tuple #[.pointer none, .int .i64 1]) ∧ Fr [] w w' := by
  have hX : (40 : Int) < sv.length ∨ ¬ (40 : Int) < sv.length ∧ ((40 : Int) < un.length ∨ ¬ (40 : Int) < un.length ∧ (rt < 0 ∨ ¬ rt < 0 ∧ (10 < rt ∨ ¬ 10 < rt ∧ (wt < 1 ∨ ¬ wt < 1 ∧ 100 < wt)))) := by omega
  clear hE
  obtain ⟨k1, k2, k3, k4, k5, k6⟩ := m
  unfold mcL
  simp only
  have hF := (Fr.refl [] w).alloc (.cells #[.int .u8 k1, .int .u8 k2, .int .u8 k3, .int .u8 k4, .int .u8 k5, .int .u8 k6] 104 (0, 0))
  rcases hX with h1 | ⟨h1, h2 | ⟨h2, h3 | ⟨h3, h4 | ⟨h4, h5 | ⟨h5, h6⟩⟩⟩⟩⟩
  all_goals
    go_enter Tryz.func48, Tryz.ntmps48
    go_wp2_with fail
    go_ret2
    exact ⟨rfl, hF⟩
end
/-- what the calls of a round leave -/
def HCut (w0 : World) (b c g nO : Nat) (opC : Array Value) (av bv : Value) (w : World) : Prop :=
  ∃ (p : Ps) (d : Dh) (kp : List (Bl Eth)) (l : List Eth) (A1 A2 : Option Addr) (c1 c2 : Nat), av = .slice A1 l.length c1 ∧ bv = .slice A2 l.length c2 ∧ l.length ≤ 1 ∧ HPs w0 b c g p d kp w ∧ HT p ∧
    w.ownsRow 0 113 14 (.slice A1 l.length c1) l.length (rowF etF l) ∧ w.ownsRow 0 113 14 (.slice A2 l.length c2) l.length (rowF etF l) ∧
    (∀ u, u ∈ kp → ∀ q, u.v.ownBlock = some q → (Value.slice A1 l.length c1).ownBlock ≠ some q) ∧ (∀ q, (Value.slice A1 l.length c1).ownBlock = some q → w0.heap.size ≤ q) ∧ Blk w nO opC 115
theorem own_ge' {w : World} {base e sz n : Nat} {v : Value} {xs : List Value} (h : w.ownsRow base e sz v n xs) : ∀ q, v.ownBlock = some q → base ≤ q := fun q hq => own_new h q hq
section
variable {w0 w : World} {b c g : Nat} {p : Ps} {d : Dh} {kp : List (Bl Eth)}
/-- the program's host and then the document's have been called: both told the same frames -/
theorem HPs.both (H : HPs w0 b c g p d kp w) {w1 w2 : World} {p' : Ps} {d' : Dh} {l l' : List Eth} {v1 v2 : Value} (hl : l.length ≤ 1) (hr : HR p' d' ∧ l = l') (hi : HI p') (ht : HT p')
    (h1 : POut w c l p' (.returned v1) w1) (h2 : DOut w1 g l' d' (.returned v2) w2) (nO : Nat) (opC : Array Value) (hO : Blk w nO opC 115) : HCut w0 b c g nO opC v1 v2 w2 := by
  obtain ⟨hr, rfl⟩ := hr
  obtain ⟨⟨A1, c1, e1, r1, f1⟩, hp⟩ := h1
  obtain ⟨⟨A2, c2, e2, r2, f2⟩, hd⟩ := h2
  injection e1 with e1
  injection e2 with e2
  subst e1 e2
  obtain ⟨b1, b2, b3⟩ := H.prog f1
  have hO1 := f1.blk hO (fun hq => by
    simp at hq; subst hq
    obtain ⟨ck, hB, _⟩ := H.pr
    exact hO.neT hB (by decide) rfl)
  have hO2 := f2.blk hO1 (fun hq => by simp at hq; subst hq; exact hO1.neT b2 (by decide) rfl)
  refine ⟨p', d', kp, l, A1, A2, c1, c2, rfl, rfl, hl, H.doc hr hi b1 hp b2 b3 f2 hd, ht, ?_, rown_base r2 (Nat.zero_le _), ?_, ?_, hO2⟩
  · have := rown_off r1 f2 (fun q hq cur U hc e => by simp at hq; subst hq; exact hc.neT b2 (by rw [e]; decide) rfl)
    exact rown_base this (Nat.zero_le _)
  · intro u hu q hq e
    have h1 := H.bk.lt u hu q hq
    have h2 := own_ge' r1 q e
    omega
  · intro q e
    have h2 := own_ge' r1 q e
    have := H.fr.size
    omega
theorem PhIs.start (h : PhIs w c p) (hi : HI p) : Calls Tryz.prog 50 #[.pointer (some ⟨c, 0, none⟩)] w (POut w c (pStart p).2 (pStart p).1) := by
  obtain ⟨ck, hB, hck⟩ := h
  exact pstart_any p.2 hi hB hck
theorem PhIs.stop (h : PhIs w c p) (hi : HI p) : Calls Tryz.prog 52 #[.pointer (some ⟨c, 0, none⟩)] w (POut w c (pStop p).2 (pStop p).1) := by
  obtain ⟨ck, hB, hck⟩ := h
  exact pstop_any p.2 hi hB
theorem PhIs.tick (h : PhIs w c p) (hi : HI p) (hr : HR p d) (ht : HT p) : Calls Tryz.prog 54 #[.pointer (some ⟨c, 0, none⟩)] w (POut w c (pTick p).2 (pTick p).1) := by
  obtain ⟨ck, hB, hck⟩ := h
  exact ptick_any p.2 hi hB hck hr.o1' ht
theorem PhIs.take (h : PhIs w c p) (hi : HI p) (f : Et) (hd : f.d.length ≤ 3000) : Calls Tryz.prog 60 #[.pointer (some ⟨c, 0, none⟩), .agg (etC f)] w (POut w c (pTake p (etT f)).2 (pTake p (etT f)).1) := by
  obtain ⟨ck, hB, hck⟩ := h
  exact ptake_any f p.2 hi hd hB hck
theorem PhIs.data (h : PhIs w c p) (hi : HI p) (f : Et) (hd : f.d.length ≤ 3000) : Calls Tryz.prog 56 #[.pointer (some ⟨c, 0, none⟩), .agg (etC f)] w fun e w' => e = .returned (.tuple #[.string (B (dataL p.1.st p.1.k p.1.m p.1.ss (etT f)).1), .bool (dataL p.1.st p.1.k p.1.m p.1.ss (etT f)).2]) ∧ Fr [] w w' := by
  obtain ⟨ck, hB, hck⟩ := h
  exact pdata_any f (by have := hi.wt.1; omega) hd hB
theorem PhIs.frame (h : PhIs w c p) (hi : HI p) (dt : List UInt8) (hd : dt.length ≤ 3000) : Calls Tryz.prog 58 #[.pointer (some ⟨c, 0, none⟩), .string (B dt)] w fun e w' => e = .returned (.tuple #[.agg (ethC (framL p.1.st p.1.k p.1.m p.1.ss dt).1.1 (framL p.1.st p.1.k p.1.m p.1.ss dt).1.2.1 (framL p.1.st p.1.k p.1.m p.1.ss dt).1.2.2.1 (framL p.1.st p.1.k p.1.m p.1.ss dt).1.2.2.2), .int .i64 (framL p.1.st p.1.k p.1.m p.1.ss dt).2]) ∧ Fr [] w w' := by
  obtain ⟨ck, hB, hck⟩ := h
  exact pframe_any (o := p.2) dt hd hi hB
theorem PhIs.state (h : PhIs w c p) (hi : HI p) : Calls Tryz.prog 63 #[.pointer (some ⟨c, 0, none⟩)] w fun e w' => e = .returned (.tuple #[.int .i64 p.1.st, .agg (mcL p.1.k).toArray, .int .i64 p.1.ss]) ∧ Fr [] w w' := by
  obtain ⟨ck, hB, hck⟩ := h
  exact hstate_any (by have := hi.wt.1; omega) hB
theorem dframe_any (hd : DI d) (dt : List UInt8) (hB : Blk w g (dhC d) 254) : Calls Tryz.prog 59 #[.pointer (some ⟨g, 0, none⟩), .string (B dt)] w fun e w' => e = .returned (.tuple #[.agg (ethC (framL d.st d.k d.m d.ss dt).1.1 (framL d.st d.k d.m d.ss dt).1.2.1 (framL d.st d.k d.m d.ss dt).1.2.2.1 (framL d.st d.k d.m d.ss dt).1.2.2.2), .int .i64 (framL d.st d.k d.m d.ss dt).2]) ∧ Fr [] w w' := by
  unfold framL
  by_cases h3 : d.st = 3
  · rw [if_pos h3]
    by_cases hl : dt.length ≤ 1494
    · rw [if_pos hl]
      exact dhFrame_ok dt h3 (hd.ss h3).1 (hd.ss h3).2 hl hB
    · rw [if_neg hl]
      exact dhFrame_long dt h3 (hd.ss h3).1 (hd.ss h3).2 (by omega) hB
  · rw [if_neg h3]
    exact dhFrame_off dt h3 hB
theorem HPs.none_ (H : HPs w0 b c g p d kp w) (ht : HT p) (nO : Nat) (opC : Array Value) (hO : Blk w nO opC 115) : HCut w0 b c g nO opC (.slice none 0 0) (.slice none 0 0) w :=
  ⟨p, d, kp, [], none, none, 0, 0, rfl, rfl, by simp, H, ht, World.ownsRow_nil _ _ _ _, World.ownsRow_nil _ _ _ _, (fun u hu q hq e => by simp [Value.ownBlock] at e), (fun q e => by simp [Value.ownBlock] at e), hO⟩
end
set_option maxRecDepth 100000 in
theorem okWide_arrP {P : Program} {w : World} {r : Reach} {base : Nat} {t e : TypeId} {n : Nat} {v : Value} (ht : P.underlying t = some (.array n e)) (h : Value.okWide P w r base t v) : ∃ cs, v = .agg cs ∧ cs.size = P.cellsOf t := by
  simp only [Value.okWide, ht] at h
  obtain ⟨cs, h1, h2, _⟩ := h
  exact ⟨cs, h1, h2⟩
set_option maxRecDepth 100000 in
theorem open_macP {H : Type} {enc : TypeId × Value → H} {w : World} {base b0 : Nat} {spare : Nat → Bool} {held : Bool} {r : Reach} {v : Value} {d : DataW H} {p : List MemPlace} (hv : Value.okWide Tryz.prog w r b0 104 v) (h : DataW.Trod enc Tryz.prog w base spare held 104 v d p) : ∃ k : Mc, v = .agg (mcL k).toArray ∧ True := by
  obtain ⟨cs, rfl, _⟩ := okWide_arrP Tryz.underlying104 hv
  obtain ⟨fuel, hf⟩ := h
  obtain ⟨k, hk⟩ := dec_mac _ _ _ hf
  refine ⟨k, ?_, trivial⟩
  have : cs = (mcL k).toArray := by
    have := congrArg List.toArray hk
    simpa [Value.cells] using this
  rw [this]
end Go.Proofs.YtfchbppfbepelaaGreat
