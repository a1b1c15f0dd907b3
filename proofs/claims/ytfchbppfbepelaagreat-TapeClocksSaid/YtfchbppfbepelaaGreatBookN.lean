/- The book in memory. -/
import Derived.Test.YtfchbppfbepelaaGreatBookK
import Derived.Test.YtfchbppfbepelaaGreatLaw
import Derived.Deep.RegionHeld3
import Derived.Laws.Cover3
import Derived.ChangeKeysEq
namespace Go.Proofs.YtfchbppfbepelaaGreat
open Go.RowKit
set_option linter.unusedVariables false
/-- the book's cells -/
def bkC (F : Nat → Value) : Array Value := #[F 0, F 1, F 2, F 3, F 4, F 5, F 6, F 7, F 8, F 9, F 10, F 11, F 12, F 13, F 14, F 15, F 16, F 17, F 18, F 19, F 20, F 21, F 22, F 23, F 24, F 25, F 26, F 27, F 28, F 29, F 30, F 31, F 32, F 33, F 34, F 35]
theorem _root_.Go.Proofs.YtfchbppfbepelaaGreat.Blk.fr0b {w w' : World} {b T : Nat} {cs : Array Value} (h : Blk w b cs T) (hF : Fr [] w w') : Blk w' b cs T := hF.blk h (by simp)
def upd (F : Nat → Value) (i : Nat) (v : Value) : Nat → Value := fun j => if j = i then v else F j
theorem bkC_upd (F : Nat → Value) (i : Nat) (v : Value) (h : i < 36) : (bkC F).setIfInBounds i v = bkC (upd F i v) := by
  have : ∀ i : Fin 36, (bkC F).setIfInBounds i v = bkC (upd F i v) := fun i => by
    match i with
    | ⟨0, _⟩ | ⟨1, _⟩ | ⟨2, _⟩ | ⟨3, _⟩ | ⟨4, _⟩ | ⟨5, _⟩ | ⟨6, _⟩ | ⟨7, _⟩ | ⟨8, _⟩ | ⟨9, _⟩ | ⟨10, _⟩ | ⟨11, _⟩ | ⟨12, _⟩ | ⟨13, _⟩ | ⟨14, _⟩ | ⟨15, _⟩ | ⟨16, _⟩ | ⟨17, _⟩ | ⟨18, _⟩ | ⟨19, _⟩ | ⟨20, _⟩ | ⟨21, _⟩ | ⟨22, _⟩ | ⟨23, _⟩ | ⟨24, _⟩ | ⟨25, _⟩ | ⟨26, _⟩ | ⟨27, _⟩ | ⟨28, _⟩ | ⟨29, _⟩ | ⟨30, _⟩ | ⟨31, _⟩ | ⟨32, _⟩ | ⟨33, _⟩ | ⟨34, _⟩ | ⟨35, _⟩ => rfl
    | ⟨n + 36, h⟩ => exact absurd h (by omega)
  exact this ⟨i, h⟩
theorem upd_same (F : Nat → Value) (i : Nat) (v : Value) : upd F i v i = v := by simp [upd]
theorem upd_other (F : Nat → Value) (i j : Nat) (v : Value) (h : j ≠ i) : upd F i v j = F j := by simp [upd, h]
section
variable {α : Type} {f : α → List Value} {N : Nat} {E SL : TypeId}
/-- a kind of the book: its lists, and the copies -/
def KB (E SL : TypeId) (N : Nat) (f : α → List Value) (w : World) (LV WV : Value) (k : List (Bl α)) : Prop :=
  ∃ ws, Kd E SL N f w LV k ∧ Ws E SL N f w WV k ws ∧ k.length ≤ 250 ∧ ∀ q, LV.ownBlock = some q → WV.ownBlock ≠ some q
theorem KB.off {w w' : World} {S : List Nat} {LV WV : Value} {k : List (Bl α)} (h : KB E SL N f w LV WV k) (hF : Fr S w w') (hS : OffT E SL w S) : KB E SL N f w' LV WV k := by
  obtain ⟨ws, h1, h2, h3, h4⟩ := h
  exact ⟨ws, h1.off hF hS, h2.off hF hS, h3, h4⟩
theorem KB.fr0 {w w' : World} {LV WV : Value} {k : List (Bl α)} (h : KB E SL N f w LV WV k) (hF : Fr [] w w') : KB E SL N f w' LV WV k := h.off hF (OffT.nil _ _ _)
theorem KB.nil (w : World) : KB (α := α) E SL N f w (.slice none 0 0) (.slice none 0 0) [] :=
  ⟨[], ⟨World.ownsRow_nil _ _ _ _, (by simp), (by simp), List.Pairwise.nil⟩, ⟨rfl, World.ownsRow_nil _ _ _ _, by simp⟩, by simp, by simp [Value.ownBlock]⟩
theorem KB.blk {w : World} {LV WV : Value} {k : List (Bl α)} (h : KB E SL N f w LV WV k) : ∀ q, q ∈ LV.ownBlock.toList ++ WV.ownBlock.toList → ∃ cur, Blk w q cur SL := fun q hq => by
  obtain ⟨ws, h1, h2, h3, h4⟩ := h
  rcases List.mem_append.1 hq with h5 | h5
  · exact rown_blk h1.row q (by simpa using h5)
  · exact rown_blk h2.row q (by simpa using h5)
/-- what adding a list leaves -/
def AddP (E SL : TypeId) (N : Nat) (f : α → List Value) (T : TypeId) (w : World) (b : Nat) (Fb : Nat → Value) (I J : Nat) (k : List (Bl α)) (nw : Bl α) (w' : World) : Prop :=
  ∃ Fb' k', Blk w' b (bkC Fb') T ∧ (∀ j, j ≠ I → j ≠ J → Fb' j = Fb j) ∧ KB E SL N f w' (Fb' I) (Fb' J) k' ∧ (k' = k ∨ k' = k ++ [nw]) ∧ Fr (b :: ((Fb I).ownBlock.toList ++ (Fb J).ownBlock.toList)) w w' ∧
    ∀ q, q ∈ (Fb' I).ownBlock.toList ++ (Fb' J).ownBlock.toList → q ∈ (Fb I).ownBlock.toList ++ (Fb J).ownBlock.toList ∨ w.heap.size ≤ q
theorem Kd.snoc {w : World} {LV LV' : Value} {k : List (Bl α)} (h : Kd E SL N f w LV k) {nw : Bl α} (ho : w.ownsRow 0 SL 1 LV' (k.length + 1) (k.map (·.v) ++ [nw.v])) (hn : w.ownsRow 0 E N nw.v nw.xs.length (rowF f nw.xs)) (hs : nw.xs.length ≤ 2000)
    (hap : ∀ u, u ∈ k → ∀ q, u.v.ownBlock = some q → nw.v.ownBlock ≠ some q) : Kd E SL N f w LV' (k ++ [nw]) := by
  refine ⟨by rw [List.length_append, List.map_append]; exact ho, fun l hl => ?_, fun l hl => ?_, ?_⟩
  · rcases List.mem_append.1 hl with h1 | h1
    · exact h.ls l h1
    · simp at h1; subst h1; exact hn
  · rcases List.mem_append.1 hl with h1 | h1
    · exact h.sm l h1
    · simp at h1; subst h1; exact hs
  · rw [List.pairwise_append]
    exact ⟨h.ap, List.pairwise_singleton _ _, fun a ha c hc => by simp at hc; subst hc; exact hap a ha⟩
theorem Ws.snoc {w : World} {WV WV' : Value} {k : List (Bl α)} {ws : List Value} (h : Ws E SL N f w WV k ws) {nw : Bl α} {u : Value} (ho : w.ownsRow 0 SL 1 WV' (ws.length + 1) (ws ++ [u])) (hn : w.ownsRow 0 E N u nw.xs.length (rowF f nw.xs)) : Ws E SL N f w WV' (k ++ [nw]) (ws ++ [u]) := by
  refine ⟨by rw [List.length_append, List.length_append, h.len]; rfl, by rw [List.length_append]; exact ho, fun i l x hl hx => ?_⟩
  by_cases hi : i < k.length
  · rw [List.getElem?_append_left hi] at hl
    rw [List.getElem?_append_left (by rw [h.len]; exact hi)] at hx
    exact h.ls i l x hl hx
  · have hi2 : i = k.length := by
      have := (List.getElem?_eq_some_iff.1 hl).1
      rw [List.length_append] at this
      simp at this
      omega
    subst hi2
    rw [List.getElem?_append_right (Nat.le_refl _)] at hl
    rw [List.getElem?_append_right (by rw [h.len]; exact Nat.le_refl _), h.len] at hx
    simp at hl hx
    subst hl hx
    exact hn
theorem rown_there {w : World} {base n cap q : Nat} {e : TypeId} {xs : List Value} (h : w.ownsRow base e N (.slice (some ⟨q, 0, none⟩) n cap) n xs) (t : Nat) (ht : t < n) : w.there q (t * N) N := fun j hj => by
  have hlt : t * N + j < n * N := by
    have : (t + 1) * N ≤ n * N := Nat.mul_le_mul_right _ ht
    rw [Nat.add_mul] at this
    omega
  rw [h.cellAt _ hlt]
  refine ⟨?_, h.frozenAt _⟩
  rw [List.getElem?_eq_getElem (by rw [h.1]; exact hlt)]
  rfl
/-- frames over the lists' own blocks -/
def FrL (k : List (Bl α)) (w w' : World) : Prop := ∃ S, Fr S w w' ∧ ∀ q, q ∈ S → ∃ l, l ∈ k ∧ l.v.ownBlock = some q
theorem FrL.of {k : List (Bl α)} {w w' : World} (h : Fr [] w w') : FrL k w w' := ⟨[], h, fun q hq => by cases hq⟩
theorem FrL.trans {k : List (Bl α)} {a b c : World} (h : FrL k a b) (h2 : FrL k b c) : FrL k a c := by
  obtain ⟨S, hF, hS⟩ := h
  obtain ⟨S2, hF2, hS2⟩ := h2
  refine ⟨S ++ S2, (hF.mono (by intro q hq; exact List.mem_append_left _ hq)).trans (hF2.mono (by intro q hq; exact List.mem_append_right _ hq)), fun q hq => ?_⟩
  rcases List.mem_append.1 hq with h | h
  · exact hS q h
  · exact hS2 q h
theorem FrL.size {k : List (Bl α)} {w w' : World} (h : FrL k w w') : w.heap.size ≤ w'.heap.size := by
  obtain ⟨S, hF, _⟩ := h
  exact hF.size
/-- a block of another type stays -/
theorem FrL.blk {k : List (Bl α)} {w w' : World} {LV : Value} (h : FrL k w w') (hk : Kd E SL N f w LV k) {b T : Nat} {cs : Array Value} (hB : Blk w b cs T) (hT : T ≠ E) : Blk w' b cs T := by
  obtain ⟨S, hF, hS⟩ := h
  refine hF.blk hB fun hb => ?_
  obtain ⟨l, hl, hq⟩ := hS b hb
  obtain ⟨cur, hc⟩ := rown_blk (hk.ls l hl) b hq
  exact hB.neT hc hT rfl
end
section
variable {α : Type} {f : α → List Value} {N : Nat} {E SL : TypeId}
theorem add_close {T : TypeId} (hE : E ≠ SL) (hT1 : T ≠ E) (hT2 : T ≠ SL) {w w1 W2 v v9 W4 : World} {b I J : Nat} {Fb : Nat → Value} {k : List (Bl α)} {ws : List Value} {nw : Bl α} {u V1 V9 : Value} (hIJ : I ≠ J) (hI : I < 36) (hJ : J < 36)
    (hB : Blk w b (bkC Fb) T) (hK : Kd E SL N f w (Fb I) k) (hW : Ws E SL N f w (Fb J) k ws) (hlen : k.length < 250) (hd : ∀ q, (Fb I).ownBlock = some q → (Fb J).ownBlock ≠ some q)
    (hx : w.ownsRow 0 E N nw.v nw.xs.length (rowF f nw.xs)) (hsm : nw.xs.length ≤ 2000) (hap : ∀ x, x ∈ k → ∀ q, x.v.ownBlock = some q → nw.v.ownBlock ≠ some q)
    (hO1 : w1.ownsRow 0 SL 1 V1 (k.length + 1) (k.map (·.v) ++ [nw.v])) (hF1 : Fr (Fb I).ownBlock.toList w w1) (hb1 : ∀ q, V1.ownBlock = some q → (Fb I).ownBlock = some q ∨ w.heap.size ≤ q)
    (hF2 : Fr [b] w1 W2) (hB2 : Blk W2 b (bkC (upd Fb I V1)) T) (hZ : Fr [] W2 v) (hu : v.ownsRow 0 E N u nw.xs.length (rowF f nw.xs))
    (hO9 : v9.ownsRow 0 SL 1 V9 (ws.length + 1) (ws ++ [u])) (hF9 : Fr (Fb J).ownBlock.toList v v9) (hb9 : V9.ownBlock = (Fb J).ownBlock ∨ V9.ownBlock = some v.heap.size)
    (hF4 : Fr [b] v9 W4) (hB4 : Blk W4 b (bkC (upd (upd Fb I V1) J V9)) T) : AddP E SL N f T w b Fb I J k nw W4 := by
  have eI : (upd (upd Fb I V1) J V9) I = V1 := by rw [upd_other _ _ _ _ hIJ, upd_same]
  have eJ : (upd (upd Fb I V1) J V9) J = V9 := upd_same _ _ _
  have sz1 := hF1.size
  have sz2 := hF2.size
  have sz3 := hZ.size
  have sz4 := hF9.size
  have lI : ∀ q, (Fb I).ownBlock = some q → ∃ cur, Blk w q cur SL := rown_blk hK.row
  have lJ : ∀ q, (Fb J).ownBlock = some q → ∃ cur, Blk w q cur SL := rown_blk hW.row
  have blkB1 : Blk w1 b (bkC Fb) T := hF1.blk hB fun hq => by
    obtain ⟨cur, hc⟩ := lI b (by simpa using hq)
    exact hB.neT hc hT2 rfl
  -- rows of E stay
  have keepE1 : ∀ {vv : Value} {n : Nat} {ys : List Value}, w.ownsRow 0 E N vv n ys → v.ownsRow 0 E N vv n ys := fun h => by
    have a1 := rown_off h hF1 fun q hq cur U hb => by
      obtain ⟨cur', hc⟩ := lI q (by simpa using hq)
      intro e
      subst e
      exact hb.neT hc hE rfl
    have a2 := rown_off a1 hF2 fun q hq cur U hb => by
      simp at hq
      subst hq
      intro e
      subst e
      exact blkB1.neT hb hT1 rfl
    exact rown_frS a2 hZ (by simp)
  have keepE2 : ∀ {vv : Value} {n : Nat} {ys : List Value}, v.ownsRow 0 E N vv n ys → W4.ownsRow 0 E N vv n ys := fun {vv n ys} h => by
    have hJv : ∀ q, (Fb J).ownBlock = some q → ∃ cur, Blk v q cur SL := fun q hq => by
      obtain ⟨cur, hc⟩ := lJ q hq
      have c1 := hF1.blk hc fun hm => hd q (by simpa using hm) hq
      have c2 := hF2.blk c1 (by
        simp
        intro e
        subst e
        exact blkB1.neT c1 hT2 rfl)
      exact ⟨cur, hZ.blk c2 (by simp)⟩
    have a1 := rown_off h hF9 fun q hq cur U hb => by
      obtain ⟨cur', hc⟩ := hJv q (by simpa using hq)
      intro e
      subst e
      exact hb.neT hc hE rfl
    refine rown_frS a1 hF4 fun q hq hm => ?_
    simp at hm
    subst hm
    obtain ⟨cur, hc⟩ := rown_blk (rown_frS a1 (Fr.refl [] v9) (by simp)) q hq
    have hb9 : Blk v9 q (bkC (upd Fb I V1)) T := hF9.blk (hZ.blk hB2 (by simp)) fun hm => by
      obtain ⟨cur', hc'⟩ := hJv q (by simpa using hm)
      exact (hZ.blk hB2 (by simp)).neT hc' hT2 rfl
    exact hb9.neT hc hT1 rfl
  have hJlt : ∀ q, (Fb J).ownBlock = some q → q < w.heap.size := fun q hq => by
    obtain ⟨cur, hc⟩ := lJ q hq
    exact hc.lt
  have hIlt : ∀ q, (Fb I).ownBlock = some q → q < w.heap.size := fun q hq => by
    obtain ⟨cur, hc⟩ := lI q hq
    exact hc.lt
  have hbb9 : Blk v9 b (bkC (upd Fb I V1)) T := hF9.blk (hZ.blk hB2 (by simp)) fun hm => by
    have hq : (Fb J).ownBlock = some b := by simpa using hm
    obtain ⟨cur, hc⟩ := lJ b hq
    exact hB.neT hc hT2 rfl
  -- the first row at the end
  have hV1w : W4.ownsRow 0 SL 1 V1 (k.length + 1) (k.map (·.v) ++ [nw.v]) := by
    have nb : ∀ q, V1.ownBlock = some q → q ≠ b := fun q hq e => by
      subst e
      obtain ⟨cur, hc⟩ := rown_blk hO1 q hq
      exact blkB1.neT hc hT2 rfl
    have a1 := rown_frS hO1 hF2 fun q hq => by simpa using nb q hq
    have a2 := rown_frS a1 hZ (by simp)
    have a3 := rown_frS a2 hF9 fun q hq hm => by
      have hm' : (Fb J).ownBlock = some q := by simpa using hm
      rcases hb1 q hq with h | h
      · exact hd q h hm'
      · exact absurd (hJlt q hm') (Nat.not_lt.2 h)
    exact rown_frS a3 hF4 fun q hq => by simpa using nb q hq
  have hV9w : W4.ownsRow 0 SL 1 V9 (ws.length + 1) (ws ++ [u]) := rown_frS hO9 hF4 fun q hq => by
    simp
    intro e
    subst e
    obtain ⟨cur, hc⟩ := rown_blk hO9 q hq
    exact hbb9.neT hc hT2 rfl
  refine ⟨upd (upd Fb I V1) J V9, k ++ [nw], hB4, fun j h1 h2 => by rw [upd_other _ _ _ _ h2, upd_other _ _ _ _ h1], ?_, Or.inr rfl, ?_, ?_⟩
  · rw [eI, eJ]
    refine ⟨ws ++ [u], ?_, ?_, by rw [List.length_append]; simp; omega, ?_⟩
    · have hk4 : Kd E SL N f W4 V1 (k ++ [nw]) := by
        refine ⟨by rw [List.length_append, List.map_append]; exact hV1w, fun l hl => ?_, fun l hl => ?_, ?_⟩
        · rcases List.mem_append.1 hl with h1 | h1
          · exact keepE2 (keepE1 (hK.ls l h1))
          · simp at h1; subst h1; exact keepE2 (keepE1 hx)
        · rcases List.mem_append.1 hl with h1 | h1
          · exact hK.sm l h1
          · simp at h1; subst h1; exact hsm
        · rw [List.pairwise_append]
          exact ⟨hK.ap, List.pairwise_singleton _ _, fun a ha c hc => by simp at hc; subst hc; exact hap a ha⟩
      exact hk4
    · have hws : Ws E SL N f W4 V9 (k ++ [nw]) (ws ++ [u]) := by
        refine ⟨by rw [List.length_append, List.length_append, hW.len]; rfl, by rw [List.length_append]; exact hV9w, fun i l x hl hx2 => ?_⟩
        by_cases hi : i < k.length
        · rw [List.getElem?_append_left hi] at hl
          rw [List.getElem?_append_left (by rw [hW.len]; exact hi)] at hx2
          exact keepE2 (keepE1 (hW.ls i l x hl hx2))
        · have hi2 : i = k.length := by
            have := (List.getElem?_eq_some_iff.1 hl).1
            rw [List.length_append] at this
            simp at this
            omega
          subst hi2
          rw [List.getElem?_append_right (Nat.le_refl _)] at hl
          rw [List.getElem?_append_right (by rw [hW.len]; exact Nat.le_refl _), hW.len] at hx2
          simp at hl hx2
          subst hl hx2
          exact keepE2 hu
      exact hws
    · intro q h1 h2
      rcases hb1 q h1 with h3 | h3
      · rcases hb9 with h4 | h4
        · exact hd q h3 (h4 ▸ h2)
        · rw [h4] at h2
          injection h2 with h2
          have := hIlt q h3
          omega
      · rcases hb9 with h4 | h4
        · have := hJlt q (h4 ▸ h2)
          omega
        · rw [h4] at h2
          injection h2 with h2
          obtain ⟨cur, hc⟩ := rown_blk hO1 q h1
          have := hc.lt
          omega
  · have m1 := hF1.mono (S' := b :: ((Fb I).ownBlock.toList ++ (Fb J).ownBlock.toList)) (fun x hx => List.mem_cons_of_mem _ (List.mem_append_left _ hx))
    have m2 := hF2.mono (S' := b :: ((Fb I).ownBlock.toList ++ (Fb J).ownBlock.toList)) (by simp)
    have m3 := hZ.mono (S' := b :: ((Fb I).ownBlock.toList ++ (Fb J).ownBlock.toList)) (by simp)
    have m4 := hF9.mono (S' := b :: ((Fb I).ownBlock.toList ++ (Fb J).ownBlock.toList)) (fun x hx => List.mem_cons_of_mem _ (List.mem_append_right _ hx))
    have m5 := hF4.mono (S' := b :: ((Fb I).ownBlock.toList ++ (Fb J).ownBlock.toList)) (by simp)
    exact (((m1.trans m2).trans m3).trans m4).trans m5
  · rw [eI, eJ]
    intro q hq
    rcases List.mem_append.1 hq with h1 | h1
    · rcases hb1 q (by simpa using h1) with h2 | h2
      · exact Or.inl (List.mem_append_left _ (by simpa using h2))
      · exact Or.inr h2
    · have h1' : V9.ownBlock = some q := by simpa using h1
      rcases hb9 with h2 | h2
      · exact Or.inl (List.mem_append_right _ (by simpa [h2] using h1'))
      · rw [h2] at h1'
        injection h1' with h1'
        right
        omega
end
end Go.Proofs.YtfchbppfbepelaaGreat
