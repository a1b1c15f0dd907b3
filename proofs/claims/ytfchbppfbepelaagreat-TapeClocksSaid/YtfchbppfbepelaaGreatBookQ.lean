/- Growing the book's lists: memory alone. -/
import Derived.Test.YtfchbppfbepelaaGreatBookP
namespace Go.Proofs.YtfchbppfbepelaaGreat
open Go.RowKit
set_option linter.unusedVariables false
section
variable {α : Type} {f : α → List Value} {N : Nat} {E SL : TypeId}
theorem mks_cat (mk : Nat → Nat → α) (i a n m : Nat) : mks mk i a n ++ mks mk i (a + n) m = mks mk i a (n + m) := by
  induction m with
  | zero => simp [mks_zero]
  | succ m ih => rw [mks_succ, ← List.append_assoc, ih, ← Nat.add_assoc, mks_succ, Nat.add_assoc]
theorem FrL.more {k : List (Bl α)} {a w w' : World} {S : List Nat} (h : FrL k a w) (hF : Fr S w w') (hS : ∀ q, q ∈ S → (∃ l, l ∈ k ∧ l.v.ownBlock = some q) ∨ a.heap.size ≤ q) : FrL k a w' := by
  obtain ⟨S0, h0, hS0⟩ := h
  refine ⟨S0 ++ S.filter (fun q => decide (q < a.heap.size)), (h0.mono (fun x hx => List.mem_append_left _ hx)).sub hF fun x hx => ?_, fun q hq => ?_⟩
  · by_cases hlt : x < a.heap.size
    · exact Or.inl (List.mem_append_right _ (List.mem_filter.2 ⟨hx, by simpa using hlt⟩))
    · exact Or.inr (Nat.not_lt.1 hlt)
  · rcases List.mem_append.1 hq with h1 | h1
    · exact hS0 q h1
    · obtain ⟨h2, h3⟩ := List.mem_filter.1 h1
      rcases hS q h2 with h4 | h4
      · exact h4
      · simp at h3; omega
/-- the lists grown so far -/
structure GrO (E SL : TypeId) (N : Nat) (f : α → List Value) (mk : Nat → Nat → α) (w0 w : World) (LV : Value) (k gs : List (Bl α)) (ov : Value) (j : Nat) : Prop where
  kd : Kd E SL N f w LV k
  fr : FrL k w0 w
  row : w.ownsRow w0.heap.size SL 1 ov j (gs.map (·.v))
  gl : ∀ g, g ∈ gs → w.ownsRow 0 E N g.v g.xs.length (rowF f g.xs)
  gm : Mk mk gs
  gn : gs.length = j
  gx : ∀ g, g ∈ gs → g.xs.length ≤ 2072
  gb : ∀ g, g ∈ gs → ∀ q, g.v.ownBlock = some q → (∃ (i : Nat) (u : Bl α), i < j ∧ k[i]? = some u ∧ u.v.ownBlock = some q) ∨ w0.heap.size ≤ q
  kb : ∀ u, u ∈ k → ∀ q, u.v.ownBlock = some q → q < w0.heap.size
  lvb : ∀ q, LV.ownBlock = some q → q < w0.heap.size
theorem GrO.start {mk : Nat → Nat → α} {w : World} {LV : Value} {k : List (Bl α)} (h : Kd E SL N f w LV k) : GrO E SL N f mk w w LV k [] (.slice none 0 0) 0 :=
  ⟨h, FrL.of (Fr.refl _ _), World.ownsRow_nil _ _ _ _, by simp, fun i l hi => by simp at hi, rfl, by simp, by simp, fun u hu q hq => by
    obtain ⟨cur, hc⟩ := rown_blk (h.ls u hu) q hq
    exact hc.lt, fun q hq => by
    obtain ⟨cur, hc⟩ := rown_blk h.row q hq
    exact hc.lt⟩
/-- the list that grows now -/
structure GrI (E SL : TypeId) (N : Nat) (f : α → List Value) (w0 w : World) (LV : Value) (k gs : List (Bl α)) (ov : Value) (rs j : Nat) (l : Bl α) (lv : Value) (zs : List α) : Prop where
  gw : Gw E SL N f w LV k gs rs j l lv zs
  fr : FrL k w0 w
  row : w.ownsRow w0.heap.size SL 1 ov j (gs.map (·.v))
  rs0 : w0.heap.size ≤ rs
theorem GrI.fr0 {w0 w w' : World} {LV ov lv : Value} {k gs : List (Bl α)} {rs j : Nat} {l : Bl α} {zs : List α} (h : GrI E SL N f w0 w LV k gs ov rs j l lv zs) (hF : Fr [] w w') : GrI E SL N f w0 w' LV k gs ov rs j l lv zs :=
  ⟨h.gw.fr0 hF, h.fr.trans (FrL.of hF), rown_frS h.row hF (by simp), h.rs0⟩
theorem GrO.enter {mk : Nat → Nat → α} {w0 w : World} {LV ov : Value} {k gs : List (Bl α)} {j : Nat} {l : Bl α} (h : GrO E SL N f mk w0 w LV k gs ov j) (hl : k[j]? = some l) : GrI E SL N f w0 w LV k gs ov w.heap.size j l l.v [] := by
  have hml := List.mem_of_getElem? hl
  refine ⟨⟨h.kd, h.gl, fun g hg q hq => ⟨?_, fun hlq => ?_⟩, hl, fun u hu q hq => Nat.lt_of_lt_of_le (h.kb u hu q hq) h.fr.size, Nat.le_refl _, by rw [List.append_nil]; exact h.kd.ls l hml, Or.inl rfl⟩, h.fr, h.row, h.fr.size⟩
  · obtain ⟨cur, hc⟩ := rown_blk (h.gl g hg) q hq
    exact hc.lt
  · rcases h.gb g hg q hq with ⟨i, u, hi, hu, hq2⟩ | h1
    · obtain ⟨hil, rfl⟩ := List.getElem?_eq_some_iff.1 hu
      obtain ⟨hjl, rfl⟩ := List.getElem?_eq_some_iff.1 hl
      exact List.pairwise_iff_getElem.1 h.kd.ap i j hil hjl hi q hq2 hlq
    · have := h.kb l hml q hlq
      omega
theorem GrI.step (hE : E ≠ SL) (hN0 : 0 < N) {mk : Nat → Nat → α} {w0 w v w' : World} {LV ov lv v' : Value} {k gs : List (Bl α)} {rs j n m : Nat} {l : Bl α} (h : GrI E SL N f w0 w LV k gs ov rs j l lv (mks mk j l.xs.length n)) (hZ : Fr [] w v)
    (ho : v.ownsRow 0 E N lv (l.xs.length + n) (rowF f (l.xs ++ mks mk j l.xs.length n)) → w'.ownsRow 0 E N v' (l.xs.length + n + m) (rowF f (l.xs ++ mks mk j l.xs.length n) ++ rowF f (mks mk j (l.xs.length + n) m)) ∧ v.grownBy w' lv.ownBlock ∧ (v'.ownBlock = lv.ownBlock ∨ v'.ownBlock = some v.heap.size) ∧ w'.ownsRow 0 E N lv (l.xs.length + n) (rowF f (l.xs ++ mks mk j l.xs.length n))) :
    GrI E SL N f w0 w' LV k gs ov rs j l v' (mks mk j l.xs.length (n + m)) := by
  have hv := h.fr0 hZ
  have hlen : (l.xs ++ mks mk j l.xs.length n).length = l.xs.length + n := by rw [List.length_append, mks_len]
  have hlo := hv.gw.lo
  rw [hlen] at hlo
  obtain ⟨h1, h2, h3, h4⟩ := ho hlo
  have hF := Fr.of_row h2
  have hg := hv.gw.step hE hN0 (v' := v') (news := mks mk j (l.xs.length + n) m) (w' := w') (by
    rw [rowF_append, List.length_append, mks_len, hlen]
    exact h1) h2 h3 (by rw [hlen]; exact h4)
  rw [mks_cat] at hg
  refine ⟨hg, hv.fr.more hF fun q hq => ?_, rown_frS hv.row hF fun q hq hqs => ?_, hv.rs0⟩
  · have hq' : lv.ownBlock = some q := by simpa using hq
    rcases hv.gw.lb with h5 | h5
    · exact Or.inl ⟨l, List.mem_of_getElem? hv.gw.jl, by rw [← h5]; exact hq'⟩
    · exact Or.inr (Nat.le_trans hv.rs0 (h5 q hq'))
  · obtain ⟨cur, hc⟩ := rown_blk hv.gw.lo q (by simpa using hqs)
    obtain ⟨cur', hc'⟩ := rown_blk hv.row q hq
    exact hc.neT hc' hE rfl
theorem GrI.leave (hE : E ≠ SL) {mk : Nat → Nat → α} {w0 w0' w v w' : World} {LV ov lv v' : Value} {k gs : List (Bl α)} {rs j : Nat} {l : Bl α} (h0 : GrO E SL N f mk w0 w0' LV k gs ov j) (hk : Mk mk k) (h : GrI E SL N f w0 w LV k gs ov rs j l lv (mks mk j l.xs.length 72)) (hZ : Fr [] w v)
    (ho : w'.ownsRow w0.heap.size SL 1 v' (j + 1) (gs.map (·.v) ++ [lv])) (hg : v.grownBy w' ov.ownBlock) : GrO E SL N f mk w0 w' LV k (gs ++ [⟨lv, mks mk j 0 (l.xs.length + 72)⟩]) v' (j + 1) := by
  have hv := h.fr0 hZ
  have hF := Fr.of_row hg
  have hml := List.mem_of_getElem? hv.gw.jl
  have hxs : l.xs ++ mks mk j l.xs.length 72 = mks mk j 0 (l.xs.length + 72) := by
    conv => lhs; rw [hk j l hv.gw.jl]
    rw [mks_len]
    exact mks_app mk j _ _
  have hlo := hv.gw.lo
  rw [hxs] at hlo
  have offE : ∀ {x : Value} {n : Nat} {ys : List Value}, v.ownsRow 0 E N x n ys → w'.ownsRow 0 E N x n ys := fun hx => rown_frS hx hF fun q hq hqs => by
    obtain ⟨cur, hc⟩ := rown_blk hx q hq
    obtain ⟨cur', hc'⟩ := rown_blk hv.row q (by simpa using hqs)
    exact hc.neT hc' hE rfl
  have hov : ∀ q, ov.ownBlock = some q → w0.heap.size ≤ q := fun q hq => own_new hv.row q hq
  refine ⟨⟨rown_frS hv.gw.kd.row hF fun q hq hqs => ?_, fun u hu => offE (hv.gw.kd.ls u hu), hv.gw.kd.sm, hv.gw.kd.ap⟩, hv.fr.more hF fun q hq => Or.inr (hov q (by simpa using hq)), by rw [List.map_append]; exact ho, fun g hg => ?_, fun i g hi => ?_, by rw [List.length_append, h0.gn]; rfl, fun g hg => ?_, fun g hg q hq => ?_, h0.kb, h0.lvb⟩
  · have h1 := hov q (by simpa using hqs)
    have := h0.lvb q hq
    omega
  · rcases List.mem_append.1 hg with h1 | h1
    · exact offE (hv.gw.gl g h1)
    · simp at h1; subst h1; exact offE hlo
  · rw [List.getElem?_append] at hi
    split at hi
    · exact h0.gm i g hi
    · rename_i hge
      have hil := (List.getElem?_eq_some_iff.1 hi).1
      simp at hil
      have : i = j := by have := h0.gn; omega
      subst this
      rw [h0.gn] at hi
      simp at hi
      subst hi
      simp [mks_len]
  · rcases List.mem_append.1 hg with h1 | h1
    · exact h0.gx g h1
    · simp at h1; subst h1; simp only [mks_len]; have := h0.kd.sm l hml; omega
  · rcases List.mem_append.1 hg with h1 | h1
    · rcases h0.gb g h1 q hq with ⟨i, u, hi, hu, hq2⟩ | h2
      · exact Or.inl ⟨i, u, by omega, hu, hq2⟩
      · exact Or.inr h2
    · simp at h1; subst h1
      rcases hv.gw.lb with h5 | h5
      · exact Or.inl ⟨j, l, by omega, hv.gw.jl, by rw [← h5]; exact hq⟩
      · exact Or.inr (Nat.le_trans hv.rs0 (h5 q hq))
/-- another kind's lists stay -/
theorem FrL.offT {β : Type} {g : β → List Value} {M : Nat} {E2 SL2 : TypeId} {LV : Value} {k : List (Bl α)} {w w' : World} (hF : FrL k w w') (hk : Kd E SL N f w LV k) (h1 : E ≠ E2) (h2 : E ≠ SL2) : ∃ S, Fr S w w' ∧ OffT E2 SL2 w S := by
  obtain ⟨S, hF, hS⟩ := hF
  refine ⟨S, hF, fun q hq cur T hB => ?_⟩
  obtain ⟨l, hl, hql⟩ := hS q hq
  obtain ⟨cur', hc⟩ := rown_blk (hk.ls l hl) q hql
  constructor
  · intro e; subst e; exact hc.neT hB h1 rfl
  · intro e; subst e; exact hc.neT hB h2 rfl
theorem Kd.offL {β : Type} {g : β → List Value} {M : Nat} {E2 SL2 : TypeId} {LV LV2 : Value} {k : List (Bl α)} {k2 : List (Bl β)} {w w' : World} (h : Kd E2 SL2 M g w LV2 k2) (hF : FrL k w w') (hk : Kd E SL N f w LV k) (h1 : E ≠ E2) (h2 : E ≠ SL2) : Kd E2 SL2 M g w' LV2 k2 := by
  obtain ⟨S, hF, hS⟩ := FrL.offT (g := g) (M := M) hF hk h1 h2
  exact h.off hF hS
theorem Ls.offL {β : Type} {g : β → List Value} {M : Nat} {E2 SL2 : TypeId} {LV LV2 : Value} {k : List (Bl α)} {k2 : List (Bl β)} {w w' : World} (h : Ls E2 SL2 M g w LV2 k2) (hF : FrL k w w') (hk : Kd E SL N f w LV k) (h1 : E ≠ E2) (h2 : E ≠ SL2) : Ls E2 SL2 M g w' LV2 k2 := by
  obtain ⟨S, hF, hS⟩ := FrL.offT (g := g) (M := M) hF hk h1 h2
  exact h.off hF hS
theorem GrO.toLs {mk : Nat → Nat → α} {w0 w : World} {LV ov : Value} {k gs : List (Bl α)} {j : Nat} (h : GrO E SL N f mk w0 w LV k gs ov j) : Ls E SL N f w ov gs :=
  ⟨by rw [h.gn]; exact rown_base h.row (Nat.zero_le _), h.gl⟩
theorem putT_sm (mk : Nat → Nat → α) (k : List (Bl α)) (j n : Nat) (h : ∀ l, l ∈ k → l.xs.length ≤ n) : ∀ l, l ∈ putT mk k j → l.xs.length ≤ n := fun l hl => by
  obtain ⟨i, hi⟩ := List.mem_iff_getElem?.1 hl
  simp only [putT, List.getElem?_mapIdx] at hi
  cases hk : k[i]? with
  | none => rw [hk] at hi; simp at hi
  | some u =>
    rw [hk] at hi
    simp only [Option.map_some, Option.some.injEq] at hi
    have hu := h u (List.mem_of_getElem? hk)
    split at hi
    · subst hi; simpa [mks_len] using hu
    · subst hi; exact hu
end
end Go.Proofs.YtfchbppfbepelaaGreat
