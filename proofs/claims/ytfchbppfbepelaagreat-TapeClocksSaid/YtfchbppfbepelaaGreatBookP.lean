/- Marking the book's lists: memory alone. -/
import Derived.Test.YtfchbppfbepelaaGreatBookN
namespace Go.Proofs.YtfchbppfbepelaaGreat
open Go.RowKit
set_option linter.unusedVariables false
section
variable {α : Type} {f : α → List Value} {N : Nat} {E SL : TypeId}
/-- marking list j: its first t elements are marked -/
structure PutI (E SL : TypeId) (N : Nat) (f : α → List Value) (mk : Nat → Nat → α) (w : World) (LV : Value) (k : List (Bl α)) (rs j t : Nat) (l : Bl α) (mv : Value) : Prop where
  jl : k[j]? = some l
  kd : Kd E SL N f w LV ((putT mk k j).set j ⟨l.v, mks mk j 0 t ++ l.xs.drop t⟩)
  mr : w.ownsRow rs E N mv l.xs.length (rowF f (mks mk j 0 l.xs.length))
  kb : ∀ q, l.v.ownBlock = some q → q < rs
theorem PutI.fr0 {mk : Nat → Nat → α} {w w' : World} {LV mv : Value} {k : List (Bl α)} {rs j t : Nat} {l : Bl α} (h : PutI E SL N f mk w LV k rs j t l mv) (hF : Fr [] w w') : PutI E SL N f mk w' LV k rs j t l mv :=
  ⟨h.jl, h.kd.fr0 hF, rown_frS h.mr hF (by simp), h.kb⟩
theorem set_self {β : Type} (l : List β) (j : Nat) (x : β) (h : l[j]? = some x) : l.set j x = l := by
  apply List.ext_getElem?
  intro i
  rw [List.getElem?_set]
  by_cases hij : j = i
  · subst hij
    rw [if_pos rfl, if_pos (List.getElem?_eq_some_iff.1 h).1, h]
  · rw [if_neg hij]
theorem PutI.start {mk : Nat → Nat → α} {w w' : World} {LV mv : Value} {k : List (Bl α)} {rs j : Nat} {l : Bl α} (h : Kd E SL N f w LV (putT mk k j)) (hl : k[j]? = some l) (hF : Fr [] w w') (hm : w'.ownsRow w.heap.size E N mv l.xs.length (rowF f (mks mk j 0 l.xs.length))) (hrs : rs ≤ w.heap.size) (hb : ∀ q, l.v.ownBlock = some q → q < rs) : PutI E SL N f mk w' LV k rs j 0 l mv :=
  ⟨hl, by
    rw [mks_zero, List.nil_append, List.drop_zero, set_self _ _ ⟨l.v, l.xs⟩ (putT_at mk k j hl)]
    exact h.fr0 hF, rown_base hm hrs, hb⟩
theorem PutI.done {mk : Nat → Nat → α} {w : World} {LV mv : Value} {k : List (Bl α)} {rs j : Nat} {l : Bl α} (h : PutI E SL N f mk w LV k rs j l.xs.length l mv) : Kd E SL N f w LV (putT mk k (j + 1)) := by
  have := h.kd
  rw [List.drop_length, List.append_nil, putT_set mk k j h.jl] at this
  exact this
theorem PutI.at_ {mk : Nat → Nat → α} {w : World} {LV mv : Value} {k : List (Bl α)} {rs j t : Nat} {l : Bl α} (hN : ∀ x, (f x).length = N) (hE : E ≠ SL) (h : PutI E SL N f mk w LV k rs j t l mv) (ht : t < l.xs.length) :
    ∃ q cap qm cm ql cl, l.v = .slice (some ⟨q, 0, none⟩) l.xs.length cap ∧ mv = .slice (some ⟨qm, 0, none⟩) l.xs.length cm ∧ LV = .slice (some ⟨ql, 0, none⟩) k.length cl ∧ l.xs.length ≤ cap ∧ cap ≤ maxLen ∧ l.xs.length ≤ cm ∧ cm ≤ maxLen ∧ k.length ≤ cl ∧ cl ≤ maxLen ∧
      (∀ W, Fr [q] w W → W.cell? ⟨ql, j, none⟩ = some l.v ∧ ∀ (i : Nat) v, (f (mk j t))[i]? = some v → W.cell? ⟨qm, t * N + i, none⟩ = some v) ∧ (∀ W, Fr [] w W → W.there q (t * N) N) ∧ (∃ cur, Blk w q cur E) ∧ l.v.ownBlock = some q ∧
      ∀ W, Fr [] w W → PutI E SL N f mk (W.setCells q (t * N) (f (mk j t))) LV k rs j (t + 1) l mv ∧ Fr [q] w (W.setCells q (t * N) (f (mk j t))) := by
  have hj := (List.getElem?_eq_some_iff.1 h.jl).1
  have hjs : ((putT mk k j).set j ⟨l.v, mks mk j 0 t ++ l.xs.drop t⟩)[j]? = some ⟨l.v, mks mk j 0 t ++ l.xs.drop t⟩ := by
    rw [List.getElem?_set, if_pos rfl, if_pos (by rw [putT_len]; exact hj)]
  have hlen : (mks mk j 0 t ++ l.xs.drop t).length = l.xs.length := by rw [List.length_append, mks_len, List.length_drop]; omega
  have hl := h.kd.ls _ (List.mem_of_getElem? hjs)
  simp only [hlen] at hl
  obtain ⟨q, cap, hv, hc1, hq⟩ := hl.form (by omega)
  have hlr := hl
  rw [hv] at hlr
  obtain ⟨qm, cm, hvm, hc2, hqm⟩ := h.mr.form (by omega)
  have hmr := h.mr
  rw [hvm] at hmr
  have hkl := h.kd.row
  rw [List.length_set, putT_len] at hkl
  obtain ⟨ql, cl, hvl, hc3, hql⟩ := hkl.form (by omega)
  rw [hvl] at hkl
  have hB : ∃ cur, Blk w q cur E := rown_blk hlr q rfl
  have hqrs : q < rs := h.kb q (by rw [hv]; rfl)
  have hmq : qm ≠ q := by
    have := hc2
    omega
  have hlq : ql ≠ q := by
    obtain ⟨cur, hc⟩ := hB
    obtain ⟨cur', hc'⟩ := rown_blk hkl ql rfl
    intro e
    subst e
    exact hc'.neT hc (Ne.symm hE) rfl
  refine ⟨q, cap, qm, cm, ql, cl, hv, hvm, hvl, (rown_caps hlr).1, (rown_caps hlr).2, (rown_caps hmr).1, (rown_caps hmr).2, (rown_caps hkl).1, (rown_caps hkl).2, fun W hW => ⟨?_, fun i v hi => ?_⟩, fun W hW => rown_there (rown_frS hlr hW (by simp)) t ht, hB, by rw [hv]; rfl, fun W hW => ?_⟩
  · rw [World.cell?_of_block (hW.block ql hql (by simpa using hlq)), hkl.cellAt j (by omega), List.map_set, List.getElem?_set, if_pos rfl, if_pos (by rw [List.length_map, putT_len]; exact hj)]
  · have hiN : i < N := by
      have := (List.getElem?_eq_some_iff.1 hi).1
      rw [hN] at this
      exact this
    have hlt : t * N + i < l.xs.length * N := by
      have : (t + 1) * N ≤ l.xs.length * N := Nat.mul_le_mul_right _ ht
      rw [Nat.add_mul] at this
      omega
    rw [World.cell?_of_block (hW.block qm hqm (by simpa using hmq)), hmr.cellAt _ hlt]
    rw [rowF_get hN _ t (mk j t) (by rw [mks_get mk j 0 _ t ht, Nat.zero_add]) i hiN]
    exact hi
  · have hk2 := (h.kd.fr0 hW).store hN hE hjs (q := q) (n := l.xs.length) (cap := cap) hv t (by simp only [hlen]; exact ht) (mk j t)
    have hF : Fr [q] W (W.setCells q (t * N) (f (mk j t))) := (Fr.refl [q] W).setCells _ _ _ (Or.inr (by simp))
    refine ⟨⟨h.jl, ?_, rown_frS (rown_frS h.mr hW (by simp)) hF fun q' hq' => ?_, h.kb⟩, (hW.mono (by simp)).trans hF⟩
    · rw [List.set_set, set_mks mk j t l.xs ht] at hk2
      exact hk2
    · rw [hvm] at hq'
      injection hq' with hq'
      subst hq'
      simpa using hmq
end
end Go.Proofs.YtfchbppfbepelaaGreat
