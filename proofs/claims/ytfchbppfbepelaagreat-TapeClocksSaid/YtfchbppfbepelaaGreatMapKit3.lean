/- Maps whose entries are known as a list of pairs: 'for k, v := range m' with a round that makes memory. No program is spoken of here. -/
import Derived.Test.YtfchbppfbepelaaGreatMapKit
import Derived.Maps.RangeRun
namespace Go.Proofs.YtfchbppfbepelaaGreat
open Go.RowKit Go.Maps
set_option linter.unusedVariables false
section
variable {P : Program} {k e t : TypeId} {κ ν : Type} [DecidableEq κ] {E : KeyEnc P k κ} {ev : ν → Value} {w : World} {b r : Nat} {l rest : List (κ × ν)}
/-- block r ranges over the map b, which holds l; rest is still to come -/
structure Iter (E : KeyEnc P k κ) (ev : ν → Value) (w : World) (b r : Nat) (l rest : List (κ × ν)) : Prop where
  mp : MapIs E ev w b l
  nd : (rest.map (·.1)).Nodup
  it : ∃ es clock since c0 seen, w.heap[b]? = some (.map es clock) ∧ w.heap[r]? = some (.mapIter (some b) since seen c0) ∧ (∀ x ∈ es.toList, x.born < since) ∧ since ≤ c0 ∧ since ≤ clock ∧
    (leftOf es seen).toList.map (fun x => (x.key, x.val)) = rest.map (fun p => (E.ek p.1, ev p.2))
omit [DecidableEq κ] in
theorem Iter.rlt (h : Iter E ev w b r l rest) : r < w.heap.size := by
  obtain ⟨es, cl, s, c0, seen, _, hr, _⟩ := h.it
  exact (Array.getElem?_eq_some_iff.1 hr).1
omit [DecidableEq κ] in
theorem Iter.fr {w' : World} {S : List Nat} (h : Iter E ev w b r l rest) (hF : Fr S w w') (hb : b ∉ S) (hr : r ∉ S) : Iter E ev w' b r l rest := by
  have hlt := h.rlt
  have hbl := h.mp.lt
  obtain ⟨hm, hn, es, cl, s, c0, seen, h1, h2, h3⟩ := h
  exact ⟨hm.fr hF hb, hn, es, cl, s, c0, seen, by rw [hF.block b hbl hb]; exact h1, by rw [hF.block r hlt hr]; exact h2, h3⟩
omit [DecidableEq κ] in
theorem MapIs.range (h : MapIs E ev w b l) (ht : P.underlying t = some (.map k e)) :
    ∃ c, (Instr.range t (.map (some b))).run P w = .ok (.pointer (some ⟨w.heap.size, 0, none⟩)) (w.alloc (.mapIter (some b) c #[] c)) ∧ Iter E ev (w.alloc (.mapIter (some b) c #[] c)) b w.heap.size l l := by
  have hnd := h.nodup
  have hlt := h.lt
  have h' := h
  obtain ⟨es, clock, hb, hs, hst, he, hV⟩ := h
  refine ⟨clock, run_range_map w t k e b es clock ht hb, h'.fr ((Fr.refl [] w).alloc _) (by simp), hnd, es, clock, clock, clock, #[], ?_, ?_, hst.1, Nat.le_refl _, Nat.le_refl _, ?_⟩
  · rw [heap_alloc_old w _ hlt]; exact hb
  · exact heap_alloc_new w _
  · have : leftOf es #[] = es := by unfold leftOf; simp
    rw [this]; exact he
theorem map_filter_two {α β γ : Type} (f : α → γ) (g : β → γ) (p : α → Bool) (q : β → Bool) : ∀ (L : List α) (R : List β), L.map f = R.map g → (∀ x ∈ L, ∀ y ∈ R, f x = g y → p x = q y) → (L.filter p).map f = (R.filter q).map g
  | [], [], _, _ => rfl
  | [], _ :: _, h, _ => by simp at h
  | _ :: _, [], h, _ => by simp at h
  | x :: L, y :: R, h, hpq => by
    simp only [List.map_cons, List.cons.injEq] at h
    have ih := map_filter_two f g p q L R h.2 (fun a ha c hc => hpq a (List.mem_cons_of_mem _ ha) c (List.mem_cons_of_mem _ hc))
    have hxy := hpq x List.mem_cons_self y List.mem_cons_self h.1
    rw [List.filter_cons, List.filter_cons, hxy]
    split
    · simp [h.1, ih]
    · exact ih
theorem inj_of_nodup {α β : Type} {f : α → β} : ∀ {l : List α}, (l.map f).Nodup → ∀ {a c : α}, a ∈ l → c ∈ l → f a = f c → a = c
  | [], _, _, _, h, _, _ => by cases h
  | x :: l, hn, a, c, ha, hc, he => by
    simp only [List.map_cons, List.nodup_cons] at hn
    rcases List.mem_cons.1 ha with rfl | ha'
    · rcases List.mem_cons.1 hc with rfl | hc'
      · rfl
      · exact absurd (List.mem_map.2 ⟨c, hc', he.symm⟩) hn.1
    · rcases List.mem_cons.1 hc with rfl | hc'
      · exact absurd (List.mem_map.2 ⟨a, ha', he⟩) hn.1
      · exact inj_of_nodup hn.2 ha' hc' he
theorem perm_out (rest : List (κ × ν)) (p : κ × ν) (hn : (rest.map (·.1)).Nodup) (hp : p ∈ rest) : rest.Perm (p :: rest.filter (fun q => decide (q.1 ≠ p.1))) := by
  induction rest with
  | nil => cases hp
  | cons x l ih =>
    simp only [List.map_cons, List.nodup_cons] at hn
    rcases List.mem_cons.1 hp with rfl | hp'
    · have : l.filter (fun q => decide (q.1 ≠ p.1)) = l := List.filter_eq_self.2 fun y hy => by
        simp only [decide_eq_true_eq]
        exact fun e => hn.1 (List.mem_map.2 ⟨y, hy, e⟩)
      rw [List.filter_cons, if_neg (by simp), this]
    · have hxp : x.1 ≠ p.1 := fun e => hn.1 (List.mem_map.2 ⟨p, hp', e.symm⟩)
      rw [List.filter_cons, if_pos (by simpa using hxp)]
      exact (List.Perm.cons x (ih hn.2 hp')).trans (List.Perm.swap p x _)
theorem Iter.next (h : Iter E ev w b r l rest) (hrb : r ≠ b) (ty : TypeId) :
    (rest = [] ∧ (Instr.next (.pointer (some ⟨r, 0, none⟩)) false ty).run P w = .ok (.tuple #[.bool false]) w) ∨
    ∃ p, p ∈ rest ∧ ∃ w', (Instr.next (.pointer (some ⟨r, 0, none⟩)) false ty).run P w = .ok (.tuple #[.bool true, E.ek p.1, ev p.2]) w' ∧
      Iter E ev w' b r l (rest.filter (fun q => decide (q.1 ≠ p.1))) ∧ (Instr.entry (.pointer (some ⟨r, 0, none⟩))).run P w' = .ok (.tuple #[E.ek p.1, ev p.2]) w' ∧ Fr [r] w w' := by
  have hm := h.mp
  have hbl := hm.lt
  have hrl := h.rlt
  obtain ⟨_, hn, es, cl, s, c0, seen, hb, hr, hold, hsc, hscl, hL⟩ := h
  obtain ⟨es', cl', hb', hsz, hst, he, hV⟩ := id hm
  have hbe := hb
  rw [hb'] at hbe
  obtain ⟨rfl, rfl⟩ : es' = es ∧ cl' = cl := by injection hbe with hbe; injection hbe with h1 h2; exact ⟨h1, h2⟩
  rcases run_next_at (P := P) w ty r b s c0 seen es' cl' hr hb hold hsc with ⟨h0, hrun⟩ | ⟨e0, he0, w1, hw1, hrun⟩
  · left
    refine ⟨?_, hrun⟩
    have : (leftOf es' seen).toList = [] := by
      apply List.eq_nil_of_length_eq_zero
      rw [Array.length_toList]; exact h0
    rw [this] at hL
    cases rest with
    | nil => rfl
    | cons x r => simp at hL
  · right
    have hmem : (e0.key, e0.val) ∈ (leftOf es' seen).toList.map (fun x => (x.key, x.val)) := List.mem_map.2 ⟨e0, he0, rfl⟩
    rw [hL] at hmem
    obtain ⟨p, hp, hpe⟩ := List.mem_map.1 hmem
    simp only [Prod.mk.injEq] at hpe
    have he0s : e0 ∈ es'.toList := by
      unfold leftOf at he0
      rw [Array.toList_filter] at he0
      exact (List.mem_filter.1 he0).1
    have hw1h : w1.heap = w.heap := by rcases hw1 with rfl | rfl <;> rfl
    have hr1 : w1.heap[r]? = some (.mapIter (some b) s seen c0) := by rw [hw1h]; exact hr
    have hFr : Fr [r] w (ChangeMaps.setBlock w1 r (.mapIter (some b) s (seen.push e0.born) cl')) := by
      refine ⟨?_, ?_, ?_, by simp [ChangeMaps.setBlock, hw1h], fun i _ hi => ?_⟩
      · rcases hw1 with rfl | rfl <;> rfl
      · rcases hw1 with rfl | rfl <;> rfl
      · rcases hw1 with rfl | rfl <;> rfl
      · show (w1.heap.setIfInBounds r _)[i]? = _
        rw [Array.getElem?_setIfInBounds_ne (fun e => hi (by rw [← e]; simp)), hw1h]
    have hr2 : (ChangeMaps.setBlock w1 r (.mapIter (some b) s (seen.push e0.born) cl')).heap[r]? = some (.mapIter (some b) s (seen.push e0.born) cl') := by
      show (w1.heap.setIfInBounds r _)[r]? = _
      rw [Array.getElem?_setIfInBounds_self_of_lt (by rw [hw1h]; exact hrl)]
    have hb2 : (ChangeMaps.setBlock w1 r (.mapIter (some b) s (seen.push e0.born) cl')).heap[b]? = some (.map es' cl') := by
      rw [hFr.block b hbl (by simp; exact fun e => hrb e.symm)]; exact hb
    refine ⟨p, hp, _, by rw [hrun, hpe.1, hpe.2], ⟨hm.fr hFr (by simp; exact fun e => hrb e.symm), ?_, es', cl', s, cl', seen.push e0.born, hb2, hr2, hold, hscl, hscl, ?_⟩, ?_, hFr⟩
    · exact List.Nodup.sublist (List.Sublist.map _ List.filter_sublist) hn
    · have hpush : (leftOf es' (seen.push e0.born)).toList = (leftOf es' seen).toList.filter (fun x => decide (x.born ≠ e0.born)) := by
        unfold leftOf
        rw [Array.toList_filter, Array.toList_filter, List.filter_filter]
        apply List.filter_congr
        intro x _
        rw [Bool.eq_iff_iff]
        simp
        exact And.comm
      rw [hpush]
      refine map_filter_two _ _ _ _ _ _ hL ?_
      intro x hx y hy hxy
      simp only [Prod.mk.injEq] at hxy
      have hxs : x ∈ es'.toList := by
        unfold leftOf at hx
        rw [Array.toList_filter] at hx
        exact (List.mem_filter.1 hx).1
      rw [decide_eq_decide]
      constructor
      · intro hne e
        apply hne
        have : x = e0 := inj_of_nodup hst.2.2 hxs he0s (by rw [hxy.1, e, hpe.1])
        rw [this]
      · intro hne e
        apply hne
        have : x = e0 := inj_of_nodup hst.2.1 hxs he0s e
        exact E.inj _ _ (by rw [← hxy.1, this, hpe.1])
    · rw [run_entry_at (P := P) _ r b s seen es' cl' e0 hr2 hb2 he0s hst.2.1, hpe.1, hpe.2]
end
end Go.Proofs.YtfchbppfbepelaaGreat
