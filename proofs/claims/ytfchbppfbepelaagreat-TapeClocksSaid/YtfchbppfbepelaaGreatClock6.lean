/- A clock's timers: what holds of them; what is sorted is one list. No program is walked here. -/
import Derived.Test.YtfchbppfbepelaaGreatClock5
namespace Go.Proofs.YtfchbppfbepelaaGreat
open Go.RowKit Go.Maps
set_option linter.unusedVariables false
/-- what holds of a clock's numbers and timers -/
structure CI (n o : Int) (l : Tms) : Prop where
  n0 : 0 ≤ n
  n1 : n ≤ 1152921504606846976
  o0 : 0 ≤ o
  len : l.length ≤ 300
  keys : (l.map (·.1)).Nodup
  ords : (l.map (·.2.2)).Nodup
  le : ∀ p, p ∈ l → 1 ≤ p.2.2 ∧ p.2.2 ≤ o
theorem CI.new : CI 0 0 [] := ⟨by decide, by decide, by decide, by simp, by simp, by simp, by simp⟩
theorem mem_of_look {l : Tms} {k : Ky} {t : Tm} (h : look l k = some t) : (k, t) ∈ l := by
  unfold look at h
  cases hf : l.find? (fun p => decide (p.1 = k)) with
  | none => rw [hf] at h; cases h
  | some p =>
    rw [hf] at h
    simp at h
    have h1 := List.mem_of_find?_eq_some hf
    have h2 := List.find?_some hf
    simp at h2
    rw [← h, ← h2]; exact h1
theorem mem_put {l : Tms} {k : Ky} {t : Tm} {p : Ky × Tm} (h : p ∈ put l k t) : p = (k, t) ∨ (p ∈ l ∧ p.1 ≠ k) := by
  unfold put at h
  split at h
  · obtain ⟨q, hq, rfl⟩ := List.mem_map.1 h
    by_cases hk : q.1 = k
    · left; rw [if_pos hk]
    · right; rw [if_neg hk]; exact ⟨hq, hk⟩
  · rename_i hs
    rcases List.mem_append.1 h with h | h
    · right
      refine ⟨h, fun e => ?_⟩
      have hn : look l k = none := by simpa using hs
      exact (look_none.1 hn) p h e
    · left; simpa using h
theorem CI.put_ {n o : Int} {l : Tms} (h : CI n o l) (k : Ky) (a : Int) (hl : (look l k).isSome = true ∨ l.length < 300) : CI n (o + 1) (put l k (a, o + 1)) := by
  refine ⟨h.n0, h.n1, by have := h.o0; omega, ?_, ?_, ?_, ?_⟩
  · rw [put_length]
    have := h.len
    rcases hl with hl | hl
    · rw [if_pos hl]; exact this
    · split <;> omega
  · unfold put
    split
    · have : (l.map fun p => if p.1 = k then (k, (a, o + 1)) else p).map (·.1) = l.map (·.1) := by
        rw [List.map_map]
        apply List.map_congr_left
        intro p _
        simp only [Function.comp_apply]
        split
        · rename_i h1; exact h1.symm
        · rfl
      rw [this]; exact h.keys
    · rename_i hs
      rw [List.map_append, List.nodup_append]
      refine ⟨h.keys, by simp, ?_⟩
      intro x hx y hy
      simp at hy
      subst hy
      obtain ⟨p, hp, rfl⟩ := List.mem_map.1 hx
      have hn : look l y = none := by simpa using hs
      exact (look_none.1 hn) p hp
  · unfold put
    split
    · have hk := h.keys
      have ho := h.ords
      have hle := h.le
      clear hl
      rename_i hs
      clear hs
      generalize l = L at *
      have hle2 : ∀ p, p ∈ L → p.2.2 ≤ o := fun p hp => (hle p hp).2
      clear hle h
      induction L with
      | nil => simp
      | cons x r ih =>
        simp only [List.map_cons, List.nodup_cons] at hk ho ⊢
        refine ⟨?_, ih hk.2 ho.2 (fun p hp => hle2 p (List.mem_cons_of_mem _ hp))⟩
        intro hm
        rw [List.map_map] at hm
        obtain ⟨q, hq, he⟩ := List.mem_map.1 hm
        simp only [Function.comp_apply] at he
        have h1 := hle2 x List.mem_cons_self
        have h2 := hle2 q (List.mem_cons_of_mem _ hq)
        by_cases hx : x.1 = k
        · by_cases hqk : q.1 = k
          · exact hk.1 (List.mem_map.2 ⟨q, hq, by rw [hqk, hx]⟩)
          · rw [if_neg hqk, if_pos hx] at he
            simp at he; omega
        · by_cases hqk : q.1 = k
          · rw [if_pos hqk, if_neg hx] at he
            simp at he; omega
          · rw [if_neg hqk, if_neg hx] at he
            exact ho.1 (List.mem_map.2 ⟨q, hq, he⟩)
    · rw [List.map_append, List.nodup_append]
      refine ⟨h.ords, by simp, ?_⟩
      intro x hx y hy
      simp at hy
      subst hy
      obtain ⟨p, hp, rfl⟩ := List.mem_map.1 hx
      have := (h.le p hp).2
      omega
  · intro p hp
    rcases mem_put hp with rfl | ⟨hp, _⟩
    · have := h.o0; simp; omega
    · have := h.le p hp
      omega
theorem CI.filter_ {n o : Int} {l : Tms} (h : CI n o l) (q : Ky × Tm → Bool) : CI n o (l.filter q) :=
  ⟨h.n0, h.n1, h.o0, Nat.le_trans (List.length_filter_le _ _) h.len, List.Nodup.sublist (List.Sublist.map _ List.filter_sublist) h.keys, List.Nodup.sublist (List.Sublist.map _ List.filter_sublist) h.ords, fun p hp => h.le p (List.mem_filter.1 hp).1⟩
theorem CI.set_ {n o : Int} {l : Tms} (h : CI n o l) (k : Ky) (a : Int) : CI n (setO o l k a) (setL n o l k a) := by
  unfold setO setL
  by_cases he : setE l k a = 0
  · rw [if_pos he, if_pos he]
    refine h.put_ k (n + a) ?_
    unfold setE at he
    split at he
    · cases he
    · split at he
      · cases he
      · rename_i h1
        cases hs : (look l k).isSome with
        | true => exact Or.inl rfl
        | false => right; apply Classical.byContradiction; intro hc; exact h1 ⟨hs, by omega⟩
  · rw [if_neg he, if_neg he]; exact h
theorem setO_le (o : Int) (l : Tms) (k : Ky) (a : Int) : o ≤ setO o l k a ∧ setO o l k a ≤ o + 1 := by unfold setO; split <;> omega
theorem CI.later_ {n o : Int} {l : Tms} (h : CI n o l) (a : Int) (a0 : 1 ≤ a) : CI (later n a) o l := by
  have h0 := h.n0
  refine ⟨?_, ?_, h.o0, h.len, h.keys, h.ords, h.le⟩
  · unfold later; omega
  · unfold later; omega
theorem look_mem {l : Tms} (hn : (l.map (·.1)).Nodup) {p : Ky × Tm} (hp : p ∈ l) : look l p.1 = some p.2 := (look_some hn).2 hp
theorem mem_dks {N : Int} {l : Tms} {k : Ky} (h : k ∈ dks N l) : ∃ t, (k, t) ∈ l ∧ t.1 ≤ N := by
  unfold dks at h
  obtain ⟨p, hp, rfl⟩ := List.mem_map.1 h
  obtain ⟨h1, h2⟩ := List.mem_filter.1 hp
  exact ⟨p.2, h1, by simpa using h2⟩
/-- two keys that are there, neither ahead of the other, are one -/
theorem kcmp_one {n o : Int} {l : Tms} (h : CI n o l) {x y : Ky} {s t : Tm} (hx : (x, s) ∈ l) (hy : (y, t) ∈ l) (h1 : ¬ kcmp l x y < 0) (h2 : ¬ kcmp l y x < 0) : x = y := by
  unfold kcmp at h1 h2
  have e1 := look_mem h.keys hx
  have e2 := look_mem h.keys hy
  simp only at e1 e2
  rw [e1, e2, tcmp_neg] at h1 h2
  simp only [tmD, Option.getD_some] at h1 h2
  have h3 : s.2 = t.2 := by omega
  have := inj_of_nodup (f := fun p : Ky × Tm => p.2.2) h.ords hx hy h3
  exact congrArg (·.1) this
theorem sorted_eq {l : Tms} : ∀ {a b : List Ky}, a.Perm b → Sorted_ l a → Sorted_ l b → (∀ x, x ∈ a → ∀ y, y ∈ a → ¬ kcmp l x y < 0 → ¬ kcmp l y x < 0 → x = y) → a = b := by
  intro a
  induction a with
  | nil => intro b hp _ _ _; exact (List.Perm.nil_eq hp)
  | cons x r ih =>
    intro b hp ha hb ht
    cases b with
    | nil => exact absurd hp.length_eq (by simp)
    | cons y s =>
      unfold Sorted_ at ha hb
      rw [List.pairwise_cons] at ha hb
      have hxy : x = y := by
        have hyx : y ∈ x :: r := hp.mem_iff.2 List.mem_cons_self
        have hxs : x ∈ y :: s := hp.mem_iff.1 List.mem_cons_self
        rcases List.mem_cons.1 hyx with h | h
        · exact h.symm
        · rcases List.mem_cons.1 hxs with h' | h'
          · exact h'
          · exact ht x List.mem_cons_self y hyx (hb.1 x h') (ha.1 y h)
      subst hxy
      rw [ih (List.Perm.cons_inv hp) ha.2 hb.2 (fun u hu v hv => ht u (List.mem_cons_of_mem _ hu) v (List.mem_cons_of_mem _ hv))]
/-- what Tick tells is one list -/
theorem tick_one {n o N : Int} {l : Tms} (h : CI n o l) {a b : List Ky} (ha : a.Perm (dks N l)) (hb : b.Perm (dks N l)) (sa : Sorted_ l a) (sb : Sorted_ l b) : a = b := by
  refine sorted_eq (ha.trans hb.symm) sa sb ?_
  intro x hx y hy h1 h2
  obtain ⟨s, hs, _⟩ := mem_dks (ha.mem_iff.1 hx)
  obtain ⟨t, ht, _⟩ := mem_dks (ha.mem_iff.1 hy)
  exact kcmp_one h hs ht h1 h2
theorem undue_len (N : Int) (l : Tms) : (undue N l).length + (dks N l).length = l.length := by
  unfold undue dks
  rw [List.length_map]
  induction l with
  | nil => rfl
  | cons p r ih =>
    rw [List.filter_cons, List.filter_cons]
    by_cases h : p.2.1 ≤ N
    · simp [h] at ih ⊢; omega
    · simp [h] at ih ⊢; omega
theorem look_filter {l : Tms} (hn : (l.map (·.1)).Nodup) (q : Ky × Tm → Bool) (k : Ky) : look (l.filter q) k = match look l k with | some t => if q (k, t) then some t else none | none => none := by
  have hn2 : ((l.filter q).map (·.1)).Nodup := List.Nodup.sublist (List.Sublist.map _ List.filter_sublist) hn
  cases h : look l k with
  | none =>
    simp only
    rw [look_none] at h ⊢
    exact fun p hp => h p (List.mem_filter.1 hp).1
  | some t =>
    have hm := mem_of_look h
    simp only
    by_cases hq : q (k, t) = true
    · rw [if_pos hq]
      exact (look_some hn2).2 (List.mem_filter.2 ⟨hm, hq⟩)
    · rw [if_neg hq, look_none]
      intro p hp e
      obtain ⟨h1, h2⟩ := List.mem_filter.1 hp
      have : p = (k, t) := inj_of_nodup hn h1 hm e
      rw [this] at h2
      exact hq h2
end Go.Proofs.YtfchbppfbepelaaGreat
