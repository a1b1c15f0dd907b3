/- a pool's two maps, as a row of places. No program is spoken of here but for the types of the keys. -/
import Derived.Test.YtnenmgankgadcaaPoolKey
namespace Go.Proofs.Ytnenmgankgadcaa
open Go.RowKit Go.Maps
set_option linter.unusedVariables false

def numb (b : Ad) : Int := num4 b.1 b.2.1 b.2.2.1 b.2.2.2
def cnt (s : List (Option Ky)) : Nat := (s.filter Option.isSome).length
structure Rel (s : List (Option Ky)) (x0 : Int) (H : List (Ky × Ad)) (M : List (Ad × Ky)) : Prop where
  lo : 0 ≤ x0
  hi : x0 + s.length ≤ 4294967296
  h : ∀ k a, look H k = some a ↔ ∃ i : Nat, s[i]? = some (some k) ∧ a = adq (x0 + i)
  m : ∀ a k, look M a = some k ↔ ∃ i : Nat, s[i]? = some (some k) ∧ a = adq (x0 + i)
  len : H.length = cnt s
  mlen : M.length = cnt s
theorem at_lt {s : List (Option Ky)} {i : Nat} {v : Option Ky} (h : s[i]? = some v) : i < s.length := (List.getElem?_eq_some_iff.1 h).1
section
variable {s : List (Option Ky)} {x0 : Int} {H : List (Ky × Ad)} {M : List (Ad × Ky)} {k : Ky} {i j : Nat}
theorem Rel.adq_at (r : Rel s x0 H M) (hi : i < s.length) (hj : j < s.length) (h : adq (x0 + i) = adq (x0 + j)) : i = j := by
  have h1 := r.lo
  have h2 := r.hi
  have := adq_inj (x := x0 + i) (y := x0 + j) (by omega) (by omega) h
  omega
theorem Rel.same (r : Rel s x0 H M) (hi : s[i]? = some (some k)) (hj : s[j]? = some (some k)) : i = j := by
  have a := (r.h k _).2 ⟨i, hi, rfl⟩
  have b := (r.h k _).2 ⟨j, hj, rfl⟩
  rw [a] at b
  exact r.adq_at (at_lt hi) (at_lt hj) (by injection b)
theorem Rel.has (r : Rel s x0 H M) (hi : s[i]? = some (some k)) : look H k = some (adq (x0 + i)) := (r.h k _).2 ⟨i, hi, rfl⟩
theorem Rel.hasnt (r : Rel s x0 H M) (hn : ∀ i : Nat, s[i]? ≠ some (some k)) : look H k = none := by
  cases hl : look H k with
  | none => rfl
  | some a =>
    obtain ⟨i, hi, _⟩ := (r.h k a).1 hl
    exact absurd hi (hn i)
theorem Rel.who (r : Rel s x0 H M) (hi : s[i]? = some (some k)) : look M (adq (x0 + i)) = some k := (r.m _ k).2 ⟨i, hi, rfl⟩
theorem Rel.whont (r : Rel s x0 H M) (hi : s[i]? = some none) : look M (adq (x0 + i)) = none := by
  cases hl : look M (adq (x0 + i)) with
  | none => rfl
  | some k =>
    obtain ⟨j, hj, he⟩ := (r.m _ k).1 hl
    have := r.adq_at (at_lt hi) (at_lt hj) he
    subst this
    rw [hi] at hj
    cases hj
theorem Rel.whoout (r : Rel s x0 H M) (a : Ad) (hn : ∀ i : Nat, i < s.length → a ≠ adq (x0 + i)) : look M a = none := by
  cases hl : look M a with
  | none => rfl
  | some k =>
    obtain ⟨j, hj, he⟩ := (r.m _ k).1 hl
    exact absurd he (hn j (at_lt hj))
theorem cnt_set (s : List (Option Ky)) (i : Nat) (hi : s[i]? = some none) (k : Ky) : cnt (s.set i (some k)) = cnt s + 1 := by
  unfold cnt
  induction s generalizing i with
  | nil => simp at hi
  | cons v r ih =>
    cases i with
    | zero =>
      simp only [List.getElem?_cons_zero, Option.some.injEq] at hi
      subst hi
      simp
    | succ i =>
      simp only [List.getElem?_cons_succ] at hi
      rw [List.set_cons_succ, List.filter_cons, List.filter_cons]
      have := ih i hi
      split <;> (try simp only [List.length_cons]) <;> omega
theorem cnt_clear (s : List (Option Ky)) (i : Nat) (k : Ky) (hi : s[i]? = some (some k)) : cnt (s.set i none) + 1 = cnt s := by
  unfold cnt
  induction s generalizing i with
  | nil => simp at hi
  | cons v r ih =>
    cases i with
    | zero =>
      simp only [List.getElem?_cons_zero, Option.some.injEq] at hi
      subst hi
      simp
    | succ i =>
      simp only [List.getElem?_cons_succ] at hi
      rw [List.set_cons_succ, List.filter_cons, List.filter_cons]
      have := ih i hi
      split <;> (try simp only [List.length_cons]) <;> omega
theorem cnt_le (s : List (Option Ky)) : cnt s ≤ s.length := List.length_filter_le _ _
theorem del_length {κ ν : Type} [DecidableEq κ] (l : List (κ × ν)) (x : κ) (hn : (l.map (·.1)).Nodup) {v : ν} (h : look l x = some v) : (del l x).length + 1 = l.length := by
  obtain ⟨j, hj, hx⟩ := List.getElem_of_mem ((look_some hn).1 h)
  have e := filter_entry (j := j) (p := (x, v)) hn (by rw [List.getElem?_eq_getElem hj, hx]) rfl
  rw [← e, List.length_eraseIdx]
  rw [if_pos hj]
  omega
theorem Rel.take (r : Rel s x0 H M) (hn : ∀ i : Nat, s[i]? ≠ some (some k)) (hi : s[i]? = some none) : Rel (s.set i (some k)) x0 (put H k (adq (x0 + i))) (put M (adq (x0 + i)) k) := by
  have hil := at_lt hi
  refine ⟨r.lo, by rw [List.length_set]; exact r.hi, fun k' a => ?_, fun a k' => ?_, ?_, ?_⟩
  · by_cases hk : k' = k
    · subst hk
      rw [look_put_same]
      constructor
      · intro h
        injection h with h
        exact ⟨i, by simp [hil], h.symm⟩
      · rintro ⟨j, hj, rfl⟩
        rw [List.getElem?_set] at hj
        split at hj
        · rename_i hij; subst hij; rfl
        · exact absurd hj (hn j)
    · rw [look_put_other _ _ _ _ hk, r.h]
      constructor
      · rintro ⟨j, hj, rfl⟩
        refine ⟨j, ?_, rfl⟩
        rw [List.getElem?_set]
        split
        · rename_i hij; subst hij; rw [hi] at hj; cases hj
        · exact hj
      · rintro ⟨j, hj, rfl⟩
        rw [List.getElem?_set] at hj
        split at hj
        · injection hj with hj; injection hj with hj; exact absurd hj.symm hk
        · exact ⟨j, hj, rfl⟩
  · by_cases ha : a = adq (x0 + i)
    · subst ha
      rw [look_put_same]
      constructor
      · intro h
        injection h with h
        subst h
        exact ⟨i, by simp [hil], rfl⟩
      · rintro ⟨j, hj, he⟩
        have hjl := at_lt hj
        rw [List.length_set] at hjl
        have := r.adq_at hil hjl he
        subst this
        rw [List.getElem?_set, if_pos rfl, if_pos hil] at hj
        injection hj
    · rw [look_put_other _ _ _ _ ha, r.m]
      constructor
      · rintro ⟨j, hj, rfl⟩
        refine ⟨j, ?_, rfl⟩
        rw [List.getElem?_set]
        split
        · rename_i hij; subst hij; exact absurd rfl ha
        · exact hj
      · rintro ⟨j, hj, rfl⟩
        rw [List.getElem?_set] at hj
        split at hj
        · rename_i hij; subst hij; exact absurd rfl ha
        · exact ⟨j, hj, rfl⟩
  · rw [put_length, r.hasnt hn, cnt_set s i hi k, r.len]; simp
  · rw [put_length, r.whont hi, cnt_set s i hi k, r.mlen]; simp
theorem Rel.give (r : Rel s x0 H M) (hn1 : (H.map (·.1)).Nodup) (hn2 : (M.map (·.1)).Nodup) (hi : s[i]? = some (some k)) : Rel (s.set i none) x0 (del H k) (del M (adq (x0 + i))) := by
  have hil := at_lt hi
  refine ⟨r.lo, by rw [List.length_set]; exact r.hi, fun k' a => ?_, fun a k' => ?_, ?_, ?_⟩
  · by_cases hk : k' = k
    · subst hk
      rw [look_del_same]
      constructor
      · intro h; cases h
      · rintro ⟨j, hj, rfl⟩
        rw [List.getElem?_set] at hj
        split at hj
        · first | cases hj | (split at hj <;> cases hj)
        · rename_i hij
          exact absurd (r.same hi hj) hij
    · rw [look_del_other _ _ _ hk, r.h]
      constructor
      · rintro ⟨j, hj, rfl⟩
        refine ⟨j, ?_, rfl⟩
        rw [List.getElem?_set]
        split
        · rename_i hij; subst hij; rw [hi] at hj; injection hj with hj; injection hj with hj; exact absurd hj.symm hk
        · exact hj
      · rintro ⟨j, hj, rfl⟩
        rw [List.getElem?_set] at hj
        split at hj
        · first | cases hj | (split at hj <;> cases hj)
        · exact ⟨j, hj, rfl⟩
  · by_cases ha : a = adq (x0 + i)
    · subst ha
      rw [look_del_same]
      constructor
      · intro h; cases h
      · rintro ⟨j, hj, he⟩
        have hjl := at_lt hj
        rw [List.length_set] at hjl
        have := r.adq_at hil hjl he
        subst this
        rw [List.getElem?_set, if_pos rfl, if_pos hil] at hj
        cases hj
    · rw [look_del_other _ _ _ ha, r.m]
      constructor
      · rintro ⟨j, hj, rfl⟩
        refine ⟨j, ?_, rfl⟩
        rw [List.getElem?_set]
        split
        · rename_i hij; subst hij; exact absurd rfl ha
        · exact hj
      · rintro ⟨j, hj, rfl⟩
        rw [List.getElem?_set] at hj
        split at hj
        · rename_i hij; subst hij; exact absurd rfl ha
        · exact ⟨j, hj, rfl⟩
  · have := del_length H k hn1 (r.has hi)
    have := cnt_clear s i k hi
    have := r.len
    omega
  · have := del_length M _ hn2 (r.who hi)
    have := cnt_clear s i k hi
    have := r.mlen
    omega
theorem rel_new (n : Nat) (x0 : Int) (lo : 0 ≤ x0) (hi : x0 + n ≤ 4294967296) : Rel (List.replicate n none) x0 [] [] := by
  have hn : ∀ (i : Nat) (k : Ky), (List.replicate n (none : Option Ky))[i]? ≠ some (some k) := fun i k h => by
    rw [List.getElem?_replicate] at h
    split at h <;> simp at h
  have hc : cnt (List.replicate n none) = 0 := by
    unfold cnt
    rw [List.length_eq_zero_iff, List.filter_eq_nil_iff]
    intro a ha
    rw [List.eq_of_mem_replicate ha]; simp
  refine ⟨lo, by rw [List.length_replicate]; exact hi, fun k a => ?_, fun a k => ?_, by rw [hc]; rfl, by rw [hc]; rfl⟩
  · simp only [look]
    constructor
    · intro h; simp at h
    · rintro ⟨i, h, _⟩; exact absurd h (hn i k)
  · simp only [look]
    constructor
    · intro h; simp at h
    · rintro ⟨i, h, _⟩; exact absurd h (hn i k)
end
end Go.Proofs.Ytnenmgankgadcaa
