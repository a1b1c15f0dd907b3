/- a store and the document's, side by side. -/
import Derived.Test.YtpljdnocdhppmaaDSto5
import Derived.Test.YtpljdnocdhppmaaStore8
import Derived.Test.YtpljdnocdhppmaaFrB
namespace Go.Proofs.Ytpljdnocdhppmaa
open Go.RowKit Go.Maps
set_option linter.unusedVariables false
def relD (L : List (Who × Nat)) (K : Nat → Kn) : List DK := L.map fun p => (p.1, K p.2)
theorem relD_get {L : List (Who × Nat)} {K : Nat → Kn} {i : Nat} {x : DK} (h : (relD L K)[i]? = some x) : ∃ y, L[i]? = some (x.1, y) ∧ x.2 = K y := by
  unfold relD at h
  rw [List.getElem?_map] at h
  cases hl : L[i]? with
  | none => rw [hl] at h; cases h
  | some p =>
    rw [hl] at h
    injection h with h
    subst h
    exact ⟨p.2, rfl, rfl⟩
theorem rel_none {L : List (Who × Nat)} {K : Nat → Kn} {who : Who} : dfind (relD L K) who = none ↔ look L who = none := by
  rw [look_none]
  constructor
  · intro h p hp hpe
    unfold dfind at h
    rw [List.findIdx?_eq_none_iff] at h
    have := h (p.1, K p.2) (List.mem_map.2 ⟨p, hp, rfl⟩)
    simp [hpe] at this
  · intro h
    refine dfind_none_of fun j y hy hye => ?_
    obtain ⟨x, hx, _⟩ := relD_get hy
    exact h _ (List.mem_of_getElem? hx) hye
theorem rel_some {L : List (Who × Nat)} {K : Nat → Kn} {who : Who} (hn : (L.map (·.1)).Nodup) {i : Nat} (h : dfind (relD L K) who = some i) : ∃ x, L[i]? = some (who, x) ∧ look L who = some x ∧ (relD L K)[i]? = some (who, K x) := by
  obtain ⟨k, hk⟩ := dfind_some h
  obtain ⟨x, hx, hxe⟩ := relD_get hk
  exact ⟨x, hx, (look_some hn).2 (List.mem_of_getElem? hx), by rw [hk, show k = K x from hxe]⟩
theorem rel_set {L : List (Who × Nat)} {K : Nat → Kn} {who : Who} {i x : Nat} (hn : (L.map (·.2)).Nodup) (hi : L[i]? = some (who, x)) (k : Kn) : (relD L K).set i (who, k) = relD L (kupd K x k) := by
  apply List.ext_getElem?
  intro j
  unfold relD
  rw [List.getElem?_set, List.length_map, List.getElem?_map, List.getElem?_map]
  have hil := (List.getElem?_eq_some_iff.1 hi).1
  by_cases hij : i = j
  · subst hij
    rw [if_pos rfl, if_pos hil, hi]
    simp [kupd]
  · rw [if_neg hij]
    cases hj : L[j]? with
    | none => rfl
    | some p =>
      have hne : p.2 ≠ x := fun e => hij (by
        have h1 : (L.map (·.2))[i]? = some x := by rw [List.getElem?_map, hi]; rfl
        have h2 : (L.map (·.2))[j]? = some x := by rw [List.getElem?_map, hj, ← e]; rfl
        have l1 := (List.getElem?_eq_some_iff.1 h1).1
        rw [List.getElem?_eq_getElem l1] at h1
        exact (List.getElem?_inj (List.getElem?_eq_some_iff.1 (show (L.map (·.2))[i]? = some x by rw [List.getElem?_map, hi]; rfl)).1 hn).1 ((show (L.map (·.2))[i]? = some x by rw [List.getElem?_map, hi]; rfl).trans h2.symm))
      simp [kupd, hne]
theorem map_erase {α β : Type} (f : α → β) : ∀ (l : List α) (i : Nat), (l.map f).eraseIdx i = (l.eraseIdx i).map f
  | [], i => by simp
  | x :: r, 0 => by simp
  | x :: r, i + 1 => by simp [map_erase f r i]
theorem rel_del {L : List (Who × Nat)} {K : Nat → Kn} {who : Who} {i x : Nat} (hn : (L.map (·.1)).Nodup) (hi : L[i]? = some (who, x)) : (relD L K).eraseIdx i = relD (del L who) K := by
  unfold relD del
  rw [map_erase]
  congr 1
  induction L generalizing i with
  | nil => simp at hi
  | cons p r ih =>
    simp only [List.map_cons, List.nodup_cons] at hn
    cases i with
    | zero =>
      simp at hi
      subst hi
      simp only [List.eraseIdx_cons_zero]
      rw [List.filter_cons_of_neg (by simp)]
      symm
      refine List.filter_eq_self.2 fun p hp => ?_
      simp only [ne_eq, decide_not, Bool.not_eq_eq_eq_not, Bool.not_true, decide_eq_false_iff_not]
      intro e
      exact hn.1 (List.mem_map.2 ⟨p, hp, e⟩)
    | succ i =>
      simp only [List.getElem?_cons_succ] at hi
      rw [List.eraseIdx_cons_succ, List.filter_cons_of_pos, ih hn.2 hi]
      simp only [ne_eq, decide_not, Bool.not_eq_eq_eq_not, Bool.not_true, decide_eq_false_iff_not]
      intro e
      exact hn.1 (List.mem_map.2 ⟨_, List.mem_of_getElem? hi, e.symm⟩)
theorem rel_new {L : List (Who × Nat)} {K : Nat → Kn} {who : Who} {x : Nat} (hl : look L who = none) (hx : ∀ p, p ∈ L → p.2 ≠ x) (k : Kn) : relD L K ++ [(who, k)] = relD (put L who x) (kupd K x k) := by
  rw [put_new hl]
  unfold relD
  rw [List.map_append]
  congr 1
  · refine List.map_congr_left fun p hp => ?_
    simp [kupd, hx p hp]
  · simp [kupd]
theorem keys_put {L : List (Who × Nat)} {who : Who} {x : Nat} (hl : look L who = none) (hn : (L.map (·.1)).Nodup) : ((put L who x).map (·.1)).Nodup := by
  rw [put_new hl, List.map_append, List.nodup_append]
  refine ⟨hn, by simp, fun a ha b hb => ?_⟩
  obtain ⟨p, hp, rfl⟩ := List.mem_map.1 ha
  simp at hb
  subst hb
  exact look_none.1 hl p hp
/-- the two stores; b .. n: the blocks that they have -/
structure SP (b n j : Nat) (w : World) (g g2 : Nat) (lim calm calm' : Int) (mp : Option Nat) (L : List (Who × Nat)) (K : Nat → Kn) (r : Value) : Prop where
  st : StoreIs w g lim calm mp L K
  ok : KsOk L K
  ln : KsLen L K
  wr : ∀ p, p ∈ L → (K p.2).wr ≤ j
  ds : DSt w g2 lim calm' r (relD L K)
  l0 : 0 ≤ lim ∧ lim ≤ 100
  c0 : 0 ≤ calm ∧ calm ≤ 1000
  c1 : 1 ≤ calm' ∧ calm' ≤ 1000
  eqc : lim = 0 ∨ calm' = calm
  nd : (L.map (·.1)).Nodup
  len : L.length ≤ 100
  fb : ∀ x, x ∈ g :: g2 :: (mp.toList ++ L.map (·.2) ++ r.ownBlock.toList) → b ≤ x ∧ x < n
def SPx (b n j : Nat) (w : World) (g g2 : Nat) (lim calm calm' : Int) : Prop := ∃ mp L K r, SP b n j w g g2 lim calm calm' mp L K r
section
variable {b n j : Nat} {w : World} {g g2 : Nat} {lim calm calm' : Int} {mp : Option Nat} {L : List (Who × Nat)} {K : Nat → Kn} {r : Value}
theorem SP.fr0 {w' : World} (h : SP b n j w g g2 lim calm calm' mp L K r) (hF : Fr [] w w') : SP b n j w' g g2 lim calm calm' mp L K r :=
  ⟨h.st.fr0 hF, h.ok, h.ln, h.wr, h.ds.fr0 hF, h.l0, h.c0, h.c1, h.eqc, h.nd, h.len, h.fb⟩
theorem SPx.fr0 {w' : World} (h : SPx b n j w g g2 lim calm calm') (hF : Fr [] w w') : SPx b n j w' g g2 lim calm calm' := by
  obtain ⟨mp, L, K, r, h⟩ := h
  exact ⟨mp, L, K, r, h.fr0 hF⟩
theorem SPx.up {n' j' : Nat} (h : SPx b n j w g g2 lim calm calm') (hn : n ≤ n') (hj : j ≤ j') : SPx b n' j' w g g2 lim calm calm' := by
  obtain ⟨mp, L, K, r, h⟩ := h
  exact ⟨mp, L, K, r, h.st, h.ok, h.ln, fun p hp => Int.le_trans (h.wr p hp) (by omega), h.ds, h.l0, h.c0, h.c1, h.eqc, h.nd, h.len, fun x hx => by have := h.fb x hx; omega⟩
theorem SP.mn (h : SP b n j w g g2 lim calm calm' none L K r) : L = [] := by
  rcases h.st.mapAt with ⟨_, h⟩ | ⟨q, hq, _⟩
  · exact h
  · cases hq
theorem SP.mb {x : DK} (h : SP b n j w g g2 lim calm calm' mp L K r) {who : Who} {y : Nat} (hl : look L who = some y) : ∃ bm, mp = some bm := by
  cases mp with
  | none => rw [h.mn] at hl; simp [look] at hl
  | some bm => exact ⟨bm, rfl⟩
/-- what the first store writes leaves the document's as it is -/
theorem SP.keepD {Sx : List Nat} {w' : World} (h : SP b n j w g g2 lim calm calm' mp L K r) (hF : Fr Sx w w') (hS : ∀ x, x ∈ Sx → x ∈ mp.toList ++ L.map (·.2)) : DSt w' g2 lim calm' r (relD L K) := by
  have key : ∀ x, x ∈ mp.toList ++ L.map (·.2) → ∀ cur T, Blk w x cur T → T = 89 := fun x hx cur T hB => by
    rcases List.mem_append.1 hx with h1 | h1
    · exfalso
      rcases h.st.mapAt with ⟨h2, _⟩ | ⟨q, h2, hm⟩
      · rw [h2] at h1; simp at h1
      · rw [h2] at h1
        simp at h1
        subst h1
        exact hm.not_blk hB rfl
    · obtain ⟨p, hp, rfl⟩ := List.mem_map.1 h1
      have := h.st.kn p hp
      unfold Blk at hB this
      rw [hB] at this
      injection this with this
      injection this with _ this
  refine h.ds.frS hF (fun hg => ?_) (fun q hq hqs => ?_)
  · have := key _ (hS _ hg) _ _ h.ds.st
    revert this
    decide
  · obtain ⟨cur, hc⟩ := rown_blk h.ds.row q hq
    have := key _ (hS _ hqs) _ _ hc
    revert this
    decide
/-- what the document's writes leaves the first as it is -/
theorem StoreIs.keepS {Sx : List Nat} {w w' : World} {D : List DK} (h : StoreIs w g lim calm mp L K) (hd : DSt w g2 lim calm' r D) (hF : Fr Sx w w') (hS : ∀ x, x ∈ Sx → x ∈ g2 :: r.ownBlock.toList) : StoreIs w' g lim calm mp L K := by
  have key : ∀ x, x ∈ g2 :: r.ownBlock.toList → ∃ cur T, Blk w x cur T ∧ (T = 74 ∨ T = 98) := fun x hx => by
    rcases List.mem_cons.1 hx with rfl | h1
    · exact ⟨_, _, hd.st, Or.inl rfl⟩
    · obtain ⟨cur, hc⟩ := rown_blk hd.row x (by simpa using h1)
      exact ⟨cur, _, hc, Or.inr rfl⟩
  refine h.fr hF (fun hg => ?_) (fun q hq hqs => ?_) (fun p hp hps => ?_)
  · obtain ⟨cur, T, hc, hT⟩ := key _ (hS _ hg)
    have h1 := h.st
    unfold Blk at hc h1
    rw [hc] at h1
    injection h1 with h1
    injection h1 with _ h1
    subst h1
    rcases hT with h | h <;> (revert h; decide)
  · obtain ⟨cur, T, hc, hT⟩ := key _ (hS _ hqs)
    rcases h.mapAt with ⟨h2, _⟩ | ⟨q', h2, hm⟩
    · rw [h2] at hq; cases hq
    · rw [h2] at hq
      cases hq
      exact hm.not_blk hc rfl
  · obtain ⟨cur, T, hc, hT⟩ := key _ (hS _ hps)
    have h1 := h.kn p hp
    unfold Blk at hc h1
    rw [hc] at h1
    injection h1 with h1
    injection h1 with _ h1
    subst h1
    rcases hT with h | h <;> (revert h; decide)
theorem shut_calm (h : lim = 0 ∨ calm' = calm) (k : Kn) (t : Int) : shutB lim calm' k t = shutB lim calm k t := by
  rcases h with rfl | rfl
  · simp [shutB]
  · rfl
theorem tryE_calm (h : lim = 0 ∨ calm' = calm) (t : Int) (ok : Kn → Bool) (k : Kn) : tryE lim calm' t (fun _ => ok k) (some k) = tryE lim calm t ok (some k) := by
  unfold tryE
  simp only [shut_calm h]
theorem tryK_calm (h : lim = 0 ∨ calm' = calm) (t : Int) (ok : Kn → Bool) (k : Kn) : tryK lim calm' t (fun _ => ok k) k = tryK lim calm t ok k := by
  unfold tryK
  simp only [shut_calm h]
def Both (b n j : Nat) (g g2 : Nat) (lim calm calm' : Int) (w : World) (args2 : Array Value) (f2 : Nat) (e : Ending) (w1 : World) : Prop :=
  ∃ c : Int, e = .returned (.int .i64 c) ∧ FrB b n w w1 ∧ ∀ W, Fr [] w1 W → Calls Try.prog f2 args2 W fun e w2 => e = .returned (.int .i64 c) ∧ FrB b n W w2 ∧ SPx b (max n w2.heap.size) j w2 g g2 lim calm calm'
end
end Go.Proofs.Ytpljdnocdhppmaa
