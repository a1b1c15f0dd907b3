/- TapeOrder's plain laws. -/
import Derived.Test.YtgmlkdchnpacaaaClock8
namespace Go.Proofs.Ytgmlkdchnpacaaa
open Go.RowKit Go.Maps
set_option linter.unusedVariables false
def KAt (l : List OpR) (i : Nat) (k : Ky) : Prop := ∃ op, l[i]? = some op ∧ (op.k, op.id) = k
/-- what the calls up to j have left -/
structure Inv1 (l : List OpR) (j : Nat) (L : Tms) : Prop where
  t : ∀ p, p ∈ L → 1 ≤ p.2.1 ∧ p.2.1 ≤ 2147483647
  k : ∀ p, p ∈ L → ∃ i, i < j ∧ KAt l i p.1
  len : L.length ≤ j
section
variable {l : List OpR} {j : Nat} {L : Tms}
theorem Inv1.nil : Inv1 l 0 [] := ⟨by simp, by simp, by simp⟩
theorem Inv1.sub_ {L' : Tms} (h : Inv1 l j L) (hs : ∀ p, p ∈ L' → p ∈ L) (hl : L'.length ≤ L.length) : Inv1 l (j + 1) L' :=
  ⟨fun p hp => h.t p (hs p hp), fun p hp => by obtain ⟨i, hi, hk⟩ := h.k p (hs p hp); exact ⟨i, by omega, hk⟩, by have := h.len; omega⟩
theorem Inv1.cut_ (h : Inv1 l j L) (k : Ky) : Inv1 l (j + 1) (cutL L k) := by
  unfold cutL
  split
  · exact h.sub_ (fun p hp => (List.mem_filter.1 hp).1) (List.length_filter_le _ _)
  · exact h.sub_ (fun p hp => hp) (Nat.le_refl _)
theorem Inv1.set_ (h : Inv1 l j L) (o : Int) (k : Ky) (a : Int) (hk : KAt l j k) : Inv1 l (j + 1) (setL 0 o L k a) := by
  unfold setL
  split
  · rename_i he
    have ha : 1 ≤ a ∧ a ≤ 2147483647 := by
      unfold setE at he
      split at he
      · cases he
      · omega
    refine ⟨fun p hp => ?_, fun p hp => ?_, ?_⟩
    · rcases mem_put hp with rfl | ⟨h1, _⟩
      · simp only; omega
      · exact h.t p h1
    · rcases mem_put hp with rfl | ⟨h1, _⟩
      · exact ⟨j, by omega, hk⟩
      · obtain ⟨i, hi, hx⟩ := h.k p h1
        exact ⟨i, by omega, hx⟩
    · rw [put_length]
      have := h.len
      split <;> omega
  · exact h.sub_ (fun p hp => hp) (Nat.le_refl _)
/-- the second clock holds what was asked of so far -/
def Was (l : List OpR) (j : Nat) (L L2 : Tms) : Prop := ∀ (i : Nat) (k : Ky) (t : Tm), i < j → KAt l i k → look L k = some t → ∃ o, look L2 k = some (t.1, o)
theorem Was.nil : Was l 0 L [] := fun i k t h => by omega
theorem KAt.one {i : Nat} {k k' : Ky} (h : KAt l i k) (h' : KAt l i k') : k = k' := by
  obtain ⟨o, h1, rfl⟩ := h
  obtain ⟨o', h2, rfl⟩ := h'
  rw [h1] at h2
  cases h2
  rfl
theorem Was.none_ {L2 : Tms} (h : Was l j L L2) {k : Ky} (hk : KAt l j k) (hn : look L k = none) : Was l (j + 1) L L2 := fun i k' t hi hk' hl => by
  by_cases e : i = j
  · subst e
    rw [hk.one hk', hl] at hn
    cases hn
  · exact h i k' t (by omega) hk' hl
theorem Was.some_ {L2 : Tms} (h : Was l j L L2) {k : Ky} {t : Tm} {o : Int} (hk : KAt l j k) (hn : look L k = some t) : Was l (j + 1) L (put L2 k (t.1, o)) := fun i k' t' hi hk' hl => by
  by_cases e : k' = k
  · subst e
    rw [hn] at hl
    cases hl
    exact ⟨o, look_put_same _ _ _⟩
  · rw [look_put_other _ _ _ _ e]
    by_cases ei : i = j
    · subst ei
      exact absurd (hk'.one hk) e
    · exact h i k' t' (by omega) hk' hl
/-- a timer that has ended, as both clocks knew it -/
theorem due_at {o n : Int} {L2 : Tms} (hI : CI 0 o L) (hV : Inv1 l j L) (hW : Was l j L L2) {ks : List Ky} (hp : ks.Perm (dks n L)) {k : Ky} (hk : k ∈ ks) : ∃ t o2, look L k = some t ∧ t.1 ≤ n ∧ 1 ≤ t.1 ∧ t.1 ≤ 2147483647 ∧ look L2 k = some (t.1, o2) ∧ look (undue n L) k = none := by
  obtain ⟨t, ht, hn⟩ := mem_dks (hp.mem_iff.1 hk)
  have e := look_mem hI.keys ht
  simp only at e
  obtain ⟨i, hi, hx⟩ := hV.k _ ht
  obtain ⟨o2, h2⟩ := hW i k t hi hx e
  have h3 := hV.t _ ht
  refine ⟨t, o2, e, hn, h3.1, h3.2, h2, ?_⟩
  unfold undue
  rw [look_filter hI.keys, e]
  simp only
  rw [if_neg (by simpa using hn)]
/-- times in order -/
theorem times_up {ks : List Ky} (hs : Sorted_ L ks) {i : Nat} {k k' : Ky} {t t' : Tm} (h1 : ks[i]? = some k) (h2 : ks[i + 1]? = some k') (e1 : look L k = some t) (e2 : look L k' = some t') : t.1 ≤ t'.1 := by
  unfold Sorted_ at hs
  rw [List.pairwise_iff_getElem] at hs
  obtain ⟨a1, b1⟩ := List.getElem?_eq_some_iff.1 h1
  obtain ⟨a2, b2⟩ := List.getElem?_eq_some_iff.1 h2
  have := hs i (i + 1) a1 a2 (by omega)
  rw [b1, b2] at this
  unfold kcmp at this
  rw [e1, e2, tcmp_neg] at this
  simp only [tmD, Option.getD_some] at this
  omega
/-- the time of a key -/
def tmOf (L : Tms) (k : Ky) : Int := (tmD (look L k)).1
theorem order_len {n : Int} {ks : List Ky} (hp : ks.Perm (dks n L)) : (undue n L).length + ks.length = L.length := by
  rw [hp.length_eq]; exact undue_len n L
end
/-- Set, and what it turns -/
theorem set_inF {w0 w : World} {c B : Nat} {m : Option Nat} {n o : Int} {l : Tms} (k : Ky) (a : Int) (hk : KyOk k) (h1 : Clk w c m n o l) (h2 : w0.heap.size ≤ c) (h3 : ∀ b, m = some b → w0.heap.size ≤ b) (hB : ∀ x, x ∈ c :: m.toList → x < B) (hI : CI n o l) (ho : o ≤ 1099511627776) (hF : Fr [] w0 w) :
    Calls Try.prog 11 #[.pointer (some ⟨c, 0, none⟩), .agg (kyC k), .int .i64 a] w fun e w' => e = .returned (.int .i64 (setE l k a)) ∧ CkIn w0 w' c n (setO o l k a) (setL n o l k a) ∧ Fr [] w0 w' ∧ ∃ S, Fr S w w' ∧ ∀ y, y ∈ S → y < B := by
  refine (set_any k a hk h1 hI.n0 hI.n1 hI.o0 ho hI.len).mono ?_
  rintro e w' ⟨he, m', hC, hG, hm⟩
  refine ⟨he, ⟨m', hC, h2, ?_⟩, sub_in hF hG h2 h3, _, hG, hB⟩
  intro b hb
  rcases hm with rfl | ⟨b', hb', hge⟩
  · exact h3 b hb
  · rw [hb'] at hb; cases hb; exact Nat.le_trans hF.size hge
theorem own_caps {w : World} {base e sz n cap : Nat} {A : Option Addr} {ys : List Value} (h : w.ownsRow base e sz (.slice A n cap) n ys) : n ≤ cap ∧ cap ≤ maxLen := by
  rcases h.2 with ⟨h1, h2⟩ | ⟨g', cap', cur, h1, _, _, h4, h5, _⟩
  · injection h1 with _ _ e3; exact ⟨by omega, by unfold maxLen; omega⟩
  · injection h1 with _ _ e3; rw [e3]; exact ⟨h4, h5⟩
theorem Clk.kok {w : World} {c : Nat} {m : Option Nat} {n o : Int} {l : Tms} (h : Clk w c m n o l) : ∀ p, p ∈ l → KyOk p.1 := by
  rcases h.mp with ⟨_, rfl⟩ | ⟨b, _, h2⟩
  · simp
  · exact keys_ok h2
/-- the times told so far -/
def tmRow (L : Tms) (ks : List Ky) (p : Nat) : List Value := (ks.take p).map fun k => i64V (tmOf L k)
theorem tmRow_snoc {L : Tms} {ks : List Ky} {p : Nat} {k : Ky} {t : Tm} (hk : ks[p]? = some k) (ht : look L k = some t) : tmRow L ks p ++ [.int .i64 t.1] = tmRow L ks (p + 1) := by
  unfold tmRow
  rw [List.take_add_one, hk, List.map_append]
  simp [tmOf, ht, tmD, i64V]
theorem tmRow_at {L : Tms} {ks : List Ky} {p i : Nat} {k : Ky} {t : Tm} (hi : i < p) (hk : ks[i]? = some k) (ht : look L k = some t) : (tmRow L ks p)[i]? = some (.int .i64 t.1) := by
  unfold tmRow
  rw [List.getElem?_map, List.getElem?_take_of_lt hi, hk]
  simp [tmOf, ht, tmD, i64V]
end Go.Proofs.Ytgmlkdchnpacaaa
