/- the document's clock and the program's: one list. No program is walked here. -/
import Derived.Test.YtfchbppfbepelaaGreatDClk4
import Derived.Test.YtfchbppfbepelaaGreatClock7
namespace Go.Proofs.YtfchbppfbepelaaGreat
open Go.RowKit Go.Maps
set_option linter.unusedVariables false
def prj (p : Ky × Tm) : DT := (p.1, p.2.1)
/-- the document's list is the program's, in the order of its calls -/
def CR (l : Tms) (D : List DT) : Prop := ∃ s : Tms, s.Perm l ∧ s.Pairwise (fun a b => a.2.2 < b.2.2) ∧ D = s.map prj
section
variable {l : Tms} {D : List DT} {n o : Int}
theorem CR.new : CR [] [] := ⟨[], List.Perm.refl _, List.Pairwise.nil, rfl⟩
theorem CR.len (h : CR l D) : D.length = l.length := by
  obtain ⟨s, h1, _, rfl⟩ := h
  rw [List.length_map, h1.length_eq]
theorem CR.find_none {k : Ky} (h : CR l D) (hk : look l k = none) : tfind D k = none := by
  obtain ⟨s, h1, _, rfl⟩ := h
  refine tfind_none_of fun j y hy => ?_
  rw [List.getElem?_map] at hy
  obtain ⟨p, hp, rfl⟩ := Option.map_eq_some_iff.1 hy
  exact look_none.1 hk p (h1.mem_iff.1 (List.mem_of_getElem? hp))
theorem nodup_get {α β : Type} {l : List β} (f : β → α) (hn : (l.map f).Nodup) {i j : Nat} {x y : β} (hi : l[i]? = some x) (hj : l[j]? = some y) (he : f x = f y) : i = j := by
  have h1 : (l.map f)[i]? = some (f x) := by rw [List.getElem?_map, hi]; rfl
  have h2 : (l.map f)[j]? = some (f x) := by rw [List.getElem?_map, hj, he]; rfl
  exact (List.getElem?_inj (List.getElem?_eq_some_iff.1 h1).1 hn).1 (h1.trans h2.symm)
theorem CR.find_some {k : Ky} {t : Tm} (hn : (l.map (·.1)).Nodup) (h : CR l D) (hk : look l k = some t) : ∃ i, tfind D k = some i ∧ D[i]? = some (k, t.1) := by
  obtain ⟨s, h1, _, rfl⟩ := h
  have hm := h1.mem_iff.2 ((look_some hn).1 hk)
  obtain ⟨i, hi⟩ := List.mem_iff_getElem?.1 hm
  have hn2 : (s.map (·.1)).Nodup := (h1.map _).nodup_iff.2 hn
  have hi2 : (s.map prj)[i]? = some (k, t.1) := by rw [List.getElem?_map, hi]; rfl
  refine ⟨i, tfind_of hi2 rfl fun j y hj hy e => ?_, hi2⟩
  rw [List.getElem?_map] at hy
  obtain ⟨p, hp, rfl⟩ := Option.map_eq_some_iff.1 hy
  have : i = j := nodup_get (·.1) hn2 hi hp e.symm
  omega
theorem CR.at_ (hn : (l.map (·.1)).Nodup) (h : CR l D) (k : Ky) : tAt D k = (tmD (look l k)).1 ∧ tHas D k = (look l k).isSome := by
  cases hk : look l k with
  | none =>
    have := h.find_none hk
    unfold tAt tHas
    rw [this]
    exact ⟨rfl, rfl⟩
  | some t =>
    obtain ⟨i, h1, h2⟩ := h.find_some hn hk
    unfold tAt tHas
    rw [h1]
    simp only [List.getD_eq_getElem?_getD, h2]
    exact ⟨rfl, rfl⟩
theorem CR.dkeys (hn : (l.map (·.1)).Nodup) (h : CR l D) : (D.map (·.1)).Nodup := by
  obtain ⟨s, h1, _, rfl⟩ := h
  rw [List.map_map]
  exact (h1.map _).nodup_iff.2 hn
theorem dcCut_eq (k : Ky) : ∀ (D : List DT), (D.map (·.1)).Nodup → dcCut D k = D.filter (fun x => decide (x.1 ≠ k)) := by
  intro D
  induction D with
  | nil => intro _; rfl
  | cons x D ih =>
    intro hn
    rw [List.map_cons, List.nodup_cons] at hn
    have ih := ih hn.2
    unfold dcCut tfind at ih ⊢
    by_cases hx : x.1 = k
    · have : D.filter (fun y => decide (y.1 ≠ k)) = D := List.filter_eq_self.2 fun y hy => by
        have : y.1 ≠ k := fun e => hn.1 (by rw [hx, ← e]; exact List.mem_map_of_mem hy)
        simpa using this
      rw [List.filter_cons_of_neg (by simpa using hx), this, List.findIdx?_cons, if_pos (by simpa using hx)]
      rfl
    · rw [List.filter_cons_of_pos (by simpa using hx), ← ih, List.findIdx?_cons, if_neg (by simpa using hx)]
      cases D.findIdx? (fun x => decide (x.1 = k)) with
      | none => rfl
      | some i => rfl
theorem CR.filter_ (h : CR l D) (q : DT → Bool) : CR (l.filter (q ∘ prj)) (D.filter q) := by
  obtain ⟨s, h1, h2, rfl⟩ := h
  exact ⟨s.filter (q ∘ prj), h1.filter _, h2.sublist List.filter_sublist, by rw [List.filter_map]⟩
theorem CR.del_ (hn : (l.map (·.1)).Nodup) (h : CR l D) (k : Ky) : CR (del l k) (dcCut D k) := by
  rw [dcCut_eq k D (h.dkeys hn)]
  exact h.filter_ (fun x => decide (x.1 ≠ k))
theorem cutL_del (l : Tms) (k : Ky) : cutL l k = del l k := by
  unfold cutL
  split
  · rfl
  · rename_i h
    have hk : look l k = none := by simpa using h
    exact (List.filter_eq_self.2 fun p hp => by simpa using look_none.1 hk p hp).symm
theorem CR.cut_ (hn : (l.map (·.1)).Nodup) (h : CR l D) (k : Ky) : CR (cutL l k) (dcCut D k) := by
  rw [cutL_del]
  exact h.del_ hn k
theorem put_perm {l : Tms} (hn : (l.map (·.1)).Nodup) (k : Ky) (t : Tm) : (put l k t).Perm (del l k ++ [(k, t)]) := by
  cases hk : look l k with
  | none =>
    have hd : del l k = l := List.filter_eq_self.2 fun p hp => by simpa using look_none.1 hk p hp
    unfold put
    rw [hk, hd]
    exact List.Perm.refl _
  | some u =>
    obtain ⟨a, b, hab⟩ := List.append_of_mem ((look_some hn).1 hk)
    have h1 : (((k, u) :: (a ++ b)).map (·.1)).Nodup := by
      rw [hab] at hn
      exact ((List.perm_middle (a := (k, u)) (l₁ := a) (l₂ := b)).map (·.1)).nodup_iff.1 hn
    rw [List.map_cons, List.nodup_cons] at h1
    have hnn : ∀ p, p ∈ a ++ b → p.1 ≠ k := fun p hp e => h1.1 (by rw [show (k, u).1 = p.1 from e.symm]; exact List.mem_map_of_mem hp)
    have ha : ∀ c : Tms, (∀ p, p ∈ c → p.1 ≠ k) → c.map (fun p => if p.1 = k then (k, t) else p) = c ∧ c.filter (fun p => decide (p.1 ≠ k)) = c := fun c hc => by
      refine ⟨?_, List.filter_eq_self.2 fun p hp => by simpa using hc p hp⟩
      conv => rhs; rw [← List.map_id c]
      exact List.map_congr_left fun p hp => by rw [if_neg (hc p hp)]; rfl
    have hA := ha a fun p hp => hnn p (List.mem_append.2 (Or.inl hp))
    have hB := ha b fun p hp => hnn p (List.mem_append.2 (Or.inr hp))
    unfold put del
    rw [hk, if_pos (show (some u).isSome = true from rfl), hab, List.map_append, List.map_cons, List.filter_append, List.filter_cons_of_neg (by simp), hA.1, hB.1, hA.2, hB.2, if_pos rfl]
    exact List.perm_middle.trans (List.perm_append_singleton _ _).symm
theorem CR.put_ (hI : CI n o l) (h : CR l D) (k : Ky) (x : Int) : CR (put l k (x, o + 1)) (dcCut D k ++ [(k, x)]) := by
  obtain ⟨s, h1, h2, h3⟩ := h.del_ hI.keys k
  refine ⟨s ++ [(k, (x, o + 1))], (h1.append_right _).trans (put_perm hI.keys k _).symm, ?_, by rw [h3, List.map_append]; rfl⟩
  rw [List.pairwise_append]
  refine ⟨h2, List.pairwise_singleton _ _, fun a ha b hb => ?_⟩
  rw [List.mem_singleton] at hb
  subst hb
  have := (hI.le a (List.mem_filter.1 (h1.mem_iff.1 ha)).1).2
  show a.2.2 < o + 1
  omega
theorem CR.setE_ (hI : CI n o l) (h : CR l D) (k : Ky) (a : Int) : tsE D k a = setE l k a := by
  unfold tsE setE
  rw [(h.at_ hI.keys k).2, h.len]
theorem CR.set_ (hI : CI n o l) (h : CR l D) (k : Ky) (a : Int) : CR (setL n o l k a) (tsL n D k a) := by
  unfold setL tsL
  rw [h.setE_ hI]
  split
  · exact h.put_ hI k (n + a)
  · exact h
/-- sorted by the time, then by the call -/
def TSort (S : Tms) : Prop := S.Pairwise fun a b => ¬ tcmp b.2 a.2 < 0
theorem tpos_spec (O : List DT) (t : Int) : ∀ k, k ≤ O.length → (∀ (i : Nat) y, tpos O t k ≤ i → i < k → O[i]? = some y → t < y.2) ∧ (∀ y, 0 < tpos O t k → O[tpos O t k - 1]? = some y → y.2 ≤ t)
  | 0, _ => ⟨fun i y _ h => by omega, fun y h => by simp [tpos] at h⟩
  | k + 1, hk => by
    obtain ⟨y, hy⟩ : ∃ y, O[k]? = some y := ⟨_, List.getElem?_eq_getElem (by omega)⟩
    have hd : (O.getD k ((0, 0), 0)) = y := by rw [List.getD_eq_getElem?_getD, hy]; rfl
    have ih := tpos_spec O t k (by omega)
    unfold tpos
    rw [hd]
    split
    · rename_i hlt
      refine ⟨fun i z h1 h2 h3 => ?_, ih.2⟩
      by_cases hik : i < k
      · exact ih.1 i z h1 hik h3
      · obtain rfl : i = k := by omega
        rw [hy] at h3
        cases h3
        exact hlt
    · rename_i hlt
      refine ⟨fun i z h1 h2 _ => by omega, fun z _ hz => ?_⟩
      rw [Nat.add_sub_cancel, hy] at hz
      cases hz
      omega
theorem ins_ok (S : Tms) (x : Ky × Tm) (hS : TSort S) (ho : ∀ a, a ∈ S → a.2.2 < x.2.2) : ∃ S', tins (S.map prj) (prj x) = S'.map prj ∧ S'.Perm (x :: S) ∧ TSort S' := by
  obtain ⟨p, hp⟩ : ∃ p, tpos (S.map prj) x.2.1 (S.map prj).length = p := ⟨_, rfl⟩
  have hs := tpos_spec (S.map prj) x.2.1 (S.map prj).length (Nat.le_refl _)
  have hle := tpos_le (S.map prj) x.2.1 (S.map prj).length
  rw [hp] at hs hle
  rw [List.length_map] at hle
  have hdrop : ∀ a, a ∈ S.drop p → x.2.1 < a.2.1 := fun a ha => by
    obtain ⟨i, hi⟩ := List.mem_iff_getElem?.1 ha
    rw [List.getElem?_drop] at hi
    have hl := (List.getElem?_eq_some_iff.1 hi).1
    exact hs.1 (p + i) (prj a) (by omega) (by rw [List.length_map]; exact hl) (by rw [List.getElem?_map, hi]; rfl)
  have htake : ∀ a, a ∈ S.take p → a.2.1 ≤ x.2.1 := fun a ha => by
    obtain ⟨i, hi⟩ := List.mem_iff_getElem?.1 ha
    have hip : i < p := by
      have := (List.getElem?_eq_some_iff.1 hi).1
      rw [List.length_take] at this
      omega
    rw [List.getElem?_take_of_lt hip] at hi
    obtain ⟨b, hb⟩ : ∃ b, S[p - 1]? = some b := ⟨_, List.getElem?_eq_getElem (by omega)⟩
    have hbt : b.2.1 ≤ x.2.1 := hs.2 (prj b) (by omega) (by rw [List.getElem?_map, hb]; rfl)
    by_cases hi1 : i = p - 1
    · subst hi1
      rw [hb] at hi
      cases hi
      exact hbt
    · have h1 := (List.getElem?_eq_some_iff.1 hi)
      have h2 := (List.getElem?_eq_some_iff.1 hb)
      obtain ⟨h1a, h1b⟩ := h1
      obtain ⟨h2a, h2b⟩ := h2
      have := (List.pairwise_iff_getElem.1 hS) i (p - 1) h1a h2a (by omega)
      rw [h1b, h2b, tcmp_neg] at this
      omega
  refine ⟨S.take p ++ x :: S.drop p, ?_, ?_, ?_⟩
  · unfold tins
    show (S.map prj).take (tpos (S.map prj) x.2.1 (S.map prj).length) ++ prj x :: (S.map prj).drop (tpos (S.map prj) x.2.1 (S.map prj).length) = _
    rw [hp, List.map_append, List.map_cons, List.map_take, List.map_drop]
  · refine List.perm_middle.trans ?_
    rw [List.take_append_drop]
  · have hS2 : TSort (S.take p ++ S.drop p) := by rw [List.take_append_drop]; exact hS
    unfold TSort at hS2 ⊢
    rw [List.pairwise_append] at hS2 ⊢
    refine ⟨hS2.1, List.pairwise_cons.2 ⟨fun a ha => ?_, hS2.2.1⟩, fun a ha b hb => ?_⟩
    · rw [tcmp_neg]
      have := hdrop a ha
      omega
    · rcases List.mem_cons.1 hb with rfl | hb
      · rw [tcmp_neg]
        have h1 := htake a ha
        have h2 := ho a (List.mem_of_mem_take ha)
        omega
      · exact hS2.2.2 a ha b hb
theorem fold_out (N : Int) : ∀ (s T0 : Tms) (L : List DT), s.Pairwise (fun a b => a.2.2 < b.2.2) → (∀ a, a ∈ T0 → ∀ x, x ∈ s → a.2.2 < x.2.2) → TSort T0 → ∃ T, ((s.map prj).foldl (tst N) (T0.map prj, L)).1 = T.map prj ∧ T.Perm (T0 ++ s.filter fun p => decide (p.2.1 ≤ N)) ∧ TSort T := by
  intro s
  induction s with
  | nil => intro T0 L _ _ h; exact ⟨T0, rfl, by simp, h⟩
  | cons x s ih =>
    intro T0 L hs ho hT
    rw [List.pairwise_cons] at hs
    by_cases hx : N < x.2.1
    · obtain ⟨T, h1, h2, h3⟩ := ih T0 (L ++ [prj x]) hs.2 (fun a ha y hy => ho a ha y (List.mem_cons_of_mem _ hy)) hT
      refine ⟨T, ?_, ?_, h3⟩
      · rw [← h1, List.map_cons, List.foldl_cons]
        have : tst N (T0.map prj, L) (prj x) = (T0.map prj, L ++ [prj x]) := by unfold tst; rw [if_pos (show N < (prj x).2 from hx)]
        rw [this]
      · rw [List.filter_cons_of_neg (by simpa using hx)]
        exact h2
    · obtain ⟨T1, g1, g2, g3⟩ := ins_ok T0 x hT (fun a ha => ho a ha x List.mem_cons_self)
      obtain ⟨T, h1, h2, h3⟩ := ih T1 L hs.2 (fun a ha y hy => by
        rcases List.mem_cons.1 (g2.mem_iff.1 ha) with rfl | ha
        · exact hs.1 y hy
        · exact ho a ha y (List.mem_cons_of_mem _ hy)) g3
      refine ⟨T, ?_, ?_, h3⟩
      · rw [← h1, List.map_cons, List.foldl_cons]
        have : tst N (T0.map prj, L) (prj x) = (T1.map prj, L) := by unfold tst; rw [if_neg (show ¬ N < (prj x).2 from hx), g1]
        rw [this]
      · rw [List.filter_cons_of_pos (by simpa using hx)]
        refine h2.trans ((g2.append_right _).trans ?_)
        exact List.perm_middle.symm
theorem fold_left (N : Int) : ∀ (D : List DT) (s : List DT × List DT), (D.foldl (tst N) s).2 = s.2 ++ D.filter (fun x => decide (N < x.2)) := by
  intro D
  induction D with
  | nil => intro s; simp
  | cons x D ih =>
    intro s
    rw [List.foldl_cons, ih]
    unfold tst
    by_cases hx : N < x.2
    · rw [if_pos hx, List.filter_cons_of_pos (by simpa using hx)]
      simp
    · rw [if_neg hx, List.filter_cons_of_neg (by simpa using hx)]
theorem CR.undue_ (h : CR l D) (N : Int) : CR (undue N l) (tfold N D).2 := by
  have e : (tfold N D).2 = D.filter (fun x => decide (N < x.2)) := by
    unfold tfold
    rw [fold_left]
    simp
  rw [e]
  have e2 : undue N l = l.filter ((fun x : DT => decide (N < x.2)) ∘ prj) := by
    unfold undue
    refine List.filter_congr fun p _ => ?_
    show decide (¬ p.2.1 ≤ N) = decide (N < p.2.1)
    rw [decide_eq_decide]
    omega
  rw [e2]
  exact h.filter_ _
theorem CR.due_ (hI : CI n o l) (h : CR l D) (N : Int) (ks : List Ky) (hp : ks.Perm (dks N l)) (hs : Sorted_ l ks) : (tfold N D).1.map (·.1) = ks := by
  obtain ⟨s, h1, h2, rfl⟩ := h
  obtain ⟨T, t1, t2, t3⟩ := fold_out N s [] [] h2 (fun a ha => by cases ha) List.Pairwise.nil
  have e : (tfold N (s.map prj)).1 = T.map prj := t1
  rw [e, List.map_map]
  rw [List.nil_append] at t2
  have hTl : ∀ a, a ∈ T → a ∈ l := fun a ha => h1.mem_iff.1 (List.mem_filter.1 (t2.mem_iff.1 ha)).1
  refine tick_one hI ?_ hp ?_ hs
  · exact ((t2.trans (h1.filter _)).map (·.1))
  · unfold Sorted_
    rw [List.pairwise_map]
    refine List.Pairwise.imp_of_mem (fun {a b} ha hb hab => ?_) t3
    show ¬ kcmp l b.1 a.1 < 0
    unfold kcmp
    rw [look_mem hI.keys (hTl a ha), look_mem hI.keys (hTl b hb)]
    exact hab
end
end Go.Proofs.YtfchbppfbepelaaGreat
