/- Two clocks that a call has made, apart from each other; two Ticks as one. -/
import Derived.Test.YtgmlkdchnpacaaaClock7
namespace Go.Proofs.Ytgmlkdchnpacaaa
open Go.RowKit Go.Maps
set_option linter.unusedVariables false
structure Two (w0 w : World) (ca cb : Nat) (ma mb : Option Nat) (na nb oa ob : Int) (la lb : Tms) : Prop where
  a : Clk w ca ma na oa la
  b : Clk w cb mb nb ob lb
  ne : ∀ x, x ∈ ca :: ma.toList → x ∉ cb :: mb.toList
  lo : ∀ x, x ∈ ca :: ma.toList ∨ x ∈ cb :: mb.toList → w0.heap.size ≤ x
section
variable {w0 w w' : World} {ca cb : Nat} {ma mb : Option Nat} {na nb oa ob : Int} {la lb : Tms}
theorem Two.symm (h : Two w0 w ca cb ma mb na nb oa ob la lb) : Two w0 w cb ca mb ma nb na ob oa lb la :=
  ⟨h.b, h.a, fun x h1 h2 => h.ne x h2 h1, fun x hx => h.lo x hx.symm⟩
theorem Clk.ltAll {c : Nat} {m : Option Nat} {n o : Int} {l : Tms} (h : Clk w c m n o l) : ∀ x, x ∈ c :: m.toList → x < w.heap.size := fun x hx => by
  rcases List.mem_cons.1 hx with rfl | hx
  · exact h.st.lt
  · cases m with
    | none => cases hx
    | some b => simp at hx; subst hx; exact h.mlt _ rfl
theorem Clk.frAll {S : List Nat} {c : Nat} {m : Option Nat} {n o : Int} {l : Tms} (h : Clk w c m n o l) (hF : Fr S w w') (hS : ∀ x, x ∈ c :: m.toList → x ∉ S) : Clk w' c m n o l :=
  h.fr hF (hS c List.mem_cons_self) (fun b e => hS b (by rw [e]; simp))
theorem Two.fr0 (h : Two w0 w ca cb ma mb na nb oa ob la lb) (hF : Fr [] w w') : Two w0 w' ca cb ma mb na nb oa ob la lb :=
  ⟨h.a.fr0 hF, h.b.fr0 hF, h.ne, h.lo⟩
theorem Two.sub_ (h : Two w0 w ca cb ma mb na nb oa ob la lb) (hF : Fr [] w0 w) (hG : Fr (ca :: ma.toList) w w') : Fr [] w0 w' :=
  hF.sub hG fun y hy => Or.inr (h.lo y (Or.inl hy))
/-- the first clock has gone on -/
theorem Two.stepA {ma' : Option Nat} {na' oa' : Int} {la' : Tms} (h : Two w0 w ca cb ma mb na nb oa ob la lb) (hF : Fr [] w0 w) (hC : Clk w' ca ma' na' oa' la') (hG : Fr (ca :: ma.toList) w w') (hm : ma' = ma ∨ ∃ b, ma' = some b ∧ w.heap.size ≤ b) : Two w0 w' ca cb ma' mb na' nb oa' ob la' lb := by
  refine ⟨hC, h.b.frAll hG (fun x hx hy => h.ne x hy hx), fun x hx hy => ?_, fun x hx => ?_⟩
  · rcases hm with rfl | ⟨b', rfl, hge⟩
    · exact h.ne x hx hy
    · rcases List.mem_cons.1 hx with rfl | hx
      · exact h.ne x List.mem_cons_self hy
      · simp at hx
        subst hx
        have := h.b.ltAll x hy
        omega
  · rcases hx with hx | hx
    · rcases hm with rfl | ⟨b', rfl, hge⟩
      · exact h.lo x (Or.inl hx)
      · rcases List.mem_cons.1 hx with rfl | hx
        · exact h.lo x (Or.inl List.mem_cons_self)
        · simp at hx
          subst hx
          exact Nat.le_trans hF.size hge
    · exact h.lo x (Or.inr hx)
theorem Two.when_ (k : Ky) (hk : KyOk k) (h : Two w0 w ca cb ma mb na nb oa ob la lb) : Calls Try.prog 15 #[.pointer (some ⟨ca, 0, none⟩), .agg (kyC k)] w fun e w' => e = .returned (.tuple #[.int .i64 (tmD (look la k)).1, .bool (look la k).isSome]) ∧ Fr [] w w' := when_any k hk h.a
end
def TwoE (w0 w : World) (ca cb : Nat) (na nb oa ob : Int) (la lb : Tms) : Prop := ∃ ma mb, Two w0 w ca cb ma mb na nb oa ob la lb
section
variable {w0 w w' : World} {ca cb : Nat} {na nb oa ob : Int} {la lb : Tms}
theorem TwoE.symm (h : TwoE w0 w ca cb na nb oa ob la lb) : TwoE w0 w cb ca nb na ob oa lb la := by
  obtain ⟨ma, mb, h⟩ := h
  exact ⟨_, _, h.symm⟩
theorem TwoE.fr0 (h : TwoE w0 w ca cb na nb oa ob la lb) (hF : Fr [] w w') : TwoE w0 w' ca cb na nb oa ob la lb := by
  obtain ⟨ma, mb, h⟩ := h
  exact ⟨_, _, h.fr0 hF⟩
/-- a second clock -/
theorem two_new (h : CkIn w0 w ca na oa la) (hF : Fr [] w0 w) : Calls Try.prog 10 #[] w fun e w' => ∃ cb, e = .returned (.pointer (some ⟨cb, 0, none⟩)) ∧ TwoE w0 w' ca cb na 0 oa 0 la [] ∧ Fr [] w0 w' := by
  obtain ⟨m, h1, h2, h3⟩ := h
  refine (new_clock w).mono ?_
  rintro e w' ⟨g, he, hg, hC, hG⟩
  refine ⟨g, he, ⟨m, none, h1.fr0 hG, hC, fun x hx hy => ?_, fun x hx => ?_⟩, hF.trans hG⟩
  · have := h1.ltAll x hx
    simp at hy
    omega
  · rcases hx with hx | hx
    · rcases List.mem_cons.1 hx with rfl | hx
      · exact h2
      · cases m with
        | none => cases hx
        | some b => simp at hx; subst hx; exact h3 _ rfl
    · simp at hx
      subst hx
      exact Nat.le_trans hF.size hg
theorem two_set (k : Ky) (a : Int) (hk : KyOk k) (h : TwoE w0 w ca cb na nb oa ob la lb) (hI : CI na oa la) (ho : oa ≤ 1099511627776) (hF : Fr [] w0 w) :
    Calls Try.prog 11 #[.pointer (some ⟨ca, 0, none⟩), .agg (kyC k), .int .i64 a] w fun e w' => e = .returned (.int .i64 (setE la k a)) ∧ TwoE w0 w' ca cb na nb (setO oa la k a) ob (setL na oa la k a) lb ∧ Fr [] w0 w' := by
  obtain ⟨ma, mb, h⟩ := h
  refine (set_any k a hk h.a hI.n0 hI.n1 hI.o0 ho hI.len).mono ?_
  rintro e w' ⟨he, m', hC, hG, hm⟩
  exact ⟨he, ⟨m', mb, h.stepA hF hC hG hm⟩, h.sub_ hF hG⟩
theorem two_when (k : Ky) (hk : KyOk k) (h : TwoE w0 w ca cb na nb oa ob la lb) : Calls Try.prog 15 #[.pointer (some ⟨ca, 0, none⟩), .agg (kyC k)] w fun e w' => e = .returned (.tuple #[.int .i64 (tmD (look la k)).1, .bool (look la k).isSome]) ∧ Fr [] w w' := by
  obtain ⟨ma, mb, h⟩ := h
  exact when_any k hk h.a
theorem two_len (h : TwoE w0 w ca cb na nb oa ob la lb) : Calls Try.prog 13 #[.pointer (some ⟨ca, 0, none⟩)] w fun e w' => e = .returned (.int .i64 la.length) ∧ w' = w := by
  obtain ⟨ma, mb, h⟩ := h
  exact len_any h.a
theorem two_now (h : TwoE w0 w ca cb na nb oa ob la lb) : Calls Try.prog 14 #[.pointer (some ⟨ca, 0, none⟩)] w fun e w' => e = .returned (.int .i64 na) ∧ w' = w := by
  obtain ⟨ma, mb, h⟩ := h
  exact now_any h.a
/-- what Tick tells beside another clock; B bounds the clocks' blocks -/
def TwoT (w0 w : World) (B ca cb : Nat) (N nb oa ob : Int) (la lb : Tms) (e : Ending) (w' : World) : Prop := ∃ (ks : List Ky) (A : Option Addr) (cap : Nat), e = .returned (.slice A ks.length cap) ∧ ks.Perm (dks N la) ∧ Sorted_ la ks ∧
  (∃ ma mb, Two w0 w' ca cb ma mb N nb oa ob (undue N la) lb ∧ ∀ x, x ∈ ca :: ma.toList ∨ x ∈ cb :: mb.toList → x < B) ∧ Fr [] w0 w' ∧ (∃ S, Fr S w w' ∧ ∀ y, y ∈ S → y < B) ∧ w'.ownsRow w.heap.size 29 2 (.slice A ks.length cap) ks.length (flatKy ks)
theorem two_tick {B : Nat} (a : Int) (h : ∃ ma mb, Two w0 w ca cb ma mb na nb oa ob la lb ∧ ∀ x, x ∈ ca :: ma.toList ∨ x ∈ cb :: mb.toList → x < B) (hI : CI na oa la) (a0 : 1 ≤ a) (a1 : a ≤ 1000000) (hF : Fr [] w0 w) :
    Calls Try.prog 12 #[.pointer (some ⟨ca, 0, none⟩), .int .i64 a] w (TwoT w0 w B ca cb (later na a) nb oa ob la lb) := by
  obtain ⟨ma, mb, h, hB⟩ := h
  refine (tick_any a h.a a0 a1 hI.n0 hI.n1 hI.len).mono ?_
  rintro e w' ⟨ks, A, cap, he, hp, hs, _, hC, hG, ho⟩
  exact ⟨ks, A, cap, he, hp, hs, ⟨ma, mb, h.stepA hF hC hG (Or.inl rfl), hB⟩, h.sub_ hF hG, ⟨_, hG, fun y hy => hB y (Or.inl hy)⟩, ho⟩
theorem TwoE.bound (h : TwoE w0 w ca cb na nb oa ob la lb) : ∃ ma mb, Two w0 w ca cb ma mb na nb oa ob la lb ∧ ∀ x, x ∈ ca :: ma.toList ∨ x ∈ cb :: mb.toList → x < w.heap.size := by
  obtain ⟨ma, mb, h⟩ := h
  exact ⟨ma, mb, h, fun x hx => hx.elim (h.a.ltAll x) (h.b.ltAll x)⟩
end
theorem undue_two {n N : Int} (h : n ≤ N) (l : Tms) : undue N (undue n l) = undue N l := by
  unfold undue
  rw [List.filter_filter]
  apply List.filter_congr
  intro p _
  by_cases h1 : p.2.1 ≤ N <;> by_cases h2 : p.2.1 ≤ n <;> simp [h1, h2] <;> omega
theorem dks_two {n N : Int} (h : n ≤ N) : ∀ l : Tms, (dks n l ++ dks N (undue n l)).Perm (dks N l)
  | [] => List.Perm.refl _
  | p :: l => by
    have ih := dks_two h l
    unfold dks undue at *
    by_cases h2 : p.2.1 ≤ n
    · have h1 : p.2.1 ≤ N := by omega
      rw [List.filter_cons_of_pos (by simpa using h2), List.filter_cons_of_neg (by simpa using h2), List.filter_cons_of_pos (by simpa using h1)]
      exact List.Perm.cons _ ih
    · rw [List.filter_cons_of_neg (by simpa using h2), List.filter_cons_of_pos (l := l) (p := fun p : Ky × Tm => decide ¬ p.2.1 ≤ n) (by simpa using h2)]
      by_cases h1 : p.2.1 ≤ N
      · rw [List.filter_cons_of_pos (by simpa using h1), List.filter_cons_of_pos (by simpa using h1)]
        exact (List.perm_middle).trans (List.Perm.cons _ ih)
      · rw [List.filter_cons_of_neg (by simpa using h1), List.filter_cons_of_neg (by simpa using h1)]
        exact ih
theorem look_undue {n : Int} {l : Tms} (hn : (l.map (·.1)).Nodup) {k : Ky} {t : Tm} (h : (k, t) ∈ undue n l) : look l k = some t ∧ look (undue n l) k = some t := by
  unfold undue at h ⊢
  obtain ⟨h1, h2⟩ := List.mem_filter.1 h
  have e := look_mem hn h1
  refine ⟨e, ?_⟩
  rw [look_filter hn]
  simp only at e
  rw [e]
  simp only
  rw [if_pos h2]
/-- two Ticks tell what one tells -/
theorem ticks_two {n N o n0 : Int} {l : Tms} (hI : CI n0 o l) (h : n ≤ N) {x y z : List Ky} (hx : x.Perm (dks n l)) (hy : y.Perm (dks N (undue n l))) (hz : z.Perm (dks N l)) (sx : Sorted_ l x) (sy : Sorted_ (undue n l) y) (sz : Sorted_ l z) : x ++ y = z := by
  refine tick_one hI ((hx.append hy).trans (dks_two h l)) hz ?_ sz
  unfold Sorted_ at *
  rw [List.pairwise_append]
  refine ⟨sx, ?_, ?_⟩
  · refine List.Pairwise.imp_of_mem ?_ sy
    intro a b ha hb hab
    obtain ⟨s, hs, _⟩ := mem_dks (hy.mem_iff.1 ha)
    obtain ⟨t, ht, _⟩ := mem_dks (hy.mem_iff.1 hb)
    obtain ⟨e1, e2⟩ := look_undue hI.keys hs
    obtain ⟨e3, e4⟩ := look_undue hI.keys ht
    unfold kcmp at hab ⊢
    rw [e2, e4] at hab
    rw [e1, e3]
    exact hab
  · intro a ha b hb
    obtain ⟨s, hs, h1⟩ := mem_dks (hx.mem_iff.1 ha)
    obtain ⟨t, ht, h2⟩ := mem_dks (hy.mem_iff.1 hb)
    have e1 := look_mem hI.keys hs
    have e3 := (look_undue hI.keys ht).1
    have h4 : ¬ t.1 ≤ n := by have := (List.mem_filter.1 ht).2; simpa using this
    simp only at e1
    unfold kcmp
    rw [e1, e3, tcmp_neg]
    simp only [tmD, Option.getD_some]
    omega
theorem own_slice {w : World} {base e sz n : Nat} {v : Value} {ys : List Value} (h : w.ownsRow base e sz v n ys) : ∃ A cap, v = .slice A n cap := by
  rcases h.2 with ⟨h1, h2⟩ | ⟨g', cap, cur, h1, _⟩
  · exact ⟨none, 0, by rw [h1, h2]⟩
  · exact ⟨_, _, h1⟩
theorem own_at {w : World} {base cap n : Nat} {A : Option Addr} {ks : List Ky} (h : w.ownsRow base 29 2 (.slice A n cap) n (flatKy ks)) (i : Nat) (k : Ky) (hk : ks[i]? = some k) :
    ∃ g, A = some ⟨g, 0, none⟩ ∧ ∀ W, Fr [] w W → W.cell? ⟨g, i * 2, none⟩ = some (.int .i64 k.1) ∧ W.cell? ⟨g, i * 2 + 1, none⟩ = some (.int .i64 k.2) := by
  have hn : n = ks.length := by have := h.1; rw [flatKy_len] at this; omega
  have hi := (List.getElem?_eq_some_iff.1 hk).1
  obtain ⟨g, cap', hv, hg, hlt⟩ := h.form (by omega)
  cases hv
  have hr := row_of_own h
  refine ⟨g, rfl, fun W hW => ?_⟩
  have hr2 := hr.fr hW hlt (by simp)
  exact ⟨(hr2 i k hk 0 _ rfl).1, (hr2 i k hk 1 _ rfl).1⟩
end Go.Proofs.Ytgmlkdchnpacaaa
