/- A clock that a call has made: its blocks are new since a world w0. -/
import Derived.Test.YtfchbppfbepelaaGreatClock6
namespace Go.Proofs.YtfchbppfbepelaaGreat
open Go.RowKit Go.Maps
set_option linter.unusedVariables false
def CkIn (w0 w : World) (c : Nat) (n o : Int) (l : Tms) : Prop := ∃ m, Clk w c m n o l ∧ w0.heap.size ≤ c ∧ ∀ b, m = some b → w0.heap.size ≤ b
section
variable {w0 w w' : World} {c : Nat} {n o : Int} {l : Tms}
theorem CkIn.fr0 (h : CkIn w0 w c n o l) (hF : Fr [] w w') : CkIn w0 w' c n o l := by
  obtain ⟨m, h1, h2, h3⟩ := h
  exact ⟨m, h1.fr0 hF, h2, h3⟩
theorem sub_in {m : Option Nat} (hF : Fr [] w0 w) (hG : Fr (c :: m.toList) w w') (hc : w0.heap.size ≤ c) (hm : ∀ b, m = some b → w0.heap.size ≤ b) : Fr [] w0 w' :=
  hF.sub hG (by
    intro y hy
    rcases List.mem_cons.1 hy with rfl | hy
    · exact Or.inr hc
    · right; exact hm y (by cases m with
        | none => cases hy
        | some b => simp at hy; rw [hy]))
theorem new_in (w : World) : Calls Tryz.prog 67 #[] w fun e w' => ∃ g, e = .returned (.pointer (some ⟨g, 0, none⟩)) ∧ CkIn w w' g 0 0 [] ∧ Fr [] w w' :=
  (new_clock w).mono fun e w' ⟨g, he, hg, hC, hF⟩ => ⟨g, he, ⟨none, hC, hg, by simp⟩, hF⟩
theorem set_in (k : Ky) (a : Int) (hk : KyOk k) (h : CkIn w0 w c n o l) (hI : CI n o l) (ho : o ≤ 1099511627776) (hF : Fr [] w0 w) :
    Calls Tryz.prog 68 #[.pointer (some ⟨c, 0, none⟩), .agg (kyC k), .int .i64 a] w fun e w' => e = .returned (.int .i64 (setE l k a)) ∧ CkIn w0 w' c n (setO o l k a) (setL n o l k a) ∧ Fr [] w0 w' := by
  obtain ⟨m, h1, h2, h3⟩ := h
  refine (set_any k a hk h1 hI.n0 hI.n1 hI.o0 ho hI.len).mono ?_
  rintro e w' ⟨he, m', hC, hG, hm⟩
  refine ⟨he, ⟨m', hC, h2, ?_⟩, sub_in hF hG h2 h3⟩
  intro b hb
  rcases hm with rfl | ⟨b', hb', hge⟩
  · exact h3 b hb
  · rw [hb'] at hb; cases hb; exact Nat.le_trans hF.size hge
theorem when_in (k : Ky) (hk : KyOk k) (h : CkIn w0 w c n o l) : Calls Tryz.prog 75 #[.pointer (some ⟨c, 0, none⟩), .agg (kyC k)] w fun e w' => e = .returned (.tuple #[.int .i64 (tmD (look l k)).1, .bool (look l k).isSome]) ∧ Fr [] w w' := by
  obtain ⟨m, h1, h2, h3⟩ := h
  exact when_any k hk h1
theorem len_in (h : CkIn w0 w c n o l) : Calls Tryz.prog 78 #[.pointer (some ⟨c, 0, none⟩)] w fun e w' => e = .returned (.int .i64 l.length) ∧ w' = w := by
  obtain ⟨m, h1, h2, h3⟩ := h
  exact len_any h1
theorem now_in (h : CkIn w0 w c n o l) : Calls Tryz.prog 77 #[.pointer (some ⟨c, 0, none⟩)] w fun e w' => e = .returned (.int .i64 n) ∧ w' = w := by
  obtain ⟨m, h1, h2, h3⟩ := h
  exact now_any h1
/-- what is left when a key is taken away -/
def cutL (l : Tms) (k : Ky) : Tms := if (look l k).isSome then del l k else l
theorem cancel_in (k : Ky) (hk : KyOk k) (h : CkIn w0 w c n o l) (hF : Fr [] w0 w) :
    Calls Tryz.prog 70 #[.pointer (some ⟨c, 0, none⟩), .agg (kyC k)] w fun e w' => e = .returned (.bool (look l k).isSome) ∧ CkIn w0 w' c n o (cutL l k) ∧ Fr [] w0 w' := by
  obtain ⟨m, h1, h2, h3⟩ := h
  unfold cutL
  cases hb : (look l k).isSome with
  | false =>
    rw [if_neg (by simp)]
    exact (cancel_no k hk h1 hb).mono fun e w' ⟨he, hG⟩ => ⟨he, ⟨m, h1.fr0 hG, h2, h3⟩, hF.trans hG⟩
  | true =>
    rw [if_pos rfl]
    cases m with
    | none =>
      rcases h1.mp with ⟨_, rfl⟩ | ⟨b, h, _⟩
      · exact absurd hb (by simp [look])
      · cases h
    | some b => exact (cancel_yes k hk h1 hb).mono fun e w' ⟨he, hC, hG⟩ => ⟨he, ⟨some b, hC, h2, h3⟩, sub_in (m := some b) hF hG h2 h3⟩
theorem CI.cut_ (h : CI n o l) (k : Ky) : CI n o (cutL l k) := by
  unfold cutL
  split
  · exact h.filter_ _
  · exact h
/-- what Tick tells, and leaves -/
def TickI (w0 w : World) (c : Nat) (N o : Int) (l : Tms) (e : Ending) (w' : World) : Prop := ∃ (ks : List Ky) (A : Option Addr) (cap : Nat), e = .returned (.slice A ks.length cap) ∧ ks.Perm (dks N l) ∧ Sorted_ l ks ∧
  (ks = [] ∨ ∃ q, A = some ⟨q, 0, none⟩ ∧ w.heap.size ≤ q ∧ KRow w' q ks) ∧ CkIn w0 w' c N o (undue N l) ∧ Fr [] w0 w' ∧ (∃ S, Fr S w w' ∧ ∀ y, y ∈ S → w0.heap.size ≤ y ∧ y < w.heap.size) ∧ w'.ownsRow w.heap.size 141 2 (.slice A ks.length cap) ks.length (flatKy ks)
theorem tick_in (a : Int) (h : CkIn w0 w c n o l) (hI : CI n o l) (a0 : 1 ≤ a) (a1 : a ≤ 1000000) (hF : Fr [] w0 w) :
    Calls Tryz.prog 72 #[.pointer (some ⟨c, 0, none⟩), .int .i64 a] w (TickI w0 w c (later n a) o l) := by
  obtain ⟨m, h1, h2, h3⟩ := h
  refine (tick_any a h1 a0 a1 hI.n0 hI.n1 hI.len).mono ?_
  rintro e w' ⟨ks, A, cap, he, hp, hs, hr, hC, hG, ho⟩
  refine ⟨ks, A, cap, he, hp, hs, hr, ⟨m, hC, h2, h3⟩, sub_in hF hG h2 h3, ⟨_, hG, ?_⟩, ho⟩
  intro y hy
  rcases List.mem_cons.1 hy with rfl | hy
  · exact ⟨h2, h1.st.lt⟩
  · cases m with
    | none => cases hy
    | some b => simp at hy; subst hy; exact ⟨h3 _ rfl, h1.mlt _ rfl⟩
end
end Go.Proofs.YtfchbppfbepelaaGreat
