/- Rows of structs that the program made itself: their cells, an element read, an element changed. No program is spoken of here. -/
import Derived.Test.YtfchbppfbepelaaGreatOwn
import Derived.Test.YtfchbppfbepelaaGreatRow
namespace Go.Proofs.YtfchbppfbepelaaGreat
open Go.RowKit
set_option linter.unusedVariables false
def rowF {α : Type} (f : α → List Value) (l : List α) : List Value := l.flatMap f
section
variable {α : Type} {f : α → List Value} {N : Nat}
theorem rowF_nil : rowF f [] = [] := rfl
theorem rowF_cons (x : α) (l : List α) : rowF f (x :: l) = f x ++ rowF f l := rfl
theorem rowF_append (l r : List α) : rowF f (l ++ r) = rowF f l ++ rowF f r := List.flatMap_append
theorem rowF_one (x : α) : rowF f [x] = f x := by simp [rowF]
theorem rowF_len (hN : ∀ x, (f x).length = N) (l : List α) : (rowF f l).length = l.length * N := by
  induction l with
  | nil => simp [rowF]
  | cons x r ih => rw [rowF_cons, List.length_append, ih, hN, List.length_cons, Nat.add_mul]; omega
theorem rowF_get (hN : ∀ x, (f x).length = N) (l : List α) (i : Nat) (x : α) (h : l[i]? = some x) (c : Nat) (hc : c < N) : (rowF f l)[i * N + c]? = (f x)[c]? := by
  induction l generalizing i with
  | nil => simp at h
  | cons u r ih =>
    rw [rowF_cons]
    cases i with
    | zero =>
      simp at h
      subst h
      rw [List.getElem?_append_left (by rw [hN]; omega)]
      simp
    | succ i =>
      rw [List.getElem?_append_right (by rw [hN, Nat.add_mul]; omega), hN]
      have : (i + 1) * N + c - N = i * N + c := by rw [Nat.add_mul]; omega
      rw [this]
      exact ih i (by simpa using h)
theorem rowF_set (hN : ∀ x, (f x).length = N) (l : List α) (i : Nat) (x x' : α) (h : l[i]? = some x) (c : Nat) (hc : c < N) (u : Value) (hx : f x' = (f x).set c u) : rowF f (l.set i x') = (rowF f l).set (i * N + c) u := by
  induction l generalizing i with
  | nil => simp at h
  | cons y r ih =>
    cases i with
    | zero =>
      simp at h
      subst h
      simp only [List.set_cons_zero, rowF_cons, hx]
      rw [Nat.zero_mul, Nat.zero_add, List.set_append_left _ _ (by rw [hN]; exact hc)]
    | succ i =>
      simp only [List.set_cons_succ, rowF_cons]
      rw [ih i (by simpa using h), List.set_append_right _ _ (by rw [hN, Nat.add_mul]; omega), hN]
      congr 2
      rw [Nat.add_mul]; omega
theorem rowF_one' (h1 : ∀ x, ∀ v, v ∈ f x → v.oneCell' = true) (l : List α) : ∀ v, v ∈ rowF f l → v.oneCell' = true := fun v hv => by
  obtain ⟨x, _, hx⟩ := List.mem_flatMap.1 hv
  exact h1 x v hx
/-- what a slice at A shows of a list -/
def RAt (w : World) (A : Option Addr) (N : Nat) (f : α → List Value) (l : List α) : Prop := ∀ i x, l[i]? = some x → ∃ q, A = some ⟨q, 0, none⟩ ∧ q < w.heap.size ∧ ∀ W, Fr [] w W → ∀ c v, (f x)[c]? = some v → W.cell? ⟨q, i * N + c, none⟩ = some v
theorem RAt.fr0 {w w' : World} {A : Option Addr} {l : List α} (h : RAt w A N f l) (hF : Fr [] w w') : RAt w' A N f l := fun i x hi => by
  obtain ⟨q, h1, h2, h3⟩ := h i x hi
  exact ⟨q, h1, Nat.lt_of_lt_of_le h2 hF.size, fun W hW => h3 W (hF.trans hW)⟩
theorem rown_caps {w : World} {base e sz n cap : Nat} {A : Option Addr} {ys : List Value} (h : w.ownsRow base e sz (.slice A n cap) n ys) : n ≤ cap ∧ cap ≤ maxLen := by
  rcases h.2 with ⟨h1, h2⟩ | ⟨g', cap', cur, h1, _, _, h4, h5, _⟩
  · injection h1 with _ _ e3; exact ⟨by omega, by unfold maxLen; omega⟩
  · injection h1 with _ _ e3; rw [e3]; exact ⟨h4, h5⟩
theorem rown_slice {w : World} {base e sz n : Nat} {v : Value} {ys : List Value} (h : w.ownsRow base e sz v n ys) : ∃ A cap, v = .slice A n cap := by
  rcases h.2 with ⟨h1, h2⟩ | ⟨g', cap, cur, h1, _⟩
  · exact ⟨none, 0, by rw [h1, h2]⟩
  · exact ⟨_, _, h1⟩
theorem rown_frS {w w' : World} {Sx : List Nat} {base e sz n : Nat} {v : Value} {ys : List Value} (h : w.ownsRow base e sz v n ys) (hF : Fr Sx w w') (hn : ∀ q, v.ownBlock = some q → q ∉ Sx) : w'.ownsRow base e sz v n ys :=
  ⟨h.1, h.2.imp id fun ⟨g, cap, cur, h1, h2, h3, h4⟩ => ⟨g, cap, cur, h1, h2, hF.blk (b := g) h3 (hn g (by rw [h1]; rfl)), h4⟩⟩
theorem rown_blk {w : World} {base e sz n : Nat} {v : Value} {xs : List Value} (h : w.ownsRow base e sz v n xs) : ∀ k, v.ownBlock = some k → ∃ cur, Blk w k cur e := fun k hk => by
  rcases h.2 with ⟨h1, _⟩ | ⟨g, cap, cur, h1, _, h3, _⟩
  · rw [h1] at hk; cases hk
  · rw [h1] at hk
    injection hk with hk
    subst hk
    exact ⟨cur, h3⟩
theorem rown_base {w : World} {base base' e sz n : Nat} {v : Value} {xs : List Value} (h : w.ownsRow base e sz v n xs) (hb : base' ≤ base) : w.ownsRow base' e sz v n xs :=
  ⟨h.1, h.2.imp id fun ⟨g, cap, cur, h1, h2, h3⟩ => ⟨g, cap, cur, h1, Nat.le_trans hb h2, h3⟩⟩
theorem RAt.of_own (hN : ∀ x, (f x).length = N) {w : World} {base e cap : Nat} {A : Option Addr} {l : List α} (h : w.ownsRow base e N (.slice A l.length cap) l.length (rowF f l)) : RAt w A N f l := fun i x hi => by
  have hil := (List.getElem?_eq_some_iff.1 hi).1
  obtain ⟨g, cap', hv, hg, hlt⟩ := h.form (by omega)
  cases hv
  refine ⟨g, rfl, hlt, fun W hW c v hv => ?_⟩
  have hc : c < N := by
    have := (List.getElem?_eq_some_iff.1 hv).1
    rwa [hN] at this
  rw [World.cell?_of_block (hW.block g hlt (by simp)), h.cellAt (i * N + c) (by
    have : (i + 1) * N ≤ l.length * N := Nat.mul_le_mul_right _ (by omega)
    rw [Nat.add_mul] at this
    omega), rowF_get hN l i x hi c hc, hv]
theorem Fr.of_row {w w' : World} {row : Option Nat} (hg : w.grownBy w' row) : Fr row.toList w w' :=
  ⟨hg.os, hg.tape, hg.output, hg.size, fun k hk hn => hg.block k hk (fun e => hn (by rw [← e]; simp))⟩
theorem Blk.neT {w : World} {a b T U : Nat} {cs ds : Array Value} (h : Blk w a cs T) (k : Blk w b ds U) (hT : T ≠ U) : a ≠ b := fun e => by
  subst e
  unfold Blk at h k
  rw [h] at k
  injection k with k
  injection k with _ k
  exact hT k
end
theorem wp_app {P : Program} (w : World) {o : Oper} {a : Act} {K : Act → World → Prop} {Q : Exit → Act → World → Prop} (d : Tmp) (hd : o.dst = some d) (s x : Operand) (t : TypeId)
    (ho : o.op = .call { callee := .builtin .append, args := #[s, x], argTypes := #[t, t] })
    (base : Nat) (e : TypeId) (i : TypeInfo) (z : Value) (size bytes : Nat) (ht : P.underlying t = some (.slice e)) (hi : P.info? e = some i) (hz : i.zero = some z)
    (hsize : i.size = size) (hby : i.bytes = bytes) (hzs : z.cells.size = size) (hsz : 0 < size)
    (v : Value) (n : Nat) (xs : List Value) (hs : a.eval s = v) (hown : w.ownsRow base e size v n xs)
    (B : Nat) (A : Option Addr) (m c : Nat) (news : List Value) (hx : a.eval x = .slice A m c) (hr : Reads w B size A m news) (h1 : ∀ u ∈ news, u.oneCell' = true)
    (h63 : n + m ≤ maxLen) (hbytes : (n + m) * bytes ≤ 140737488355328) (hbase : base ≤ w.heap.size)
    (h : ∀ v' w', w'.ownsRow base e size v' (n + m) (xs ++ news) → w.grownBy w' v.ownBlock → (v'.ownBlock = v.ownBlock ∨ v'.ownBlock = some w.heap.size) → K (a.put (some d) v') w') : o.wp P a w K Q := by
  rw [← hd] at h
  exact wp_append_any w s x t ho base e i z size bytes ht hi hz hsize hby hzs hsz v n xs hs hown B A m c news hx hr h1 h63 hbytes hbase h
end Go.Proofs.YtfchbppfbepelaaGreat
