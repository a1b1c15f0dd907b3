/- Lists that are kept: what the book's functions do to lists of lists, told of memory alone. No program is spoken of here. -/
import Derived.Test.YtcdencpkgfehlaaMgA
import Derived.Laws.AppendOwn
namespace Go.Proofs.Ytcdencpkgfehlaa
open Go.RowKit
set_option linter.unusedVariables false
section
variable {P : Program} (w : World)
/-- append, and the old slice stays what it was -/
theorem run_append_keep (base : Nat) (t ty e : TypeId) (i : TypeInfo) (z : Value) (size bytes : Nat) (ht : P.underlying t = some (.slice e)) (hi : P.info? e = some i) (hz : i.zero = some z)
    (hsize : i.size = size) (hby : i.bytes = bytes) (hzs : z.cells.size = size) (hsz : 0 < size)
    (v : Value) (n : Nat) (xs : List Value) (hown : w.ownsRow base e size v n xs)
    (A : Option Addr) (B m c : Nat) (news : List Value) (hr : Reads w B size A m news) (h1 : ∀ u ∈ news, u.oneCell' = true)
    (h63 : n + m ≤ maxLen) (hbytes : (n + m) * bytes ≤ 140737488355328) (hbase : base ≤ w.heap.size) :
    ∃ v' w', (Builtin.append_ #[t, t] ty #[v, .slice A m c]).run P w = .ok v' w' ∧ w'.ownsRow base e size v' (n + m) (xs ++ news) ∧ w.grownBy w' v.ownBlock ∧
      (v'.ownBlock = v.ownBlock ∨ v'.ownBlock = some w.heap.size) ∧ w'.ownsRow base e size v n xs := by
  obtain ⟨v', w', hrun, h2, h3, h4⟩ := run_append_any (P := P) w base t ty e i z size bytes ht hi hz hsize hby hzs hsz v n xs hown B A m c news hr h1 h63 hbytes hbase
  refine ⟨v', w', hrun, h2, h3, h4, ?_⟩
  rcases hown.2 with ⟨rfl, rfl⟩ | ⟨g, cap, cur, rfl, hb, hg, hnc, hcm, hcs, htk⟩
  · exact ⟨hown.1, Or.inl ⟨rfl, rfl⟩⟩
  · by_cases hm : m = 0
    · subst hm
      have hw : w' = w := by
        rcases A with _ | ad
        · have h5 := run_append_of_nil (P := P) w base t ty e i size ht hi (.slice (some ⟨g, 0, none⟩) n cap) n xs hown c
          rw [h5] at hrun
          injection hrun with _ h6
          exact h6.symm
        · have hnil : news = [] := List.eq_nil_of_length_eq_zero (by simpa using hr.1)
          subst hnil
          have hfit : n * i.size + ([] : List Value).length ≤ cur.size := by rw [hcs, hsize]; simp; exact Nat.mul_le_mul_right _ hnc
          have h5 := run_append_room (P := P) w t ty e i ht hi g n cap cur hg ad 0 c [] (by simp) (by simp) (by simp) (by omega) hfit
          rw [h5] at hrun
          injection hrun with _ h6
          rw [← h6]
          have e1 : (cur.toList.take (n * i.size) ++ ([] : List Value) ++ cur.toList.drop (n * i.size + ([] : List Value).length)).toArray = cur := by simp
          rw [e1]
          exact setRow_self w g cur e (0, 0) hg
      rw [hw]
      exact hown
    · obtain ⟨ad, rfl, _, hcell⟩ := hr.2 (by omega)
      by_cases hroom : n + m ≤ cap
      · have hfit : n * i.size + news.length ≤ cur.size := by rw [hr.1, hcs, hsize, ← Nat.add_mul]; exact Nat.mul_le_mul_right _ hroom
        have h5 := run_append_room (P := P) w t ty e i ht hi g n cap cur hg ad m c news (by rw [hsize]; exact hr.1) hcell h1 hroom hfit
        rw [h5] at hrun
        injection hrun with _ h6
        rw [← h6]
        refine ⟨hown.1, Or.inr ⟨g, cap, _, rfl, hb, setRow_heap w g cur _ e _ hg, hnc, hcm, ?_, ?_⟩⟩
        · simp only [List.size_toArray, List.length_append, List.length_take, List.length_drop, Array.length_toList]
          omega
        · have hl : (cur.toList.take (n * i.size)).length = n * size := by rw [hsize, htk]; exact hown.1
          simp only [List.append_assoc]
          rw [← hl, List.take_left', hsize, htk]
          rw [hsize]
      · have holds : ∀ j u, xs[j]? = some u → w.cell? ((⟨g, 0, none⟩ : Addr).add j) = some u := hown.cells (g := g) rfl
        have h63' : ((n + m : Nat) : Int) ≤ 9223372036854775807 := by unfold maxLen at h63; omega
        have h5 := run_append_grow (P := P) w t ty e i z ht hi hz ⟨g, 0, none⟩ n cap xs (by rw [hsize]; exact hown.1) holds ad m c news (by rw [hsize]; exact hr.1) hcell (by omega) h63' (growslice_fits (by omega) (by rw [hby]; exact hbytes))
        rw [h5] at hrun
        injection hrun with _ h6
        rw [← h6]
        exact (World.ownsRow.drew hown).alloc _
theorem wp_app_keep {o : Oper} {a : Act} {K : Act → World → Prop} {Q : Exit → Act → World → Prop} (d : Tmp) (hd : o.dst = some d) (s x : Operand) (t : TypeId)
    (ho : o.op = .call { callee := .builtin .append, args := #[s, x], argTypes := #[t, t] })
    (base : Nat) (e : TypeId) (i : TypeInfo) (z : Value) (size bytes : Nat) (ht : P.underlying t = some (.slice e)) (hi : P.info? e = some i) (hz : i.zero = some z)
    (hsize : i.size = size) (hby : i.bytes = bytes) (hzs : z.cells.size = size) (hsz : 0 < size)
    (v : Value) (n : Nat) (xs : List Value) (hs : a.eval s = v) (hown : w.ownsRow base e size v n xs)
    (B : Nat) (A : Option Addr) (m c : Nat) (news : List Value) (hx : a.eval x = .slice A m c) (hr : Reads w B size A m news) (h1 : ∀ u ∈ news, u.oneCell' = true)
    (h63 : n + m ≤ maxLen) (hbytes : (n + m) * bytes ≤ 140737488355328) (hbase : base ≤ w.heap.size)
    (h : ∀ v' w', w'.ownsRow base e size v' (n + m) (xs ++ news) → w.grownBy w' v.ownBlock → (v'.ownBlock = v.ownBlock ∨ v'.ownBlock = some w.heap.size) → w'.ownsRow base e size v n xs → K (a.put (some d) v') w') : o.wp P a w K Q := by
  rw [← hd] at h
  obtain ⟨v', w', hrun, h2, h3, h4, h5⟩ := run_append_keep (P := P) w base t o.type e i z size bytes ht hi hz hsize hby hzs hsz v n xs hown A B m c news hr h1 h63 hbytes hbase
  unfold Oper.wp execOp
  simp only [ho, resolve, invoke, builtin, Sem.run_bind, Sem.run_pure, Result.andThen_ok, List.map_toArray, List.map_cons, List.map_nil, hs, hx, hrun]
  exact h v' w' h2 h3 h4 h5
theorem wpList_app_keep {ops : Array Oper} {rest : List Oper} {o : Oper} {a : Act} {Q : Exit → Act → World → Prop} (hgd : o.guard = none) (s x : Operand) (t : TypeId)
    (ho : o.op = .call { callee := .builtin .append, args := #[s, x], argTypes := #[t, t] })
    (base : Nat) (e : TypeId) (i : TypeInfo) (z : Value) (size bytes : Nat) (ht : P.underlying t = some (.slice e)) (hi : P.info? e = some i) (hz : i.zero = some z)
    (hsize : i.size = size) (hby : i.bytes = bytes) (hzs : z.cells.size = size) (hsz : 0 < size)
    (v : Value) (n : Nat) (xs : List Value) (hs : a.eval s = v) (hown : w.ownsRow base e size v n xs)
    (B : Nat) (A : Option Addr) (m c : Nat) (news : List Value) (hx : a.eval x = .slice A m c) (hr : Reads w B size A m news) (h1 : ∀ u ∈ news, u.oneCell' = true)
    (h63 : n + m ≤ maxLen) (hbytes : (n + m) * bytes ≤ 140737488355328) (hbase : base ≤ w.heap.size)
    (h : ∀ v' w', w'.ownsRow base e size v' (n + m) (xs ++ news) → w.grownBy w' v.ownBlock → (v'.ownBlock = v.ownBlock ∨ v'.ownBlock = some w.heap.size) → w'.ownsRow base e size v n xs → wpList P ops Q rest (a.put o.dst v') w') : wpList P ops Q (o :: rest) a w :=
  wpList_plain hgd fun _ hK => by
    obtain ⟨v', w', hrun, h2, h3, h4, h5⟩ := run_append_keep (P := P) w base t o.type e i z size bytes ht hi hz hsize hby hzs hsz v n xs hown A B m c news hr h1 h63 hbytes hbase
    unfold Oper.wp execOp
    simp only [ho, resolve, invoke, builtin, Sem.run_bind, Sem.run_pure, Result.andThen_ok, List.map_toArray, List.map_cons, List.map_nil, hs, hx, hrun]
    exact hK _ _ (h v' w' h2 h3 h4 h5)
end
/-- the marks of a list i: those of the numbers a, a + 1, .. -/
def mks {α : Type} (mk : Nat → Nat → α) (i a n : Nat) : List α := (List.range n).map fun k => mk i (a + k)
theorem mks_len {α : Type} (mk : Nat → Nat → α) (i a n : Nat) : (mks mk i a n).length = n := by simp [mks]
theorem mks_zero {α : Type} (mk : Nat → Nat → α) (i a : Nat) : mks mk i a 0 = [] := rfl
theorem mks_succ {α : Type} (mk : Nat → Nat → α) (i a n : Nat) : mks mk i a (n + 1) = mks mk i a n ++ [mk i (a + n)] := by
  unfold mks
  rw [List.range_succ, List.map_append]
  rfl
theorem mks_app {α : Type} (mk : Nat → Nat → α) (i n m : Nat) : mks mk i 0 n ++ mks mk i n m = mks mk i 0 (n + m) := by
  induction m with
  | zero => simp [mks_zero]
  | succ m ih => rw [mks_succ, ← List.append_assoc, ih, ← Nat.add_assoc, mks_succ]; simp
theorem mks_get {α : Type} (mk : Nat → Nat → α) (i a n k : Nat) (h : k < n) : (mks mk i a n)[k]? = some (mk i (a + k)) := by
  unfold mks
  rw [List.getElem?_map, List.getElem?_range h]
  rfl
/-- a list that is kept -/
structure Bl (α : Type) where
  v : Value
  xs : List α
section
variable {α : Type} {f : α → List Value} {N : Nat} {E SL : TypeId}
structure Kd (E SL : TypeId) (N : Nat) (f : α → List Value) (w : World) (LV : Value) (k : List (Bl α)) : Prop where
  row : w.ownsRow 0 SL 1 LV k.length (k.map (·.v))
  ls : ∀ l, l ∈ k → w.ownsRow 0 E N l.v l.xs.length (rowF f l.xs)
  sm : ∀ l, l ∈ k → l.xs.length ≤ 2000
  ap : k.Pairwise fun a b => ∀ q, a.v.ownBlock = some q → b.v.ownBlock ≠ some q
/-- the copies -/
structure Ws (E SL : TypeId) (N : Nat) (f : α → List Value) (w : World) (WV : Value) (k : List (Bl α)) (ws : List Value) : Prop where
  len : ws.length = k.length
  row : w.ownsRow 0 SL 1 WV ws.length ws
  ls : ∀ (i : Nat) (l : Bl α) (u : Value), k[i]? = some l → ws[i]? = some u → w.ownsRow 0 E N u l.xs.length (rowF f l.xs)
/-- none of these blocks is of the kinds' types -/
def OffT (E SL : TypeId) (w : World) (S : List Nat) : Prop := ∀ q, q ∈ S → ∀ cur T, Blk w q cur T → T ≠ E ∧ T ≠ SL
theorem OffT.nil (E SL : TypeId) (w : World) : OffT E SL w [] := fun q hq => by cases hq
theorem rown_off {w w' : World} {S : List Nat} {base sz n : Nat} {v : Value} {ys : List Value} {T : TypeId} (h : w.ownsRow base T sz v n ys) (hF : Fr S w w') (hS : ∀ q, q ∈ S → ∀ cur U, Blk w q cur U → U ≠ T) : w'.ownsRow base T sz v n ys :=
  rown_frS h hF fun q hq hqs => by
    obtain ⟨cur, hc⟩ := rown_blk h q hq
    exact hS q hqs cur _ hc rfl
theorem Kd.off {w w' : World} {S : List Nat} {LV : Value} {k : List (Bl α)} (h : Kd E SL N f w LV k) (hF : Fr S w w') (hS : OffT E SL w S) : Kd E SL N f w' LV k :=
  ⟨rown_off h.row hF fun q hq cur U hB => (hS q hq cur U hB).2, fun l hl => rown_off (h.ls l hl) hF fun q hq cur U hB => (hS q hq cur U hB).1, h.sm, h.ap⟩
theorem Kd.fr0 {w w' : World} {LV : Value} {k : List (Bl α)} (h : Kd E SL N f w LV k) (hF : Fr [] w w') : Kd E SL N f w' LV k := h.off hF (OffT.nil _ _ _)
theorem Ws.off {w w' : World} {S : List Nat} {WV : Value} {k : List (Bl α)} {ws : List Value} (h : Ws E SL N f w WV k ws) (hF : Fr S w w') (hS : OffT E SL w S) : Ws E SL N f w' WV k ws :=
  ⟨h.len, rown_off h.row hF fun q hq cur U hB => (hS q hq cur U hB).2, fun i l u hl hu => rown_off (h.ls i l u hl hu) hF fun q hq cur U hB => (hS q hq cur U hB).1⟩
theorem Ws.fr0 {w w' : World} {WV : Value} {k : List (Bl α)} {ws : List Value} (h : Ws E SL N f w WV k ws) (hF : Fr [] w w') : Ws E SL N f w' WV k ws := h.off hF (OffT.nil _ _ _)
/-- an own row's list, at a place: the slice's address and its cells -/
theorem Kd.at_ {w : World} {LV : Value} {k : List (Bl α)} (h : Kd E SL N f w LV k) {i : Nat} {l : Bl α} (hi : k[i]? = some l) : ∃ q cap, LV = .slice (some ⟨q, 0, none⟩) k.length cap ∧ q < w.heap.size ∧ ∀ W, Fr [] w W → W.cell? ⟨q, i, none⟩ = some l.v := by
  have hil := (List.getElem?_eq_some_iff.1 hi).1
  obtain ⟨q, cap, hv, _, hlt⟩ := h.row.form (by omega)
  refine ⟨q, cap, hv, hlt, fun W hW => ?_⟩
  have h1 := h.row
  rw [hv] at h1
  rw [World.cell?_of_block (hW.block q hlt (by simp)), h1.cellAt i (by omega), List.getElem?_map, hi]
  rfl
theorem Ws.at_ {w : World} {WV : Value} {k : List (Bl α)} {ws : List Value} (h : Ws E SL N f w WV k ws) {i : Nat} {u : Value} (hi : ws[i]? = some u) : ∃ q cap, WV = .slice (some ⟨q, 0, none⟩) ws.length cap ∧ q < w.heap.size ∧ ∀ W, Fr [] w W → W.cell? ⟨q, i, none⟩ = some u := by
  have hil := (List.getElem?_eq_some_iff.1 hi).1
  obtain ⟨q, cap, hv, _, hlt⟩ := h.row.form (by omega)
  refine ⟨q, cap, hv, hlt, fun W hW => ?_⟩
  have h1 := h.row
  rw [hv] at h1
  rw [World.cell?_of_block (hW.block q hlt (by simp)), h1.cellAt i (by omega), hi]
theorem rat_of (hN : ∀ x, (f x).length = N) {w : World} {base : Nat} {v : Value} {l : List α} (h : w.ownsRow base E N v l.length (rowF f l)) : ∃ A cap, v = .slice A l.length cap ∧ l.length ≤ cap ∧ cap ≤ maxLen ∧ RAt w A N f l := by
  obtain ⟨A, cap, rfl⟩ := rown_slice h
  have := rown_caps h
  exact ⟨A, cap, rfl, this.1, this.2, RAt.of_own hN h⟩
end
section
variable {α : Type} {f : α → List Value} {N : Nat} {E SL : TypeId}
/-- lists that may share memory -/
structure Ls (E SL : TypeId) (N : Nat) (f : α → List Value) (w : World) (LV : Value) (k : List (Bl α)) : Prop where
  row : w.ownsRow 0 SL 1 LV k.length (k.map (·.v))
  ls : ∀ l, l ∈ k → w.ownsRow 0 E N l.v l.xs.length (rowF f l.xs)
theorem Kd.toLs {w : World} {LV : Value} {k : List (Bl α)} (h : Kd E SL N f w LV k) : Ls E SL N f w LV k := ⟨h.row, h.ls⟩
theorem Ls.off {w w' : World} {S : List Nat} {LV : Value} {k : List (Bl α)} (h : Ls E SL N f w LV k) (hF : Fr S w w') (hS : OffT E SL w S) : Ls E SL N f w' LV k :=
  ⟨rown_off h.row hF fun q hq cur U hB => (hS q hq cur U hB).2, fun l hl => rown_off (h.ls l hl) hF fun q hq cur U hB => (hS q hq cur U hB).1⟩
theorem Ls.fr0 {w w' : World} {LV : Value} {k : List (Bl α)} (h : Ls E SL N f w LV k) (hF : Fr [] w w') : Ls E SL N f w' LV k := h.off hF (OffT.nil _ _ _)
theorem Ls.at_ {w : World} {LV : Value} {k : List (Bl α)} (h : Ls E SL N f w LV k) {i : Nat} {l : Bl α} (hi : k[i]? = some l) : ∃ q cap, LV = .slice (some ⟨q, 0, none⟩) k.length cap ∧ q < w.heap.size ∧ ∀ W, Fr [] w W → W.cell? ⟨q, i, none⟩ = some l.v := by
  have hil := (List.getElem?_eq_some_iff.1 hi).1
  obtain ⟨q, cap, hv, _, hlt⟩ := h.row.form (by omega)
  refine ⟨q, cap, hv, hlt, fun W hW => ?_⟩
  have h1 := h.row
  rw [hv] at h1
  rw [World.cell?_of_block (hW.block q hlt (by simp)), h1.cellAt i (by omega), List.getElem?_map, hi]
  rfl
/-- is each list marked by its own marks? -/
def Mk (mk : Nat → Nat → α) (k : List (Bl α)) : Prop := ∀ (i : Nat) l, k[i]? = some l → l.xs = mks mk i 0 l.xs.length
/-- the first j lists marked -/
def putT (mk : Nat → Nat → α) (k : List (Bl α)) (j : Nat) : List (Bl α) := k.mapIdx fun i l => if i < j then ⟨l.v, mks mk i 0 l.xs.length⟩ else l
theorem putT_zero (mk : Nat → Nat → α) (k : List (Bl α)) : putT mk k 0 = k := by
  apply List.ext_getElem?
  intro i
  simp [putT]
theorem putT_len (mk : Nat → Nat → α) (k : List (Bl α)) (j : Nat) : (putT mk k j).length = k.length := by simp [putT]
theorem putT_at (mk : Nat → Nat → α) (k : List (Bl α)) (j : Nat) {l : Bl α} (h : k[j]? = some l) : (putT mk k j)[j]? = some l := by simp [putT, h]
theorem putT_set (mk : Nat → Nat → α) (k : List (Bl α)) (j : Nat) {l : Bl α} (h : k[j]? = some l) : (putT mk k j).set j ⟨l.v, mks mk j 0 l.xs.length⟩ = putT mk k (j + 1) := by
  have hj := (List.getElem?_eq_some_iff.1 h).1
  apply List.ext_getElem?
  intro i
  rw [List.getElem?_set]
  by_cases hij : j = i
  · subst hij
    rw [if_pos rfl, if_pos (by rw [putT_len]; exact hj)]
    simp [putT, h]
  · rw [if_neg hij]
    simp only [putT, List.getElem?_mapIdx]
    cases k[i]? with
    | none => rfl
    | some u =>
      have : (i < j) ↔ (i < j + 1) := by omega
      simp [this]
theorem putT_mk (mk : Nat → Nat → α) (k : List (Bl α)) : Mk mk (putT mk k k.length) := fun i l hi => by
  have hil := (List.getElem?_eq_some_iff.1 hi).1
  rw [putT_len] at hil
  simp only [putT, List.getElem?_mapIdx] at hi
  rw [List.getElem?_eq_getElem hil] at hi
  simp [hil] at hi
  subst hi
  simp [mks_len]
theorem set_mks (mk : Nat → Nat → α) (j m : Nat) (xs : List α) (h : m < xs.length) : (mks mk j 0 m ++ xs.drop m).set m (mk j m) = mks mk j 0 (m + 1) ++ xs.drop (m + 1) := by
  rw [List.set_append_right _ _ (by rw [mks_len]; omega), mks_len, Nat.sub_self, List.drop_eq_getElem_cons h, List.set_cons_zero, mks_succ, Nat.zero_add, List.append_assoc]
  rfl
theorem rown_setCells {base sz n cap g : Nat} {e : TypeId} : ∀ (vs : List Value) (o : Nat) (w : World) (xs : List Value), w.ownsRow base e sz (.slice (some ⟨g, 0, none⟩) n cap) n xs → o + vs.length ≤ xs.length →
    (w.setCells g o vs).ownsRow base e sz (.slice (some ⟨g, 0, none⟩) n cap) n (xs.take o ++ vs ++ xs.drop (o + vs.length))
  | [], o, w, xs, h, hl => by simpa [World.setCells] using h
  | v :: r, o, w, xs, h, hl => by
    rw [List.length_cons] at hl
    have h1 := (h.stored o v).1
    have h2 := rown_setCells r (o + 1) (w.setCell ⟨g, o, none⟩ v) (xs.set o v) h1 (by rw [List.length_set]; omega)
    rw [World.setCells]
    have ho : o < xs.length := by omega
    have e1 : (xs.set o v).take (o + 1) = xs.take o ++ [v] := by
      rw [List.take_add_one, List.take_set_of_le (by omega), List.getElem?_set_self ho]
      rfl
    have e2 : (xs.set o v).drop (o + 1 + r.length) = xs.drop (o + (v :: r).length) := by
      rw [List.drop_set_of_lt (by omega), List.length_cons]
      congr 1
      omega
    rw [e1, e2] at h2
    simpa using h2
theorem rowF_put (hN : ∀ x, (f x).length = N) (l : List α) (m : Nat) (y : α) (hm : m < l.length) : (rowF f l).take (m * N) ++ f y ++ (rowF f l).drop (m * N + (f y).length) = rowF f (l.set m y) := by
  rw [List.set_eq_take_append_cons_drop, if_pos hm, rowF_append, rowF_cons]
  have h1 : (rowF f (l.take m)).length = m * N := by rw [rowF_len hN, List.length_take, Nat.min_eq_left (by omega)]
  have h2 : (rowF f (l.take (m + 1))).length = m * N + (f y).length := by rw [rowF_len hN, List.length_take, Nat.min_eq_left (by omega), hN, Nat.add_mul]; omega
  have e1 : (rowF f l).take (m * N) = rowF f (l.take m) := by
    conv => lhs; rw [← List.take_append_drop m l, rowF_append]
    rw [← h1, List.take_left']
    rfl
  have e2 : (rowF f l).drop (m * N + (f y).length) = rowF f (l.drop (m + 1)) := by
    conv => lhs; rw [← List.take_append_drop (m + 1) l, rowF_append]
    rw [← h2, List.drop_left']
    rfl
  rw [e1, e2, List.append_assoc]
/-- an element of a list is stored -/
theorem Kd.store (hN : ∀ x, (f x).length = N) (hE : E ≠ SL) {w : World} {LV : Value} {k : List (Bl α)} (h : Kd E SL N f w LV k) {j : Nat} {l : Bl α} (hj : k[j]? = some l) {q n cap : Nat} (hv : l.v = .slice (some ⟨q, 0, none⟩) n cap) (m : Nat) (hm : m < l.xs.length) (y : α) :
    Kd E SL N f (w.setCells q (m * N) (f y)) LV (k.set j ⟨l.v, l.xs.set m y⟩) := by
  have hjl := (List.getElem?_eq_some_iff.1 hj).1
  have hl := h.ls l (List.mem_of_getElem? hj)
  have hB : ∃ cur, Blk w q cur E := rown_blk hl q (by rw [hv]; rfl)
  have hF : Fr [q] w (w.setCells q (m * N) (f y)) := (Fr.refl [q] w).setCells _ _ _ (Or.inr (by simp))
  have hn : n = l.xs.length := by
    obtain ⟨A, c, e⟩ := rown_slice hl
    rw [hv] at e
    injection e
  have hmap : (k.set j ⟨l.v, l.xs.set m y⟩).map (·.v) = k.map (·.v) := by
    apply List.ext_getElem?
    intro i
    rw [List.getElem?_map, List.getElem?_map, List.getElem?_set]
    by_cases hij : j = i
    · subst hij
      rw [if_pos rfl, if_pos hjl, hj]; rfl
    · rw [if_neg hij]
  refine ⟨?_, fun u hu => ?_, fun u hu => ?_, ?_⟩
  · rw [hmap, List.length_set]
    exact rown_frS h.row hF fun q' hq' hqs => by
      obtain ⟨cur, hc⟩ := hB
      obtain ⟨cur', hc'⟩ := rown_blk h.row q' hq'
      simp at hqs
      subst hqs
      exact hc.neT hc' hE rfl
  · obtain ⟨i, hi⟩ := List.mem_iff_getElem?.1 hu
    rw [List.getElem?_set] at hi
    by_cases hij : j = i
    · rw [if_pos hij, if_pos hjl] at hi
      injection hi with hi
      subst hi
      simp only [List.length_set]
      have h1 := hl
      rw [hv, ← hn] at h1 ⊢
      have h2 := rown_setCells (f y) (m * N) w _ h1 (by
        rw [rowF_len hN, hN]
        have : (m + 1) * N ≤ l.xs.length * N := Nat.mul_le_mul_right _ hm
        rw [Nat.add_mul] at this
        omega)
      rw [rowF_put hN l.xs m y hm] at h2
      exact h2
    · rw [if_neg hij] at hi
      refine rown_frS (h.ls u (List.mem_of_getElem? hi)) hF fun q' hq' hqs => ?_
      simp at hqs
      subst hqs
      have hap := List.pairwise_iff_getElem.1 h.ap
      obtain ⟨hil, rfl⟩ := List.getElem?_eq_some_iff.1 hi
      obtain ⟨_, rfl⟩ := List.getElem?_eq_some_iff.1 hj
      have hq0 : k[j].v.ownBlock = some q' := by rw [hv]; rfl
      rcases Nat.lt_or_gt_of_ne hij with h1 | h1
      · exact hap j i hjl hil h1 q' hq0 hq'
      · exact hap i j hil hjl h1 q' hq' hq0
  · obtain ⟨i, hi⟩ := List.mem_iff_getElem?.1 hu
    rw [List.getElem?_set] at hi
    by_cases hij : j = i
    · rw [if_pos hij, if_pos hjl] at hi
      injection hi with hi
      subst hi
      simp only [List.length_set]
      exact h.sm l (List.mem_of_getElem? hj)
    · rw [if_neg hij] at hi
      exact h.sm u (List.mem_of_getElem? hi)
  · have hap := h.ap
    rw [List.pairwise_iff_getElem] at hap ⊢
    intro a b ha hb hab q' h1 h2
    rw [List.length_set] at ha hb
    have key : ∀ (c : Nat) (hc : c < (k.set j ⟨l.v, l.xs.set m y⟩).length), (k.set j ⟨l.v, l.xs.set m y⟩)[c].v = (k[c]'(by rw [List.length_set] at hc; exact hc)).v := fun c hc => by
      have h3 := congrArg (fun (x : List Value) => x[c]?) hmap
      simp only [List.getElem?_map] at h3
      rw [List.getElem?_eq_getElem hc, List.getElem?_eq_getElem (by rw [List.length_set] at hc; exact hc)] at h3
      simpa using h3
    rw [key] at h1 h2
    exact hap a b ha hb hab q' h1 h2
/-- two slices of one block: the shorter one is still what it was -/
theorem rown_shrink {w w' : World} (hN0 : 0 < N) {base n m c d g : Nat} {xs ys : List Value} (h : w.ownsRow base E N (.slice (some ⟨g, 0, none⟩) n c) n xs) (h1 : w.ownsRow base E N (.slice (some ⟨g, 0, none⟩) m d) m (xs ++ ys)) (h2 : w'.ownsRow base E N (.slice (some ⟨g, 0, none⟩) m d) m (xs ++ ys)) :
    w'.ownsRow base E N (.slice (some ⟨g, 0, none⟩) n c) n xs := by
  rcases h.2 with ⟨h5, _⟩ | ⟨g0, c0, cur, h5, hb, hg, hnc, hcm, hcs, htk⟩
  · cases h5
  · injection h5 with h6 h7 h8
    injection h6 with h6
    injection h6 with h6
    subst h6 h8
    rcases h1.2 with ⟨h9, _⟩ | ⟨g1, d1, cur1, h9, _, hg1, hnd, _, hcs1, _⟩
    · cases h9
    · injection h9 with h10 h11 h12
      injection h10 with h10
      injection h10 with h10
      subst h10 h12
      rw [hg] at hg1
      injection hg1 with hg1
      injection hg1 with hg1
      subst hg1
      have hcd : c = d := Nat.eq_of_mul_eq_mul_right hN0 (hcs.symm.trans hcs1)
      subst hcd
      rcases h2.2 with ⟨h9, _⟩ | ⟨g2, d2, cur2, h9, hb2, hg2, hnd2, hcm2, hcs2, htk2⟩
      · cases h9
      · injection h9 with h10 h11 h12
        injection h10 with h10
        injection h10 with h10
        subst h10 h12
        have hnm : n * N ≤ m * N := by
          have a1 := h1.1
          have a2 := h.1
          rw [List.length_append] at a1
          omega
        refine ⟨h.1, Or.inr ⟨g, c, cur2, rfl, hb2, hg2, hnc, hcm, hcs2, ?_⟩⟩
        have h13 : (cur2.toList.take (m * N)).take (n * N) = xs := by
          rw [htk2, ← h.1, List.take_left']
          rfl
        rwa [List.take_take, Nat.min_eq_left hnm] at h13
/-- a list that grows, beside the others -/
structure Gw (E SL : TypeId) (N : Nat) (f : α → List Value) (w : World) (LV : Value) (k gs : List (Bl α)) (rs j : Nat) (l : Bl α) (lv : Value) (zs : List α) : Prop where
  kd : Kd E SL N f w LV k
  gl : ∀ g, g ∈ gs → w.ownsRow 0 E N g.v g.xs.length (rowF f g.xs)
  gb : ∀ g, g ∈ gs → ∀ q, g.v.ownBlock = some q → q < rs ∧ l.v.ownBlock ≠ some q
  jl : k[j]? = some l
  kb : ∀ u, u ∈ k → ∀ q, u.v.ownBlock = some q → q < rs
  rz : rs ≤ w.heap.size
  lo : w.ownsRow 0 E N lv (l.xs ++ zs).length (rowF f (l.xs ++ zs))
  lb : lv.ownBlock = l.v.ownBlock ∨ (∀ q, lv.ownBlock = some q → rs ≤ q)
theorem Gw.fr0 {w w' : World} {LV : Value} {k gs : List (Bl α)} {rs j : Nat} {l : Bl α} {lv : Value} {zs : List α} (h : Gw E SL N f w LV k gs rs j l lv zs) (hF : Fr [] w w') : Gw E SL N f w' LV k gs rs j l lv zs :=
  ⟨h.kd.fr0 hF, fun g hg => rown_frS (h.gl g hg) hF (by simp), h.gb, h.jl, h.kb, Nat.le_trans h.rz hF.size, rown_frS h.lo hF (by simp), h.lb⟩
theorem Gw.step (hE : E ≠ SL) (hN0 : 0 < N) {w w' : World} {LV : Value} {k gs : List (Bl α)} {rs j : Nat} {l : Bl α} {lv v' : Value} {zs news : List α} (h : Gw E SL N f w LV k gs rs j l lv zs)
    (ho : w'.ownsRow 0 E N v' (l.xs ++ zs ++ news).length (rowF f (l.xs ++ zs ++ news))) (hg : w.grownBy w' lv.ownBlock) (hb : v'.ownBlock = lv.ownBlock ∨ v'.ownBlock = some w.heap.size) (hk : w'.ownsRow 0 E N lv (l.xs ++ zs).length (rowF f (l.xs ++ zs))) :
    Gw E SL N f w' LV k gs rs j l v' (zs ++ news) := by
  have hF := Fr.of_row hg
  have hjl := (List.getElem?_eq_some_iff.1 h.jl).1
  have offE : ∀ q, q ∈ lv.ownBlock.toList → ∃ cur, Blk w q cur E := fun q hq => rown_blk h.lo q (by simpa using hq)
  have hls : ∀ u, u ∈ k → w'.ownsRow 0 E N u.v u.xs.length (rowF f u.xs) := fun u hu => by
    by_cases hne : ∃ q, u.v.ownBlock = some q ∧ lv.ownBlock = some q
    · obtain ⟨q, hq1, hq2⟩ := hne
      -- the same block: it is list j
      have hlb : lv.ownBlock = l.v.ownBlock := by
        rcases h.lb with h1 | h1
        · exact h1
        · exact absurd (h.kb u hu q hq1) (Nat.not_lt.2 (h1 q hq2))
      have hul : u = l := by
        obtain ⟨i, hi⟩ := List.mem_iff_getElem?.1 hu
        obtain ⟨hil, rfl⟩ := List.getElem?_eq_some_iff.1 hi
        obtain ⟨_, hl2⟩ := List.getElem?_eq_some_iff.1 h.jl
        have hap := List.pairwise_iff_getElem.1 h.kd.ap
        have hlq : (k[j]'hjl).v.ownBlock = some q := by rw [hl2, ← hlb, hq2]
        rcases Nat.lt_trichotomy i j with h1 | h1 | h1
        · exact absurd hlq (hap i j hil hjl h1 q hq1)
        · subst h1; exact hl2
        · exact absurd hq1 (hap j i hjl hil h1 q hlq)
      subst hul
      have a1 := h.kd.ls u hu
      obtain ⟨A, c, e1⟩ := rown_slice a1
      obtain ⟨A2, d, e2⟩ := rown_slice h.lo
      rw [e1] at hq1
      rw [e2] at hq2
      have hA : A = some ⟨q, 0, none⟩ := by
        rcases a1.2 with ⟨h5, _⟩ | ⟨g, cap, cur, h5, _⟩
        · rw [e1] at h5; injection h5 with h5; rw [h5] at hq1; cases hq1
        · rw [e1] at h5; injection h5 with h5; rw [h5] at hq1 ⊢; injection hq1 with hq1; rw [← hq1]
      have hA2 : A2 = some ⟨q, 0, none⟩ := by
        rcases h.lo.2 with ⟨h5, _⟩ | ⟨g, cap, cur, h5, _⟩
        · rw [e2] at h5; injection h5 with h5; rw [h5] at hq2; cases hq2
        · rw [e2] at h5; injection h5 with h5; rw [h5] at hq2 ⊢; injection hq2 with hq2; rw [← hq2]
      have b1 := h.lo
      have b2 := hk
      rw [rowF_append] at b1 b2
      rw [e2, hA2] at b1 b2
      rw [e1, hA] at a1 ⊢
      exact rown_shrink hN0 a1 b1 b2
    · exact rown_frS (h.kd.ls u hu) hF fun q hq hqs => hne ⟨q, hq, by simpa using hqs⟩
  refine ⟨⟨rown_frS h.kd.row hF fun q hq hqs => ?_, hls, h.kd.sm, h.kd.ap⟩, fun g hgm => rown_frS (h.gl g hgm) hF fun q hq hqs => ?_, h.gb, h.jl, h.kb, Nat.le_trans h.rz hg.size, by rw [← List.append_assoc]; exact ho, ?_⟩
  · obtain ⟨cur, hc⟩ := offE q hqs
    obtain ⟨cur', hc'⟩ := rown_blk h.kd.row q hq
    exact hc.neT hc' hE rfl
  · have h1 := h.gb g hgm q hq
    have h2 : lv.ownBlock = some q := by simpa using hqs
    rcases h.lb with h3 | h3
    · exact h1.2 (h3 ▸ h2)
    · exact absurd h1.1 (Nat.not_lt.2 (h3 q h2))
  · rcases hb with h1 | h1
    · rw [h1]; exact h.lb
    · right
      intro q hq
      rw [h1] at hq
      cases hq
      exact h.rz
end
end Go.Proofs.Ytcdencpkgfehlaa
