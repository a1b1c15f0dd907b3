/- Maps whose entries are known as a list of pairs: look, put, delete, count. The keys may be structs. No program is spoken of here. -/
import Derived.Test.YtfchbppfbepelaaGreatBase
import Derived.Maps.Own
import Derived.Maps.OwnOps
import Derived.Maps.OwnSet
import Derived.DeepKeys4
namespace Go.Proofs.YtfchbppfbepelaaGreat
open Go.RowKit Go.Maps
set_option linter.unusedVariables false

/-- how a type of keys is told -/
structure KeyEnc (P : Program) (k : TypeId) (κ : Type) where
  law : Keyed P k
  ek : κ → Value
  V : κ → Prop
  ok : ∀ x, V x → ∃ kl, keyOf P k (ek x) = some kl
  inj : ∀ x y, ek x = ek y → x = y
section
variable {P : Program} {k e t : TypeId} {κ ν : Type} [DecidableEq κ] (E : KeyEnc P k κ) (ev : ν → Value)

def MapIs (w : World) (b : Nat) (l : List (κ × ν)) : Prop :=
  ∃ es clock, w.heap[b]? = some (.map es clock) ∧ es.size ≤ maxLen ∧ MapKept.Stamped es clock ∧ es.toList.map (fun x => (x.key, x.val)) = l.map (fun p => (E.ek p.1, ev p.2)) ∧ ∀ p, p ∈ l → E.V p.1

def look (l : List (κ × ν)) (x : κ) : Option ν := (l.find? (fun p => decide (p.1 = x))).map (·.2)
def put (l : List (κ × ν)) (x : κ) (v : ν) : List (κ × ν) := if (look l x).isSome then l.map (fun p => if p.1 = x then (x, v) else p) else l ++ [(x, v)]
def del (l : List (κ × ν)) (x : κ) : List (κ × ν) := l.filter (fun p => decide (p.1 ≠ x))

variable {E ev}
variable {w : World} {b : Nat} {l : List (κ × ν)}
omit [DecidableEq κ] in
theorem MapIs.lt (h : MapIs E ev w b l) : b < w.heap.size := by
  obtain ⟨es, clock, hb, _⟩ := h
  exact (Array.getElem?_eq_some_iff.1 hb).1
omit [DecidableEq κ] in
theorem MapIs.fr {w' : World} {S : List Nat} (h : MapIs E ev w b l) (hF : Fr S w w') (hn : b ∉ S) : MapIs E ev w' b l := by
  have hlt := h.lt
  obtain ⟨es, clock, hb, h1⟩ := h
  exact ⟨es, clock, by rw [hF.block b hlt hn]; exact hb, h1⟩
omit [DecidableEq κ] in
theorem MapIs.new (w : World) : MapIs E ev (w.alloc (.map #[] 0)) w.heap.size ([] : List (κ × ν)) :=
  ⟨#[], 0, (MapKept.heap_alloc w _).1, by simp, MapKept.stamped_empty 0, rfl, by simp⟩
omit [DecidableEq κ] in
theorem MapIs.size_eq {es : Array MapEntry} (h : es.toList.map (fun x => (x.key, x.val)) = l.map (fun p => (E.ek p.1, ev p.2))) : es.size = l.length := by
  have := congrArg List.length h; simpa using this

omit [DecidableEq κ] in
/-- the entries' keys are keys -/
theorem keys_of {es : Array MapEntry} (h : es.toList.map (fun x => (x.key, x.val)) = l.map (fun p => (E.ek p.1, ev p.2))) (hV : ∀ p, p ∈ l → E.V p.1) :
    ∀ x, x ∈ es.toList → ∃ p, p ∈ l ∧ x.key = E.ek p.1 ∧ x.val = ev p.2 ∧ ∃ kl, keyOf P k x.key = some kl := by
  intro x hx
  have hm : (x.key, x.val) ∈ es.toList.map (fun x => (x.key, x.val)) := List.mem_map.2 ⟨x, hx, rfl⟩
  rw [h] at hm
  obtain ⟨p, hp, he⟩ := List.mem_map.1 hm
  simp only [Prod.mk.injEq] at he
  exact ⟨p, hp, he.1.symm, he.2.symm, by rw [← he.1]; exact E.ok _ (hV p hp)⟩
omit [DecidableEq κ] in
theorem entry_at {es : Array MapEntry} (h : es.toList.map (fun x => (x.key, x.val)) = l.map (fun p => (E.ek p.1, ev p.2))) {j : Nat} {e0 : MapEntry} (hj : es.toList[j]? = some e0) : ∃ p, l[j]? = some p ∧ e0.key = E.ek p.1 ∧ e0.val = ev p.2 := by
  have := congrArg (fun (q : List (Value × Value)) => q[j]?) h
  simp only [List.getElem?_map, hj, Option.map_some] at this
  cases hl : l[j]? with
  | none => rw [hl] at this; simp at this
  | some p =>
    rw [hl] at this
    simp only [Option.map_some, Option.some.injEq, Prod.mk.injEq] at this
    exact ⟨p, rfl, this.1, this.2⟩
omit [DecidableEq κ] in
theorem mem_entry {es : Array MapEntry} (h : es.toList.map (fun x => (x.key, x.val)) = l.map (fun p => (E.ek p.1, ev p.2))) {p : κ × ν} (hp : p ∈ l) : ∃ x, x ∈ es.toList ∧ x.key = E.ek p.1 ∧ x.val = ev p.2 := by
  have hm : (E.ek p.1, ev p.2) ∈ l.map (fun p => (E.ek p.1, ev p.2)) := List.mem_map.2 ⟨p, hp, rfl⟩
  rw [← h] at hm
  obtain ⟨x, hx, he⟩ := List.mem_map.1 hm
  simp only [Prod.mk.injEq] at he
  exact ⟨x, hx, he.1, he.2⟩
omit [DecidableEq κ] in
/-- the keys differ -/
theorem MapIs.nodup (h : MapIs E ev w b l) : (l.map (·.1)).Nodup := by
  obtain ⟨es, clock, _, _, hs, he, _⟩ := h
  have h3 := hs.2.2
  have e1 : es.toList.map (·.key) = (l.map (·.1)).map E.ek := by
    have := congrArg (List.map Prod.fst) he
    simpa [List.map_map, Function.comp_def] using this
  rw [e1] at h3
  exact List.Pairwise.of_map E.ek (fun a b hne he => hne (by rw [he])) h3
theorem look_some {x : κ} {v : ν} (hn : (l.map (·.1)).Nodup) : look l x = some v ↔ (x, v) ∈ l := by
  unfold look
  induction l with
  | nil => simp
  | cons p r ih =>
    simp only [List.map_cons, List.nodup_cons] at hn
    rw [List.find?_cons]
    by_cases hp : p.1 = x
    · simp only [hp, decide_true, Option.map_some, Option.some.injEq, List.mem_cons]
      constructor
      · rintro rfl; left; rw [← hp]
      · rintro (h | h)
        · rw [← h]
        · exact absurd (List.mem_map.2 ⟨(x, v), h, rfl⟩) (by rw [← hp]; exact hn.1)
    · simp only [hp, decide_false, List.mem_cons]
      rw [ih hn.2]
      constructor
      · exact Or.inr
      · rintro (h | h)
        · exact absurd (by rw [← h]) hp
        · exact h
theorem look_none {x : κ} : look l x = none ↔ ∀ p, p ∈ l → p.1 ≠ x := by
  unfold look
  rw [Option.map_eq_none_iff, List.find?_eq_none]
  simp

/-- m[x]; v, ok := m[x] -/
theorem MapIs.lookup (h : MapIs E ev w b l) (ht : P.underlying t = some (.map k e)) {z : Value} (hz : (zeroValue e).run P w = .ok z w) (c : Bool) (x : κ) (hx : E.V x) :
    (Instr.lookup t (.map (some b)) (E.ek x) c).run P w = .ok (match look l x with | none => if c then .tuple #[z, .bool false] else z | some v => if c then .tuple #[ev v, .bool true] else ev v) w := by
  have hnd := h.nodup
  obtain ⟨es, clock, hb, hs, hst, he, hV⟩ := h
  obtain ⟨kl, hk⟩ := E.ok x hx
  have hks : ∀ y, y ∈ es.toList → ∃ kl, keyOf P k y.key = some kl := fun y hy => by obtain ⟨p, _, _, _, h4⟩ := keys_of he hV y hy; exact h4
  rcases E.law.find w hk es.toList hks with ⟨h1, h2⟩ | ⟨j, e0, h1, h2, h3⟩
  · have hn : look l x = none := look_none.2 (fun p hp hpx => by
      obtain ⟨y, hy, hy1, _⟩ := mem_entry he hp
      exact h2 y hy (by rw [hy1, hpx]))
    rw [hn]
    simp [Instr.lookup, run_underlying ht, MapKept.run_getObj_map hb, E.law.check w _ hk, h1, hz, Result.andThen]
  · obtain ⟨p, hp, hp1, hp2⟩ := entry_at he h2
    have hpx : p.1 = x := E.inj _ _ (by rw [← hp1, h3])
    have hs' : look l x = some p.2 := (look_some hnd).2 (by rw [← hpx]; exact List.mem_of_getElem? hp)
    rw [hs']
    simp [Instr.lookup, run_underlying ht, MapKept.run_getObj_map hb, E.law.check w _ hk, h1, Result.andThen, hp2]
/-- m[x] = v -/
theorem MapIs.update (h : MapIs E ev w b l) (ht : P.underlying t = some (.map k e)) (hroom : l.length < maxLen) (x : κ) (hx : E.V x) (v : ν) :
    ∃ w', (Instr.mapUpdate t (.map (some b)) (E.ek x) (ev v)).run P w = .ok () w' ∧ MapIs E ev w' b (put l x v) ∧ Fr [b] w w' := by
  have hnd := h.nodup
  obtain ⟨es, clock, hb, hs, hst, he, hV⟩ := h
  obtain ⟨kl, hk⟩ := E.ok x hx
  have hfr : ∀ o, Fr [b] w (ChangeMaps.setBlock w b o) := fun o => ⟨rfl, rfl, rfl, by simp [ChangeMaps.setBlock], fun i _ hi => ChangeMaps.heap_setBlock_other hb _ (fun e => hi (by rw [e]; simp))⟩
  have hks : ∀ y, y ∈ es.toList → ∃ kl, keyOf P k y.key = some kl := fun y hy => by obtain ⟨p, _, _, _, h4⟩ := keys_of he hV y hy; exact h4
  rcases E.law.find w hk es.toList hks with ⟨h1, h2⟩ | ⟨j, e0, h1, h2, h3⟩
  · have hn : look l x = none := look_none.2 (fun p hp hpx => by
      obtain ⟨y, hy, hy1, _⟩ := mem_entry he hp
      exact h2 y hy (by rw [hy1, hpx]))
    have hsz := MapIs.size_eq he
    refine ⟨_, by simp [Instr.mapUpdate, run_underlying ht, MapKept.run_getObj_map hb, E.law.check w false hk, h1, MapKept.run_setObj_map _ hb, Result.andThen]; rfl, ?_, hfr _⟩
    unfold put
    rw [hn, if_neg (by simp)]
    refine ⟨es.push ⟨E.ek x, ev v, clock⟩, clock + 1, ChangeMaps.heap_setBlock_same hb _, by simp; omega, MapKept.stamped_push hst h2, ?_, ?_⟩
    · simp [he]
    · intro p hp
      rcases List.mem_append.1 hp with hp | hp
      · exact hV p hp
      · simp at hp; subst hp; exact hx
  · obtain ⟨p, hp, hp1, hp2⟩ := entry_at he h2
    have hpx : p.1 = x := E.inj _ _ (by rw [← hp1, h3])
    have hs' : look l x = some p.2 := (look_some hnd).2 (by rw [← hpx]; exact List.mem_of_getElem? hp)
    have hj : es[j]? = some e0 := by simpa using h2
    have hlist : (es.modify j (fun e' => { e' with key := E.ek x, val := ev v })).toList = es.toList.set j { e0 with key := E.ek x, val := ev v } := by rw [Array.toList_modify, ChangeMaps.modify_eq_set _ _ _ _ h2]
    have hkeyf : ∀ e', es[j]? = some e' → ({ e' with key := E.ek x, val := ev v } : MapEntry).key = e'.key := fun e' he' => by rw [hj] at he'; cases he'; exact h3.symm
    refine ⟨_, by simp [Instr.mapUpdate, run_underlying ht, MapKept.run_getObj_map hb, E.law.check w false hk, h1, hj, h3, E.law.stays w hk, MapKept.run_setObj_map _ hb, Result.andThen]; rfl, ?_, hfr _⟩
    unfold put
    rw [hs', if_pos (by simp)]
    refine ⟨es.modify j (fun e' => { e' with key := E.ek x, val := ev v }), clock, ChangeMaps.heap_setBlock_same hb _, by simpa using hs, MapKept.stamped_modify hst _ _ (fun _ _ => rfl) (fun e' _ he' => hkeyf e' he'), ?_, ?_⟩
    · rw [hlist, List.map_set, he]
      apply List.ext_getElem?
      intro i
      rw [List.getElem?_set]
      by_cases hij : j = i
      · subst hij
        have hlt : j < l.length := (List.getElem?_eq_some_iff.1 hp).1
        have hpj : l[j] = p := by have := hp; rw [List.getElem?_eq_getElem hlt] at this; exact Option.some.inj this
        simp [hlt, hpj, hpx]
      · rw [if_neg hij]
        simp only [List.getElem?_map, Option.map_map]
        cases hl : l[i]? with
        | none => rfl
        | some q =>
          have hq : q.1 ≠ x := by
            intro hqx
            have hlt : j < l.length := (List.getElem?_eq_some_iff.1 hp).1
            have h5 : (l.map (·.1))[j]? = (l.map (·.1))[i]? := by simp [hl, hp, hqx, hpx]
            exact hij ((List.getElem?_inj (by simpa using hlt) hnd).1 h5)
          simp [hq]
    · intro q hq
      obtain ⟨r, hr, rfl⟩ := List.mem_map.1 hq
      split
      · exact hx
      · exact hV r hr
omit [DecidableEq κ] in
/-- len(m) -/
theorem MapIs.len (h : MapIs E ev w b l) (ht : P.underlying t = some (.map k e)) (ty : TypeId) : (Builtin.len_ #[t] ty #[.map (some b)]).run P w = .ok (.int .i64 l.length) w := by
  obtain ⟨es, clock, hb, hs, hst, he, hV⟩ := h
  simp [Builtin.len_, run_underlying ht, MapKept.run_getObj_map hb, Result.andThen, MapIs.size_eq he, goInt]
theorem filter_entry {x : κ} {j : Nat} {p : κ × ν} (hnd : (l.map (·.1)).Nodup) (hp : l[j]? = some p) (hpx : p.1 = x) : l.eraseIdx j = del l x := by
  unfold del
  induction l generalizing j with
  | nil => simp at hp
  | cons q r ih =>
    simp only [List.map_cons, List.nodup_cons] at hnd
    cases j with
    | zero =>
      simp only [List.getElem?_cons_zero, Option.some.injEq] at hp
      subst hp
      rw [List.eraseIdx_cons_zero, List.filter_cons, if_neg (by simp [hpx])]
      refine (List.filter_eq_self.2 fun y hy => ?_).symm
      simp only [decide_eq_true_eq]
      intro hyx
      exact hnd.1 (by rw [hpx, ← hyx]; exact List.mem_map.2 ⟨y, hy, rfl⟩)
    | succ i =>
      simp only [List.getElem?_cons_succ] at hp
      have hq : q.1 ≠ x := fun hq => hnd.1 (by rw [hq, ← hpx]; exact List.mem_map.2 ⟨p, List.mem_of_getElem? hp, rfl⟩)
      rw [List.eraseIdx_cons_succ, List.filter_cons, if_pos (by simpa using hq), ih hnd.2 hp]
/-- delete(m, x) -/
theorem MapIs.delete (h : MapIs E ev w b l) (ht : P.underlying t = some (.map k e)) (x : κ) (hx : E.V x) (ty : TypeId) :
    ∃ w', (Builtin.delete_ #[t, k] ty #[.map (some b), E.ek x]).run P w = .ok (.tuple #[]) w' ∧ MapIs E ev w' b (del l x) ∧ Fr [b] w w' := by
  have hnd := h.nodup
  obtain ⟨es, clock, hb, hs, hst, he, hV⟩ := h
  obtain ⟨kl, hk⟩ := E.ok x hx
  have hfr : ∀ o, Fr [b] w (ChangeMaps.setBlock w b o) := fun o => ⟨rfl, rfl, rfl, by simp [ChangeMaps.setBlock], fun i _ hi => ChangeMaps.heap_setBlock_other hb _ (fun e => hi (by rw [e]; simp))⟩
  have hks : ∀ y, y ∈ es.toList → ∃ kl, keyOf P k y.key = some kl := fun y hy => by obtain ⟨p, _, _, _, h4⟩ := keys_of he hV y hy; exact h4
  have hVd : ∀ p, p ∈ del l x → E.V p.1 := fun p hp => hV p (List.mem_filter.1 hp).1
  rcases E.law.find w hk es.toList hks with ⟨h1, h2⟩ | ⟨j, e0, h1, h2, h3⟩
  · have hn : look l x = none := look_none.2 (fun p hp hpx => by
      obtain ⟨y, hy, hy1, _⟩ := mem_entry he hp
      exact h2 y hy (by rw [hy1, hpx]))
    have hd : del l x = l := by
      unfold del
      refine List.filter_eq_self.2 fun y hy => ?_
      simpa using look_none.1 hn y hy
    refine ⟨_, by simp [Builtin.delete_, run_underlying ht, MapKept.run_getObj_map hb, E.law.check w _ hk, h1, MapKept.run_setObj_map _ hb, Result.andThen]; rfl, ?_, hfr _⟩
    rw [hd]
    exact ⟨es, clock, ChangeMaps.heap_setBlock_same hb _, hs, hst, he, hV⟩
  · obtain ⟨p, hp, hp1, hp2⟩ := entry_at he h2
    have hpx : p.1 = x := E.inj _ _ (by rw [← hp1, h3])
    have hjl : j < es.toList.length := (List.getElem?_eq_some_iff.1 h2).1
    have hjs : j < es.size := by simpa using hjl
    have hsub : (es.eraseIdxIfInBounds j).toList = es.toList.eraseIdx j := by
      unfold Array.eraseIdxIfInBounds
      rw [dif_pos hjs]
      simp
    refine ⟨_, by simp [Builtin.delete_, run_underlying ht, MapKept.run_getObj_map hb, E.law.check w _ hk, h1, MapKept.run_setObj_map _ hb, Result.andThen]; rfl, ?_, hfr _⟩
    refine ⟨es.eraseIdxIfInBounds j, clock, ChangeMaps.heap_setBlock_same hb _, Nat.le_trans (MapFrom.size_erase es j) hs, MapKept.stamped_erase hst j, ?_, hVd⟩
    rw [hsub, ChangeMaps.map_eraseIdx, he, ← ChangeMaps.map_eraseIdx, filter_entry hnd hp hpx]
end
section
variable {P : Program} {k e t : TypeId} {κ ν : Type} [DecidableEq κ] {E : KeyEnc P k κ} {ev : ν → Value} {w : World} {b : Nat} {l : List (κ × ν)} {ops : Array Oper} {rest : List Oper} {o : Oper} {a : Act} {Q : Exit → Act → World → Prop}
theorem wpList_look_some (hg : o.guard = none) (m x : Operand) (t : TypeId) (c : Bool) (hop : o.op = Op.lookup t m x c) (ht : P.underlying t = some (.map k e)) {z : Value} (hz : (zeroValue e).run P w = .ok z w)
    (h : MapIs E ev w b l) (hm : a.eval m = .map (some b)) (y : κ) (hy : E.V y) (hx : a.eval x = E.ek y) (v : ν) (hr : look l y = some v)
    (hK : wpList P ops Q rest (a.put o.dst (if c then .tuple #[ev v, .bool true] else ev v)) w) : wpList P ops Q (o :: rest) a w := by
  refine wpList_plain hg fun K' hK' => ?_
  have hrun := h.lookup ht hz c y hy
  rw [hr] at hrun
  unfold Oper.wp
  simp only [execOp, hop, hm, hx, hrun, Result.andThen, Sem.run_bind, Sem.run_pure]
  exact hK' _ _ hK
theorem wpList_look_none (hg : o.guard = none) (m x : Operand) (t : TypeId) (c : Bool) (hop : o.op = Op.lookup t m x c) (ht : P.underlying t = some (.map k e)) {z : Value} (hz : (zeroValue e).run P w = .ok z w)
    (h : MapIs E ev w b l) (hm : a.eval m = .map (some b)) (y : κ) (hy : E.V y) (hx : a.eval x = E.ek y) (hr : look l y = none)
    (hK : wpList P ops Q rest (a.put o.dst (if c then .tuple #[z, .bool false] else z)) w) : wpList P ops Q (o :: rest) a w := by
  refine wpList_plain hg fun K' hK' => ?_
  have hrun := h.lookup ht hz c y hy
  rw [hr] at hrun
  unfold Oper.wp
  simp only [execOp, hop, hm, hx, hrun, Result.andThen, Sem.run_bind, Sem.run_pure]
  exact hK' _ _ hK
theorem wpList_put_is (hg : o.guard = none) (m x y : Operand) (t : TypeId) (hop : o.op = Op.mapUpdate t m x y) (ht : P.underlying t = some (.map k e))
    (h : MapIs E ev w b l) (hroom : l.length < maxLen) (hm : a.eval m = .map (some b)) (z : κ) (hz : E.V z) (hx : a.eval x = E.ek z) (v : ν) (hv : a.eval y = ev v)
    (hK : ∀ w', MapIs E ev w' b (put l z v) → Fr [b] w w' → wpList P ops Q rest (a.put o.dst undef) w') : wpList P ops Q (o :: rest) a w := by
  refine wpList_plain hg fun K' hK' => ?_
  obtain ⟨w', hrun, h1, h2⟩ := h.update ht hroom z hz v
  unfold Oper.wp
  simp [execOp, hop, hm, hx, hv, hrun, Result.andThen]
  exact hK' _ _ (hK w' h1 h2)
theorem wpList_del_is (hg : o.guard = none) (m x : Operand) (t k' : TypeId) (hop : o.op = Op.call { callee := Callee.builtin Builtin.delete, args := #[m, x], argTypes := #[t, k'] }) (hkk : k' = k) (ht : P.underlying t = some (.map k e))
    (h : MapIs E ev w b l) (hm : a.eval m = .map (some b)) (z : κ) (hz : E.V z) (hx : a.eval x = E.ek z)
    (hK : ∀ w', MapIs E ev w' b (del l z) → Fr [b] w w' → wpList P ops Q rest (a.put o.dst (.tuple #[])) w') : wpList P ops Q (o :: rest) a w := by
  subst hkk
  refine wpList_plain hg fun K' hK' => ?_
  obtain ⟨w', hrun, h1, h2⟩ := h.delete ht z hz o.type
  unfold Oper.wp
  simp [execOp, hop, resolve, invoke, builtin, hm, hx, hrun, Result.andThen]
  exact hK' _ _ (hK w' h1 h2)
omit [DecidableEq κ] in
theorem wpList_len_is (hg : o.guard = none) (m : Operand) (t : TypeId) (hop : o.op = Op.call { callee := Callee.builtin Builtin.len, args := #[m], argTypes := #[t] }) (ht : P.underlying t = some (.map k e))
    (h : MapIs E ev w b l) (hm : a.eval m = .map (some b)) (hK : wpList P ops Q rest (a.put o.dst (.int .i64 l.length)) w) : wpList P ops Q (o :: rest) a w := by
  refine wpList_plain hg fun K' hK' => ?_
  unfold Oper.wp
  simp [execOp, hop, resolve, invoke, builtin, hm, h.len ht o.type, Result.andThen]
  exact hK' _ _ hK
/-! plain laws of look, put, del -/
theorem look_put_same (l : List (κ × ν)) (x : κ) (v : ν) : look (put l x v) x = some v := by
  unfold put
  split
  · rename_i h
    obtain ⟨u, hu⟩ := Option.isSome_iff_exists.1 h
    clear h
    unfold look at *
    induction l with
    | nil => simp at hu
    | cons p r ih =>
      by_cases hp : p.1 = x
      · simp [hp]
      · simp only [List.map_cons, List.find?_cons, hp, if_false, decide_false] at hu ⊢
        exact ih hu
  · rename_i h
    have hn : look l x = none := by simpa using h
    unfold look at *
    rw [List.find?_append]
    have : l.find? (fun p => decide (p.1 = x)) = none := by simpa using hn
    rw [this]
    simp
theorem look_put_other (l : List (κ × ν)) (x y : κ) (v : ν) (h : y ≠ x) : look (put l x v) y = look l y := by
  unfold put
  split
  · unfold look
    congr 1
    rename_i h1
    clear h1
    induction l with
    | nil => rfl
    | cons p r ih =>
      simp only [List.map_cons, List.find?_cons]
      by_cases hp : p.1 = x
      · simp only [hp, if_true]
        rw [decide_eq_false (fun e => h e.symm)]
        exact ih
      · simp only [hp, if_false]
        split
        · rfl
        · exact ih
  · unfold look
    rw [List.find?_append]
    have : (List.find? (fun p : κ × ν => decide (p.1 = y)) [(x, v)]) = none := by rw [List.find?_cons, decide_eq_false (fun e : x = y => h e.symm)]; rfl
    rw [this]
    simp
theorem look_del_same (l : List (κ × ν)) (x : κ) : look (del l x) x = none := by
  rw [look_none]
  intro p hp
  have := (List.mem_filter.1 hp).2
  simpa using this
theorem look_del_other (l : List (κ × ν)) (x y : κ) (h : y ≠ x) : look (del l x) y = look l y := by
  unfold look del
  congr 1
  induction l with
  | nil => rfl
  | cons p r ih =>
    rw [List.filter_cons]
    by_cases hp : p.1 = x
    · rw [if_neg (by simp [hp]), ih, List.find?_cons, decide_eq_false (by rw [hp]; exact fun e => h e.symm)]
    · rw [if_pos (by simpa using hp), List.find?_cons, List.find?_cons, ih]
theorem put_length (l : List (κ × ν)) (x : κ) (v : ν) : (put l x v).length = if (look l x).isSome then l.length else l.length + 1 := by
  unfold put
  split <;> simp
end
end Go.Proofs.YtfchbppfbepelaaGreat
