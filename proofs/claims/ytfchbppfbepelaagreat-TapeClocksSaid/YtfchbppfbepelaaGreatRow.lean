/- Whole arrays stored and loaded: the kit's laws on ranges, told of blocks that are known whole. No program is spoken of here. -/
import Derived.Test.YtfchbppfbepelaaGreatBase
import Derived.Deep.MidRow
import Derived.Laws.NewBlocks
namespace Go.Proofs.YtfchbppfbepelaaGreat
open Go.RowKit

theorem Blk.there {w : World} {b : Nat} {cs : Array Value} {T : Nat} (h : Blk w b cs T) (n : Nat) (hn : n ≤ cs.size) : w.there b 0 n := fun j hj => by
  rw [Nat.zero_add]
  exact ⟨by rw [h.c j _ (Array.getElem?_eq_getElem (show j < cs.size by omega))]; rfl, h.fz j⟩
theorem Blk.rangeAt {w : World} {b : Nat} {cs : Array Value} {T : Nat} (h : Blk w b cs T) : w.rangeAt b 0 cs.toList := fun j v hv => by
  rw [Nat.zero_add]
  exact h.c j v (by rw [← Array.getElem?_toList]; exact hv)
theorem Blk.setCells_at {b T : Nat} : ∀ (vs : List Value) (o : Nat) (w : World) (cs : Array Value), Blk w b cs T → o + vs.length = cs.size → Blk (w.setCells b o vs) b (cs.toList.take o ++ vs).toArray T
  | [], o, w, cs, h, hl => by
    have e : (cs.toList.take o ++ []).toArray = cs := by
      rw [List.append_nil, List.take_of_length_le (by rw [Array.length_toList]; simpa using Nat.le_of_eq hl.symm)]
    rw [e]; exact h
  | v :: r, o, w, cs, h, hl => by
    have hs : o < cs.size := by rw [← hl, List.length_cons]; omega
    have := Blk.setCells_at r (o + 1) (w.setCell ⟨b, o, none⟩ v) (cs.setIfInBounds o v) (h.set o v) (by rw [Array.size_setIfInBounds, ← hl, List.length_cons]; omega)
    rw [World.setCells]
    have e : (cs.setIfInBounds o v).toList.take (o + 1) ++ r = cs.toList.take o ++ v :: r := by
      rw [Array.toList_setIfInBounds, List.take_set, List.take_succ_eq_append_getElem (by rw [Array.length_toList]; exact hs), List.set_append_right _ _ (by rw [List.length_take]; omega)]
      simp [Nat.min_eq_left (Nat.le_of_lt hs)]
    rw [e] at this
    exact this
theorem Blk.setCells {w : World} {b : Nat} {cs : Array Value} {T : Nat} (h : Blk w b cs T) (vs : Array Value) (hl : vs.size = cs.size) : Blk (w.setCells b 0 vs.toList) b vs T := by
  have := Blk.setCells_at vs.toList 0 w cs h (by rw [Array.length_toList]; omega)
  simpa using this
theorem setCells_heap (g : Nat) : ∀ (vs : List Value) (o : Nat) (w : World) (k : Nat), k ≠ g → (w.setCells g o vs).heap[k]? = w.heap[k]?
  | [], _, _, _, _ => rfl
  | v :: r, o, w, k, hk => by
    rw [World.setCells, setCells_heap g r (o + 1) _ k hk]
    exact Below.heap_setCell _ _ _ _ hk
theorem setCells_size (g : Nat) : ∀ (vs : List Value) (o : Nat) (w : World), (w.setCells g o vs).heap.size = w.heap.size
  | [], _, _ => rfl
  | v :: r, o, w => by rw [World.setCells, setCells_size g r]; simp [World.setCell]
theorem setCells_os (g : Nat) : ∀ (vs : List Value) (o : Nat) (w : World), (w.setCells g o vs).os = w.os ∧ (w.setCells g o vs).tape = w.tape ∧ (w.setCells g o vs).output = w.output
  | [], _, _ => ⟨rfl, rfl, rfl⟩
  | v :: r, o, w => by rw [World.setCells]; exact setCells_os g r (o + 1) _
theorem Blk.setCells_other {w : World} {b : Nat} {cs : Array Value} {T : Nat} (h : Blk w b cs T) (g o : Nat) (vs : List Value) (hn : b ≠ g) : Blk (w.setCells g o vs) b cs T := by
  unfold Blk at *
  rw [setCells_heap g vs o w b hn]; exact h
theorem Fr.setCells {S : List Nat} {a w : World} (h : Fr S a w) (g o : Nat) (vs : List Value) (hg : a.heap.size ≤ g ∨ g ∈ S) : Fr S a (w.setCells g o vs) :=
  ⟨(setCells_os g vs o w).1.trans h.os, (setCells_os g vs o w).2.1.trans h.tape, (setCells_os g vs o w).2.2.trans h.output, by rw [setCells_size]; exact h.size,
    fun k hk hn => (setCells_heap g vs o w k (fun e => hg.elim (fun hg => by omega) (fun hg => hn (e ▸ hg)))).trans (h.block k hk hn)⟩
section
variable {P : Program}
/-- a whole array is stored into a block of its size -/
theorem wpList_store_blk {ops : Array Oper} {rest : List Oper} {op : Oper} {a : Act} {w : World} {Q : Exit → Act → World → Prop} (hgd : op.guard = none) (ty : TypeId) (x y : Operand) (ho : op.op = .store ty x y)
    (b T : Nat) (cs vs : Array Value) (hB : Blk w b cs T) (hx : a.eval x = .pointer (some ⟨b, 0, none⟩)) (hy : a.eval y = .agg vs) (hl : vs.size = cs.size)
    (hi : (P.info? ty).map (·.size) = some vs.size) (h1 : vs.all (·.oneCell') = true)
    (h : ∀ w', Hid (w' = w.setCells b 0 vs.toList) → Blk w' b vs T → wpList P ops Q rest (a.put op.dst undef) w') : wpList P ops Q (op :: rest) a w :=
  wpList_store_mid hgd ty x y ho b 0 vs hx hy (hB.there _ (by omega)) hi h1 (h _ (Lib.hid rfl) (hB.setCells vs hl))
/-- a whole array is loaded out of a block -/
theorem wpList_load_blk {ops : Array Oper} {rest : List Oper} {op : Oper} {a : Act} {w : World} {Q : Exit → Act → World → Prop} (hgd : op.guard = none) (ty : TypeId) (x : Operand) (ho : op.op = .load ty x)
    (b T : Nat) (cs : Array Value) (d : TypeDesc) (hB : Blk w b cs T) (hx : a.eval x = .pointer (some ⟨b, 0, none⟩)) 
    (hu : P.underlying ty = some d) (hd : d.isRow = true) (hi : (P.info? ty).map (·.size) = some cs.size)
    (h : wpList P ops Q rest (a.put op.dst (.agg cs)) w) : wpList P ops Q (op :: rest) a w :=
  wpList_load_mid hgd ty x ho b 0 hx cs.toList d hB.rangeAt hu hd (by rw [Array.length_toList]; exact hi) (by simpa using h)
theorem setCells_alloc_at (w : World) (T : TypeId) : ∀ (vs : List Value) (o : Nat) (cs : Array Value), o + vs.length = cs.size → (w.alloc (.cells cs T (0, 0))).setCells w.heap.size o vs = w.alloc (.cells (cs.toList.take o ++ vs).toArray T (0, 0))
  | [], o, cs, hl => by
    have e : (cs.toList.take o ++ []).toArray = cs := by
      rw [List.append_nil, List.take_of_length_le (by rw [Array.length_toList]; simpa using Nat.le_of_eq hl.symm)]
    rw [e]; rfl
  | v :: r, o, cs, hl => by
    have hs : o < cs.size := by rw [← hl, List.length_cons]; omega
    have := setCells_alloc_at w T r (o + 1) (cs.setIfInBounds o v) (by rw [Array.size_setIfInBounds, ← hl, List.length_cons]; omega)
    rw [World.setCells, World.setCell_alloc_new cs T o v, this]
    have e : (cs.setIfInBounds o v).toList.take (o + 1) ++ r = cs.toList.take o ++ v :: r := by
      have hs' : o < cs.toList.length := by simpa using hs
      rw [Array.toList_setIfInBounds, List.take_set, List.take_succ_eq_append_getElem hs', List.set_append_right _ _ (by rw [List.length_take]; omega)]
      simp [Nat.min_eq_left (Nat.le_of_lt hs)]
    rw [e]
theorem setCells_alloc (w : World) (T : TypeId) (cs vs : Array Value) (hl : vs.size = cs.size) : (w.alloc (.cells cs T (0, 0))).setCells w.heap.size 0 vs.toList = w.alloc (.cells vs T (0, 0)) := by
  have := setCells_alloc_at w T vs.toList 0 cs (by rw [Array.length_toList]; omega)
  simpa using this
/-- an array's literal: built, its variable made, stored -/
theorem wpList_lit {ops : Array Oper} {rest : List Oper} {o1 o2 o3 : Oper} {a : Act} {w : World} {Q : Exit → Act → World → Prop} (g1 : o1.guard = none) (g2 : o2.guard = none) (g3 : o3.guard = none)
    (T : TypeId) (parts : Array (Nat × Operand)) (x y : Operand) (h1 : o1.op = .build T parts) (h2 : o2.op = .alloc T) (h3 : o3.op = .store T x y)
    (C Z : Array Value) (hr1 : ∀ w, (Instr.build T (parts.map fun (i, x) => (i, a.eval x))).run P w = .ok (.agg C) w)
    (hr2 : ∀ w : World, (Instr.alloc T true (.tuple #[])).run P w = .ok (.pointer (some ⟨w.heap.size, 0, none⟩)) (w.alloc (.cells Z T (0, 0))))
    (hs : C.size = Z.size) (hi : (P.info? T).map (·.size) = some C.size) (hc : C.all (·.oneCell') = true)
    (hx : ((a.put o1.dst (.agg C)).put o2.dst (.pointer (some ⟨w.heap.size, 0, none⟩))).eval x = .pointer (some ⟨w.heap.size, 0, none⟩))
    (hy : ((a.put o1.dst (.agg C)).put o2.dst (.pointer (some ⟨w.heap.size, 0, none⟩))).eval y = .agg C)
    (h : wpList P ops Q rest (((a.put o1.dst (.agg C)).put o2.dst (.pointer (some ⟨w.heap.size, 0, none⟩))).put o3.dst undef) (w.alloc (.cells C T (0, 0)))) : wpList P ops Q (o1 :: o2 :: o3 :: rest) a w := by
  refine wpList_plain g1 fun K1 hK1 => ?_
  unfold Oper.wp execOp
  simp only [h1, Sem.run_bind, hr1, Result.andThen_ok, Sem.run_pure]
  refine hK1 _ _ ?_
  refine wpList_plain g2 fun K2 hK2 => ?_
  unfold Oper.wp execOp
  simp only [h2, Sem.run_bind, hr2, Result.andThen_ok, Sem.run_pure]
  refine hK2 _ _ ?_
  refine wpList_store_mid g3 T x y h3 w.heap.size 0 C hx hy ((Blk.new w Z T).there _ (by omega)) hi hc ?_
  rw [setCells_alloc w T Z C hs]
  exact h
/-- a slice's literal -/
theorem wpList_slit {ops : Array Oper} {rest : List Oper} {o1 : Oper} {a : Act} {w : World} {Q : Exit → Act → World → Prop} (g1 : o1.guard = none)
    (T n : Nat) (parts : Array (Nat × Operand)) (h1 : o1.op = .buildSlice T n parts) (C : Array Value) (E : Nat)
    (hr1 : ∀ w : World, (Instr.buildSlice T n (parts.map fun (i, x) => (i, a.eval x))).run P w = .ok (.slice (some ⟨w.heap.size, 0, none⟩) n n) (w.alloc (.cells C E (0, 0))))
    (h : wpList P ops Q rest (a.put o1.dst (.slice (some ⟨w.heap.size, 0, none⟩) n n)) (w.alloc (.cells C E (0, 0)))) : wpList P ops Q (o1 :: rest) a w := by
  refine wpList_plain g1 fun K1 hK1 => ?_
  unfold Oper.wp execOp
  simp only [h1, Sem.run_bind, hr1, Result.andThen_ok, Sem.run_pure]
  exact hK1 _ _ h
/-- a result that is an array in memory -/
theorem ret_cell1 {fn : Func} {R : Ending → World → Prop} {a : Act} {w : World} (s : Nat) (T : TypeId) (hres : fn.results = #[.cell s T]) (b Tb : Nat) (cs : Array Value) (d : TypeDesc) (hB : Blk w b cs Tb)
    (ha : a.tmps.getD s undef = .pointer (some ⟨b, 0, none⟩)) (hu : P.underlying T = some d) (hd : d.isRow = true) (hi : (P.info? T).map (·.size) = some cs.size)
    (hdef : a.defers = []) (hR : R (.returned (.agg cs)) w) : bodyPost P fn R .ret a w := by
  have hload := run_loadVar_mid (P := P) w b 0 T cs.toList d hB.rangeAt hu hd (by rw [Array.length_toList]; exact hi)
  rw [Array.toArray_toList] at hload
  refine bodyPost_ret (v := .agg cs) ?_ hdef hR
  rw [Array.getD_eq_getD_getElem?] at ha
  simp [results, hres, ha, asAddr, hload]
theorem ret_cell2 {fn : Func} {R : Ending → World → Prop} {a : Act} {w : World} (s t : Nat) (T : TypeId) (hres : fn.results = #[.cell s T, .tmp t]) (b Tb : Nat) (cs : Array Value) (d : TypeDesc) (hB : Blk w b cs Tb)
    (ha : a.tmps.getD s undef = .pointer (some ⟨b, 0, none⟩)) (hu : P.underlying T = some d) (hd : d.isRow = true) (hi : (P.info? T).map (·.size) = some cs.size)
    (hdef : a.defers = []) (hR : R (.returned (.tuple #[.agg cs, a.tmps.getD t undef])) w) : bodyPost P fn R .ret a w := by
  have hload := run_loadVar_mid (P := P) w b 0 T cs.toList d hB.rangeAt hu hd (by rw [Array.length_toList]; exact hi)
  rw [Array.toArray_toList] at hload
  refine bodyPost_ret (v := .tuple #[.agg cs, a.tmps.getD t undef]) ?_ hdef hR
  rw [Array.getD_eq_getD_getElem?] at ha
  simp [results, hres, ha, asAddr, hload]
end
end Go.Proofs.YtfchbppfbepelaaGreat
