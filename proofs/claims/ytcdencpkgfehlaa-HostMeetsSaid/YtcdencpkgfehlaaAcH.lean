/- ac: the sort of sessions by their numbers. -/
import Derived.Test.YtcdencpkgfehlaaAcB
import Derived.Test.YtcdencpkgfehlaaSortS
import Derived.Shelf.SlSortCmp.NoneTotal
namespace Go.Proofs.Ytcdencpkgfehlaa
open Go.RowKit Go.Maps Go.Sort Go.Shelf
set_option linter.unusedVariables false
instance : Inhabited Ses := ⟨⟨mc0, 0, [], false, 0⟩⟩
def FrD (w w' : World) : Prop := Fr [] w w' ∧ w.drawn ≤ w'.drawn
theorem FrD.refl (w : World) : FrD w w := ⟨Fr.refl _ _, Nat.le_refl _⟩
theorem FrD.alloc {a b : World} (h : FrD a b) (o : Obj) : FrD a (b.alloc o) := ⟨h.1.alloc o, h.2⟩
theorem FrD.grow {w w' : World} (h : FrD w w') : ∃ q os', w' = Go.Sort.grow (w.drewN q) os' := by
  obtain ⟨hF, hd⟩ := h
  refine ⟨w'.drawn - w.drawn, w'.heap.extract w.heap.size w'.heap.size, ?_⟩
  obtain ⟨hp', tp', dr', os', out'⟩ := w'
  obtain ⟨hp, tp, dr, os, out⟩ := w
  have h1 := hF.os
  have h2 := hF.tape
  have h3 := hF.output
  have h4 := hF.size
  have h5 := hF.block
  simp only at h1 h2 h3 h4 h5 hd
  subst h1 h2 h3
  unfold Go.Sort.grow World.drewN
  simp only [World.mk.injEq, and_true, true_and]
  refine ⟨?_, by omega⟩
  apply Array.ext_getElem?
  intro i
  by_cases hi : i < hp.size
  · rw [Array.getElem?_append_left hi, h5 i hi (by simp)]
  · rw [Array.getElem?_append_right (by omega), Array.getElem?_extract]
    by_cases h6 : i < hp'.size
    · rw [if_pos (by omega)]
      congr 1; omega
    · rw [if_neg (by omega), Array.getElem?_eq_none (by omega)]
def scmp (x y : Ses) : Int := Go.Lib.compareInt x.n y.n
theorem scmp_neg (x y : Ses) : scmp x y < 0 ↔ x.n < y.n := by
  unfold scmp Go.Lib.compareInt
  by_cases h1 : x.n < y.n
  · simp [h1]
  · by_cases h2 : y.n < x.n
    · simp [h1, h2]
    · simp [h1, h2]
theorem swo_s : SWO (ltOf scmp) where
  irrefl x := by unfold ltOf; rw [decide_eq_false_iff_not, scmp_neg]; omega
  trans x y z h1 h2 := by unfold ltOf at *; rw [decide_eq_true_eq, scmp_neg] at *; omega
  ntrans x y z h1 h2 := by unfold ltOf at *; rw [decide_eq_false_iff_not, scmp_neg] at *; omega
theorem seL_len (s : Ses) : (seL s).length = 9 := rfl
theorem isAggS : ∀ w, (isAgg 63).run Try.prog w = .ok true w := Try.isAgg63
theorem sizeOfS : ∀ w, (Go.sizeOf 63).run Try.prog w = .ok 9 w := Try.sizeOf63
theorem seL_one (s : Ses) : ∀ v, v ∈ seL s → v.oneCell' = true := fun v hv => by
  simp [seL, mcL] at hv
  rcases hv with rfl | rfl | rfl | rfl | rfl | rfl | rfl | rfl | rfl <;> rfl
section
variable {w w' : World}
set_option maxRecDepth 100000 in
theorem closureL (x y : Ses) (w : World) : Calls Try.prog 58 #[.agg (seL x).toArray, .agg (seL y).toArray] w fun e w' => e = .returned (.int .i64 (scmp x y)) ∧ FrD w w' := by
  have C1 := Lib.hid fun W => AnyG.cmp_Compare_int laysCmp x.n y.n W
  obtain ⟨u, hu⟩ : ∃ u, scmp x y = u := ⟨_, rfl⟩
  have hu' : Go.Lib.compareInt x.n y.n = u := hu
  rw [hu'] at C1
  rw [hu]
  have C1 : Hid (∀ W, Calls Try.prog 59 #[.int .i64 x.n, .int .i64 y.n] W fun e w' => e = .returned (.int .i64 u) ∧ w' = W) := C1
  obtain ⟨⟨a1, a2, a3, a4, a5, a6⟩, an, au, ad, ap⟩ := x
  obtain ⟨⟨b1, b2, b3, b4, b5, b6⟩, bn, bu, bd, bp⟩ := y
  unfold seL mcL
  simp only [List.cons_append, List.nil_append] at C1 ⊢
  clear hu hu'
  have hK1 := (Blk.new w #[.int .u8 a1, .int .u8 a2, .int .u8 a3, .int .u8 a4, .int .u8 a5, .int .u8 a6, .int .i64 an, .string (B au), .bool ad] 63).alloc (.cells #[.int .u8 b1, .int .u8 b2, .int .u8 b3, .int .u8 b4, .int .u8 b5, .int .u8 b6, .int .i64 bn, .string (B bu), .bool bd] 63 (0, 0))
  have hF := ((FrD.refl w).alloc (.cells #[.int .u8 a1, .int .u8 a2, .int .u8 a3, .int .u8 a4, .int .u8 a5, .int .u8 a6, .int .i64 an, .string (B au), .bool ad] 63 (0, 0))).alloc (.cells #[.int .u8 b1, .int .u8 b2, .int .u8 b3, .int .u8 b4, .int .u8 b5, .int .u8 b6, .int .i64 bn, .string (B bu), .bool bd] 63 (0, 0))
  go_enter Try.func58, Try.ntmps58
  go_wp2_with fail
  refine (C1.out _).mono ?_
  rintro e w1 ⟨rfl, rfl⟩
  go_wp2_with fail
  go_ret
  exact ⟨rfl, hF⟩
theorem mapBlock_other (w : World) (blk : Nat) (f : Array Value → Array Value) (k : Nat) (h : k ≠ blk) : (mapBlock w blk f).heap[k]? = w.heap[k]? := by
  unfold mapBlock
  simp only
  rw [Array.getElem?_modify, if_neg (fun e => h e.symm)]
theorem sortWorld_fr {α : Type} [Inhabited α] (enc : α → List Value) (k : Nat) (w : World) (blk off q : Nat) (d : Array α) (os : Array Obj) : Fr [blk] w (sortWorldK enc k w blk off q d os) := by
  unfold sortWorldK grow putRowK
  refine ⟨rfl, rfl, rfl, ?_, fun i hi hn => ?_⟩
  · simp [Go.Sort.ahead]
  · have hs : i < (putRow id (Go.Sort.ahead w q) blk off (flatK enc k d)).heap.size := by simpa [Go.Sort.ahead] using hi
    simp only
    rw [Array.getElem?_append_left hs]
    unfold putRow
    rw [mapBlock_other _ _ _ _ (fun e => hn (by rw [e]; simp))]
    rfl
/-- the sorted row's block, as wide as it was -/
theorem sortWorld_blk {α : Type} [Inhabited α] (enc : α → List Value) (k : Nat) (w : World) (blk off q : Nat) (d : Array α) (os : Array Obj) (cur : Array Value) (T : Nat) (h : Blk w blk cur T) : ∃ cur', Blk (sortWorldK enc k w blk off q d os) blk cur' T ∧ cur'.size = cur.size := by
  have hl := h.lt
  refine ⟨putCells id off (flatK enc k d) cur, ?_, by unfold putCells; simp⟩
  unfold Blk sortWorldK grow putRowK
  have hs : blk < (putRow id (Go.Sort.ahead w q) blk off (flatK enc k d)).heap.size := by simpa [Go.Sort.ahead] using hl
  simp only
  rw [Array.getElem?_append_left hs]
  unfold putRow mapBlock
  simp only
  rw [Array.getElem?_modify, if_pos rfl]
  have : (Go.Sort.ahead w q).heap[blk]? = some (.cells cur T (0, 0)) := h
  rw [this]
  rfl
theorem frD_grow (W : World) (os : Array Obj) : Fr [] W (grow W os) :=
  ⟨rfl, rfl, rfl, by unfold grow; simp, fun i hi _ => by unfold grow; simp only; rw [Array.getElem?_append_left hi]⟩
theorem cmp_layS (blk off size : Nat) (w : World) : CmpLays Try.prog 58 #[] seL 9 scmp blk off size w := by
  intro q os dk hdk x y
  exact (closureL x y _).mono fun e w' ⟨he, hD⟩ => ⟨he, hD.grow⟩
/-- a row of sessions at block q, none of its cells frozen -/
def SRow (w : World) (q : Nat) (ks : List Ses) : Prop := ∀ (i : Nat) (k : Ses), ks[i]? = some k → ∀ (c : Nat) (v : Value), (seL k)[c]? = some v → w.cell? ⟨q, i * 9 + c, none⟩ = some v ∧ w.frozen? ⟨q, i * 9 + c, none⟩ = false
theorem holds_of_row (q : Nat) (d : List Ses) (h : SRow w q d) : HoldsK seL 9 w q 0 d.toArray := by
  intro j hj
  rw [size_flatK] at hj
  rw [get_flatK _ _ _ _ hj, Nat.zero_add]
  have hi : j / 9 < d.length := by simp at hj; omega
  have hk : d[j / 9]? = some (d[j / 9]) := List.getElem?_eq_getElem hi
  have hc : j % 9 < (seL (d[j / 9])).length := Nat.mod_lt _ (by decide)
  have hv : (seL (d[j / 9]))[j % 9]? = some ((seL (d[j / 9]))[j % 9]!) := by rw [List.getElem?_eq_getElem hc, getElem!_pos (seL (d[j / 9])) (j % 9) hc]
  have := h (j / 9) _ hk (j % 9) _ hv
  rw [show j / 9 * 9 + j % 9 = j by omega] at this
  have e : (d.toArray)[j / 9]! = d[j / 9] := by
    rw [getElem!_pos (d.toArray) (j / 9) (by simpa using hi)]; simp
  rw [e]
  exact this
theorem row_of_holds (q : Nat) (d : Array Ses) (h : HoldsK seL 9 w q 0 d) : SRow w q d.toList := by
  intro i x hi c v hc
  have hil : i < d.size := by have := (List.getElem?_eq_some_iff.1 hi).1; simpa using this
  have hc2 : c < 9 := by have := (List.getElem?_eq_some_iff.1 hc).1; rwa [seL_len] at this
  have := h.cell (i := i) (c := c) hil hc2
  rw [Nat.zero_add] at this
  have e : d[i]! = x := by
    rw [getElem!_pos d i hil]
    have := (List.getElem?_eq_some_iff.1 hi).2
    simpa using this
  rw [e] at this
  have ev : (seL x)[c]! = v := by
    rw [List.getElem!_eq_getElem?_getD, hc]; rfl
  rw [ev] at this
  exact this
theorem sortS_any (q cap : Nat) (ks : List Ses) (hr : SRow w q ks) (hql : q < w.heap.size) (hl : ks.length ≤ 1000000) :
    Calls Try.prog 57 #[.slice (some ⟨q, 0, none⟩) ks.length cap, .func (.func 58) #[] #[]] w fun e w' =>
      e = .returned (.tuple #[]) ∧ ∃ ks', ks'.Perm ks ∧ (ks'.Pairwise fun a b => a.n ≤ b.n) ∧ SRow w' q ks' ∧ Fr [q] w w' ∧ ∀ cur T', Blk w q cur T' → ∃ cur', Blk w' q cur' T' ∧ cur'.size = cur.size := by
  have hlen : ks.toArray.size = ks.length := by simp
  have eg : ∀ args w, (callFunc 58 args).run Try.prog w = .ok (.enter 58 args) w := enters_of Try.func58 (by kernel_rfl) rfl
  have hH := holds_of_row q ks hr
  have hcon := AnyQ.slices_SortFunc laysSort 9 isAggS sizeOfS seL (fun _ => rfl) (fun x v hv => seL_one x v hv) scmp swo_s 58 #[] q 0 cap ks.toArray w eg (cmp_layS q 0 _ w) hH hql (by rw [hlen]; omega)
  rw [hlen] at hcon
  refine Calls.mono (show Calls Try.prog 57 _ _ _ from hcon) ?_
  rintro e w' ⟨he, d', q', os, hp, hs, rfl⟩
  refine ⟨he, d'.toList, ?_, ?_, ?_, sortWorld_fr _ _ _ _ _ _ _ _, fun cur T' hb => sortWorld_blk _ _ _ _ _ _ _ _ cur T' hb⟩
  · have hsz := hp.1
    have := hp.2.2
    have e1 : (d'.extract 0 ks.length).toList = d'.toList := by rw [show ks.length = d'.size by omega]; simp
    have e2 : (ks.toArray.extract 0 ks.length).toList = ks := by rw [← hlen]; simp
    rw [e1, e2] at this
    exact this
  · rw [List.pairwise_iff_getElem]
    intro i j hi hj hij
    have hsz := hp.1
    have hi' : i < d'.size := by simpa using hi
    have hj' : j < d'.size := by simpa using hj
    have := hs i j (Nat.zero_le _) hij (by omega)
    unfold ltOf at this
    rw [decide_eq_false_iff_not, getElem!_pos d' j hj', getElem!_pos d' i hi', scmp_neg] at this
    simp only [Array.getElem_toList]
    omega
  · exact row_of_holds q d' (holdsK_sortWorldK_c seL 9 w q 0 ks.toArray d' q' os hH hql (by rw [hp.1]))
theorem sortS_none (p : Option Addr) (cap : Nat) (fv : Value) : Calls Try.prog 57 #[.slice p 0 cap, fv] w fun e w' => e = .returned (.tuple #[]) ∧ w' = w :=
  AnyF.slices_SortFunc_none laysSort p cap fv w
end
end Go.Proofs.Ytcdencpkgfehlaa
