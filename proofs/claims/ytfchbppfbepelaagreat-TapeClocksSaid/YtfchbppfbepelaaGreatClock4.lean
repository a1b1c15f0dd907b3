/- A clock: the sort of keys by their timers, as a contract on a row of the call's own. -/
import Derived.Test.YtfchbppfbepelaaGreatClock3
import Derived.Shelf.SlSortCmp.NoneTotal
namespace Go.Proofs.YtfchbppfbepelaaGreat
open Go.RowKit Go.Maps Go.Sort Go.Shelf
set_option linter.unusedVariables false
abbrev KyS := {k : Ky // KyOk k}
instance : Inhabited KyS := ⟨⟨(0, 0), by unfold KyOk In64; decide⟩⟩
def kyL (k : Ky) : List Value := [.int .i64 k.1, .int .i64 k.2]
def encK (k : KyS) : List Value := kyL k.1
theorem tcmp_neg (a b : Tm) : tcmp a b < 0 ↔ a.1 < b.1 ∨ (a.1 = b.1 ∧ a.2 < b.2) := by
  unfold tcmp Go.Lib.compareInt
  by_cases h1 : a.1 < b.1
  · simp [h1]
  · by_cases h2 : b.1 < a.1
    · simp [h1, h2]; omega
    · have h3 : a.1 = b.1 := by omega
      simp [h3]
      by_cases h4 : a.2 < b.2
      · simp [h4]
      · by_cases h5 : b.2 < a.2 <;> simp [h4, h5]
theorem swo_k (l : Tms) : SWO (ltOf fun x y : KyS => kcmp l x.1 y.1) where
  irrefl x := by unfold ltOf kcmp; rw [decide_eq_false_iff_not, tcmp_neg]; omega
  trans x y z h1 h2 := by unfold ltOf kcmp at *; rw [decide_eq_true_eq, tcmp_neg] at *; omega
  ntrans x y z h1 h2 := by unfold ltOf kcmp at *; rw [decide_eq_false_iff_not, tcmp_neg] at *; omega
section
variable {w w' : World} {g : Nat} {m : Option Nat} {n o : Int} {l : Tms}
theorem mapBlock_other (w : World) (blk : Nat) (f : Array Value → Array Value) (k : Nat) (h : k ≠ blk) : (mapBlock w blk f).heap[k]? = w.heap[k]? := by
  unfold mapBlock
  simp only
  rw [Array.getElem?_modify, if_neg (fun e => h e.symm)]
theorem sortWorld_fr {α : Type} [Inhabited α] (enc : α → List Value) (k : Nat) (w : World) (blk off q : Nat) (d : Array α) (os : Array Obj) : Fr [blk] w (sortWorldK enc k w blk off q d os) := by
  unfold sortWorldK grow putRowK
  refine ⟨rfl, rfl, rfl, ?_, fun i hi hn => ?_⟩
  · simp [Go.Sort.ahead]
  · have hs : i < (putRow id (Go.Sort.ahead w q) blk off (flatK enc k d)).heap.size := by simpa [Go.Sort.ahead] using hi
    simp only
    rw [Array.getElem?_append_left hs]
    unfold putRow
    rw [mapBlock_other _ _ _ _ (fun e => hn (by rw [e]; simp))]
    rfl
/-- the sorted row's block, as wide as it was -/
theorem sortWorld_blk {α : Type} [Inhabited α] (enc : α → List Value) (k : Nat) (w : World) (blk off q : Nat) (d : Array α) (os : Array Obj) (cur : Array Value) (T : Nat) (h : Blk w blk cur T) : ∃ cur', Blk (sortWorldK enc k w blk off q d os) blk cur' T ∧ cur'.size = cur.size := by
  have hl := h.lt
  refine ⟨putCells id off (flatK enc k d) cur, ?_, by unfold putCells; simp⟩
  unfold Blk sortWorldK grow putRowK
  have hs : blk < (putRow id (Go.Sort.ahead w q) blk off (flatK enc k d)).heap.size := by simpa [Go.Sort.ahead] using hl
  simp only
  rw [Array.getElem?_append_left hs]
  unfold putRow mapBlock
  simp only
  rw [Array.getElem?_modify, if_pos rfl]
  have : (Go.Sort.ahead w q).heap[blk]? = some (.cells cur T (0, 0)) := h
  rw [this]
  rfl
theorem frD_grow (W : World) (os : Array Obj) : Fr [] W (grow W os) :=
  ⟨rfl, rfl, rfl, by unfold grow; simp, fun i hi _ => by unfold grow; simp only; rw [Array.getElem?_append_left hi]⟩
/-- the closure, in every world that the sort passes through -/
theorem cmp_lays (qc T blk off size : Nat) (h : Clk w g m n o l) (hq : Blk w qc #[.pointer (some ⟨g, 0, none⟩)] T) (h1 : blk ≠ g) (h2 : blk ≠ qc) (h3 : ∀ b, m = some b → blk ≠ b) :
    CmpLays Tryz.prog 214 #[.pointer (some ⟨qc, 0, none⟩)] encK 2 (fun x y : KyS => kcmp l x.1 y.1) blk off size w := by
  intro q os dk hdk x y
  have hF := sortWorld_fr encK 2 w blk off q dk os
  obtain ⟨W, hW⟩ : ∃ W, sortWorldK encK 2 w blk off q dk os = W := ⟨_, rfl⟩
  rw [hW] at hF ⊢
  have hC : Clk W g m n o l := h.fr hF (by simp; exact fun e => h1 e.symm) (fun b hb => by simp; exact fun e => h3 b hb e.symm)
  have hQ : Blk W qc #[.pointer (some ⟨g, 0, none⟩)] T := hF.blk hq (by simp; exact fun e => h2 e.symm)
  exact (closure_any x.1 y.1 qc T x.2 y.2 hC hQ).mono fun e w' ⟨he, hD⟩ => ⟨he, hD.grow⟩
def flatKy (ks : List Ky) : List Value := ks.flatMap kyL
theorem kyL_len (k : Ky) : (kyL k).length = 2 := rfl
theorem flatKy_len (ks : List Ky) : (flatKy ks).length = ks.length * 2 := by
  unfold flatKy
  induction ks with
  | nil => rfl
  | cons k r ih => rw [List.flatMap_cons, List.length_append, ih, kyL_len, List.length_cons]; omega
theorem flatKy_get (ks : List Ky) (i : Nat) (k : Ky) (h : ks[i]? = some k) (c : Nat) (hc : c < 2) : (flatKy ks)[i * 2 + c]? = (kyL k)[c]? := by
  induction ks generalizing i with
  | nil => simp at h
  | cons u r ih =>
    unfold flatKy at *
    rw [List.flatMap_cons]
    cases i with
    | zero =>
      simp only [List.getElem?_cons_zero, Option.some.injEq] at h
      subst h
      rw [Nat.zero_mul, Nat.zero_add, List.getElem?_append_left (by rw [kyL_len]; exact hc)]
    | succ i =>
      simp only [List.getElem?_cons_succ] at h
      rw [List.getElem?_append_right (by rw [kyL_len]; omega), kyL_len, show (i + 1) * 2 + c - 2 = i * 2 + c by omega]
      exact ih i h
/-- a row of keys at block q, none of its cells frozen -/
def KRow (w : World) (q : Nat) (ks : List Ky) : Prop := ∀ (i : Nat) (k : Ky), ks[i]? = some k → ∀ (c : Nat) (v : Value), (kyL k)[c]? = some v → w.cell? ⟨q, i * 2 + c, none⟩ = some v ∧ w.frozen? ⟨q, i * 2 + c, none⟩ = false
theorem KRow.fr {q : Nat} {ks : List Ky} {S : List Nat} (h : KRow w q ks) (hF : Fr S w w') (hq : q < w.heap.size) (hn : q ∉ S) : KRow w' q ks := fun i k hi c v hc => by
  obtain ⟨h1, h2⟩ := h i k hi c v hc
  have hb := hF.block q hq hn
  refine ⟨by rw [World.cell?_of_block (w := w) hb]; exact h1, ?_⟩
  unfold World.frozen? at h2 ⊢
  rw [hb]; exact h2
def unS (d : List KyS) : List Ky := d.map (·.1)
theorem holds_of_row (q : Nat) (ks : List Ky) (d : List KyS) (hd : unS d = ks) (h : KRow w q ks) : HoldsK encK 2 w q 0 d.toArray := by
  intro j hj
  rw [size_flatK] at hj
  rw [get_flatK _ _ _ _ hj, Nat.zero_add]
  have hi : j / 2 < d.length := by simp at hj; omega
  have hk : ks[j / 2]? = some (d[j / 2]).1 := by rw [← hd]; unfold unS; rw [List.getElem?_map, List.getElem?_eq_getElem hi]; rfl
  have hc : j % 2 < 2 := Nat.mod_lt _ (by decide)
  have hv : (kyL (d[j / 2]).1)[j % 2]? = some ((kyL (d[j / 2]).1)[j % 2]!) := by
    rcases (show j % 2 = 0 ∨ j % 2 = 1 by omega) with h | h <;> rw [h] <;> rfl
  have := h (j / 2) _ hk (j % 2) _ hv
  rw [show j / 2 * 2 + j % 2 = j by omega] at this
  have e : (d.toArray)[j / 2]! = d[j / 2] := by
    rw [getElem!_pos (d.toArray) (j / 2) (by simpa using hi)]; simp
  rw [e]
  exact this
theorem row_of_holds (q : Nat) (d : Array KyS) (h : HoldsK encK 2 w q 0 d) : KRow w q (unS d.toList) := by
  intro i k hi c v hc
  unfold unS at hi
  rw [List.getElem?_map] at hi
  cases hd : d.toList[i]? with
  | none => rw [hd] at hi; cases hi
  | some x =>
    rw [hd] at hi
    simp at hi
    subst hi
    have hil : i < d.size := by have := (List.getElem?_eq_some_iff.1 hd).1; simpa using this
    have hc2 : c < 2 := by have := (List.getElem?_eq_some_iff.1 hc).1; rwa [kyL_len] at this
    have := h.cell (i := i) (c := c) hil hc2
    rw [Nat.zero_add] at this
    have e : d[i]! = x := by
      rw [getElem!_pos d i hil]
      have := (List.getElem?_eq_some_iff.1 hd).2
      simpa using this
    rw [e] at this
    have ev : (encK x)[c]! = v := by
      unfold encK
      rw [List.getElem!_eq_getElem?_getD, hc]; rfl
    rw [ev] at this
    exact this
/-- the keys, sorted -/
def Sorted_ (l : Tms) (ks : List Ky) : Prop := ks.Pairwise fun a b => ¬ kcmp l b a < 0
theorem isAggK : ∀ w, (isAgg 141).run Tryz.prog w = .ok true w := Tryz.isAgg141
theorem sizeOfK : ∀ w, (Go.sizeOf 141).run Tryz.prog w = .ok 2 w := Tryz.sizeOf141
theorem sort_any (q qc T cap : Nat) (ks : List Ky) (h : Clk w g m n o l) (hq : Blk w qc #[.pointer (some ⟨g, 0, none⟩)] T) (hk : ∀ k, k ∈ ks → KyOk k) (hr : KRow w q ks) (hql : q < w.heap.size) (h1 : q ≠ g) (h2 : q ≠ qc) (h3 : ∀ b, m = some b → q ≠ b) (hl : ks.length ≤ 1000000) :
    Calls Tryz.prog 213 #[.slice (some ⟨q, 0, none⟩) ks.length cap, .func (.func 214) #[] #[.pointer (some ⟨qc, 0, none⟩)]] w fun e w' =>
      e = .returned (.tuple #[]) ∧ ∃ ks', ks'.Perm ks ∧ Sorted_ l ks' ∧ KRow w' q ks' ∧ Fr [q] w w' ∧ ∀ cur T', Blk w q cur T' → ∃ cur', Blk w' q cur' T' ∧ cur'.size = cur.size := by
  obtain ⟨d, hd⟩ : ∃ d : List KyS, unS d = ks := by
    clear hr hl
    induction ks with
    | nil => exact ⟨[], rfl⟩
    | cons k r ih =>
      obtain ⟨d, hd⟩ := ih (fun k hk' => hk k (List.mem_cons_of_mem _ hk'))
      exact ⟨⟨k, hk k List.mem_cons_self⟩ :: d, by unfold unS at *; rw [List.map_cons, hd]⟩
  have hlen : d.toArray.size = ks.length := by rw [← hd]; simp [unS]
  have eg : ∀ args w, (callFunc 214 args).run Tryz.prog w = .ok (.enter 214 args) w := enters_of Tryz.func214 (by kernel_rfl) rfl
  have hH := holds_of_row q ks d hd hr
  have hcon := AnyQ.slices_SortFunc laysSort 2 isAggK sizeOfK encK (fun _ => rfl) (fun x v hv => by simp [encK, kyL] at hv; rcases hv with rfl | rfl <;> rfl) (fun x y : KyS => kcmp l x.1 y.1) (swo_k l) 214 #[.pointer (some ⟨qc, 0, none⟩)] q 0 cap d.toArray w eg (cmp_lays qc T q 0 _ h hq h1 h2 h3) hH hql (by rw [hlen]; omega)
  rw [hlen] at hcon
  refine Calls.mono (show Calls Tryz.prog 213 _ _ _ from hcon) ?_
  rintro e w' ⟨he, d', q', os, hp, hs, rfl⟩
  refine ⟨he, unS d'.toList, ?_, ?_, ?_, sortWorld_fr _ _ _ _ _ _ _ _, fun cur T' hb => sortWorld_blk _ _ _ _ _ _ _ _ cur T' hb⟩
  · have hsz := hp.1
    have := hp.2.2
    rw [← hd]
    unfold unS
    have e1 : (d'.extract 0 ks.length).toList = d'.toList := by rw [show ks.length = d'.size by omega]; simp
    have e2 : (d.toArray.extract 0 ks.length).toList = d := by rw [← hlen]; simp
    rw [e1, e2] at this
    exact this.map _
  · unfold Sorted_ unS
    rw [List.pairwise_map, List.pairwise_iff_getElem]
    intro i j hi hj hij
    have hsz := hp.1
    have hi' : i < d'.size := by simpa using hi
    have hj' : j < d'.size := by simpa using hj
    have := hs i j (Nat.zero_le _) hij (by omega)
    unfold ltOf at this
    rw [decide_eq_false_iff_not, getElem!_pos d' j hj', getElem!_pos d' i hi'] at this
    simpa using this
  · exact row_of_holds q d' (holdsK_sortWorldK_c encK 2 w q 0 d.toArray d' q' os hH hql (by rw [hp.1]))
theorem sort_none (p : Option Addr) (cap : Nat) (fv : Value) : Calls Tryz.prog 213 #[.slice p 0 cap, fv] w fun e w' => e = .returned (.tuple #[]) ∧ w' = w :=
  AnyF.slices_SortFunc_none laysSort p cap fv w
end
end Go.Proofs.YtfchbppfbepelaaGreat
