/- host's client: its cells, none, enter, State. -/
import Derived.Test.YtcdencpkgfehlaaTagQ
namespace Go.Proofs.Ytcdencpkgfehlaa
open Go.RowKit
set_option linter.unusedVariables false
section
variable {P : Program}
theorem ret_cell3 {fn : Func} {R : Ending → World → Prop} {a : Act} {w : World} (r s t : Nat) (T : TypeId) (hres : fn.results = #[.tmp r, .cell s T, .tmp t]) (b Tb : Nat) (cs : Array Value) (d : TypeDesc) (hB : Blk w b cs Tb)
    (ha : a.tmps.getD s undef = .pointer (some ⟨b, 0, none⟩)) (hu : P.underlying T = some d) (hd : d.isRow = true) (hi : (P.info? T).map (·.size) = some cs.size)
    (hdef : a.defers = []) (hR : R (.returned (.tuple #[a.tmps.getD r undef, .agg cs, a.tmps.getD t undef])) w) : bodyPost P fn R .ret a w := by
  have hload := run_loadVar_mid (P := P) w b 0 T cs.toList d hB.rangeAt hu hd (by rw [Array.length_toList]; exact hi)
  rw [Array.toArray_toList] at hload
  refine bodyPost_ret (v := .tuple #[a.tmps.getD r undef, .agg cs, a.tmps.getD t undef]) ?_ hdef hR
  rw [Array.getD_eq_getD_getElem?] at ha
  simp [results, hres, ha, asAddr, hload]
end
/-- six bytes -/
structure Mc where
  a : Int
  b : Int
  c : Int
  d : Int
  e : Int
  f : Int
def mcL (m : Mc) : List Value := [.int .u8 m.a, .int .u8 m.b, .int .u8 m.c, .int .u8 m.d, .int .u8 m.e, .int .u8 m.f]
/-- what a host holds; its cookie's value apart -/
structure Hs where
  m : Mc
  sv : List UInt8
  un : List UInt8
  rt : Int
  wt : Int
  st : Int
  k : Mc
  ss : Int
  tk : Int
  ag : Int
def hsC (h : Hs) (ck : Value) : Array Value := #[.int .u8 h.m.a, .int .u8 h.m.b, .int .u8 h.m.c, .int .u8 h.m.d, .int .u8 h.m.e, .int .u8 h.m.f, .string (B h.sv), .string (B h.un), .int .i64 h.rt, .int .i64 h.wt, .int .i64 h.st,
  .int .u8 h.k.a, .int .u8 h.k.b, .int .u8 h.k.c, .int .u8 h.k.d, .int .u8 h.k.e, .int .u8 h.k.f, .int .i64 h.ss, ck, .int .i64 h.tk, .int .i64 h.ag]
def mc0 : Mc := ⟨0, 0, 0, 0, 0, 0⟩
section
variable {w : World} {g : Nat} {h : Hs} {ck : Value}
theorem hnone_any (hB : Blk w g (hsC h ck) 92) : Calls Try.prog 36 #[.pointer (some ⟨g, 0, none⟩)] w fun e w' => e = .returned (.bool (h.wt == 0)) ∧ w' = w := by
  have c9 : w.cell? ⟨g, 9, none⟩ = some (.int .i64 h.wt) := hB.c 9 _ rfl
  go_enter Try.func36, Try.ntmps36
  go_wp2
  go_ret
  exact ⟨rfl, rfl⟩
theorem hnone_nil : Calls Try.prog 36 #[.pointer none] w fun e w' => e = .returned (.bool true) ∧ w' = w := by
  go_enter Try.func36, Try.ntmps36
  go_wp2
  go_ret
  exact ⟨rfl, rfl⟩
/-- enter a state that is neither Chosen nor Live -/
def entered (h : Hs) (s : Int) : Hs := { h with st := s, tk := 0, ag := 0, k := mc0, ss := 0 }
set_option maxRecDepth 100000 in
set_option maxHeartbeats 4000000 in
theorem enter_off (s : Int) (h2 : s ≠ 2) (h3 : s ≠ 3) (hB : Blk w g (hsC h ck) 92) : Calls Try.prog 37 #[.pointer (some ⟨g, 0, none⟩), .int .i64 s] w fun e w' => e = .returned (.tuple #[]) ∧ Blk w' g (hsC (entered h s) (.slice none 0 0)) 92 ∧ Fr [g] w w' := by
  have c0 : ∀ i v, (hsC h ck)[i]? = some v → w.cell? ⟨g, i, none⟩ = some v := fun i v hv => hB.c i v hv
  have d10 := c0 10 _ rfl
  have d11 := c0 11 _ rfl
  have d12 := c0 12 _ rfl
  have d13 := c0 13 _ rfl
  have d14 := c0 14 _ rfl
  have d15 := c0 15 _ rfl
  have d16 := c0 16 _ rfl
  have d17 := c0 17 _ rfl
  have d18 := c0 18 _ rfl
  have d19 := c0 19 _ rfl
  have d20 := c0 20 _ rfl
  have f10 := hB.fz 10
  have f11 := hB.fz 11
  have f12 := hB.fz 12
  have f13 := hB.fz 13
  have f14 := hB.fz 14
  have f15 := hB.fz 15
  have f16 := hB.fz 16
  have f17 := hB.fz 17
  have f18 := hB.fz 18
  have f19 := hB.fz 19
  have f20 := hB.fz 20
  have n2 : (s != 2) = true := by simpa using h2
  have n3 : (s != 3) = true := by simpa using h3
  clear c0 h2 h3
  go_enter Try.func37, Try.ntmps37
  go_wp2_with fail
  refine bodyPost_end (results_none rfl _ _ _) rfl ⟨rfl, ?_, ?_⟩
  · have := ((((((((((hB.set 10 (.int .i64 s)).set 19 (.int .i64 0)).set 20 (.int .i64 0)).set 11 (.int .u8 0)).set 12 (.int .u8 0)).set 13 (.int .u8 0)).set 14 (.int .u8 0)).set 15 (.int .u8 0)).set 16 (.int .u8 0)).set 18 (.slice none 0 0)).set 17 (.int .i64 0)
    simpa [hsC, entered, mc0] using this
  · exact (((((((((((Fr.refl [g] w).setCell (p := ⟨g, 10, none⟩) (by simp) (.int .i64 s)).setCell (p := ⟨g, 19, none⟩) (by simp) (.int .i64 0)).setCell (p := ⟨g, 20, none⟩) (by simp) (.int .i64 0)).setCell (p := ⟨g, 11, none⟩) (by simp) (.int .u8 0)).setCell (p := ⟨g, 12, none⟩) (by simp) (.int .u8 0)).setCell (p := ⟨g, 13, none⟩) (by simp) (.int .u8 0)).setCell (p := ⟨g, 14, none⟩) (by simp) (.int .u8 0)).setCell (p := ⟨g, 15, none⟩) (by simp) (.int .u8 0)).setCell (p := ⟨g, 16, none⟩) (by simp) (.int .u8 0)).setCell (p := ⟨g, 18, none⟩) (by simp) (.slice none 0 0)).setCell (p := ⟨g, 17, none⟩) (by simp) (.int .i64 0)

set_option maxRecDepth 100000 in
set_option maxHeartbeats 4000000 in
theorem hstate_any (hw : h.wt ≠ 0) (hB : Blk w g (hsC h ck) 92) : Calls Try.prog 16 #[.pointer (some ⟨g, 0, none⟩)] w fun e w' => e = .returned (.tuple #[.int .i64 h.st, .agg (mcL h.k).toArray, .int .i64 h.ss]) ∧ Fr [] w w' := by
  have c0 : ∀ i v, (hsC h ck)[i]? = some v → ∀ W, Fr [] w W → W.cell? ⟨g, i, none⟩ = some v := fun i v hv W hW => (hW.blk hB (by simp)).c i v hv
  have HN := Lib.hid fun W (hW : Fr [] w W) => hnone_any (hW.blk hB (by simp))
  have hwt : (h.wt == 0) = false := by simpa using hw
  rw [hwt] at HN
  obtain ⟨m, sv, un, rt, wt, st, ⟨k1, k2, k3, k4, k5, k6⟩, ss, tk, ag⟩ := h
  have C10 := Lib.hid (c0 10 (.int .i64 st) rfl)
  have C11 := Lib.hid (c0 11 (.int .u8 k1) rfl)
  have C12 := Lib.hid (c0 12 (.int .u8 k2) rfl)
  have C13 := Lib.hid (c0 13 (.int .u8 k3) rfl)
  have C14 := Lib.hid (c0 14 (.int .u8 k4) rfl)
  have C15 := Lib.hid (c0 15 (.int .u8 k5) rfl)
  have C16 := Lib.hid (c0 16 (.int .u8 k6) rfl)
  have C17 := Lib.hid (c0 17 (.int .i64 ss) rfl)
  clear c0 hw hwt
  go_enter Try.func16, Try.ntmps16
  have hF := (Fr.refl [] w).alloc (.cells #[.int .u8 0, .int .u8 0, .int .u8 0, .int .u8 0, .int .u8 0, .int .u8 0] 28 (0, 0))
  have hN := Blk.new w #[.int .u8 0, .int .u8 0, .int .u8 0, .int .u8 0, .int .u8 0, .int .u8 0] 28
  go_wp2_with fail
  refine (HN.out _ hF).mono ?_
  rintro e w1 ⟨rfl, rfl⟩
  go_wp2_with fail
  have d10 := C10.out _ hF
  have d11 := C11.out _ hF
  have d12 := C12.out _ hF
  have d13 := C13.out _ hF
  have d14 := C14.out _ hF
  have d15 := C15.out _ hF
  have d16 := C16.out _ hF
  have d17 := C17.out _ hF
  have hg := hB.lt
  have e10 := C10.out _ (Fr.refl _ _)
  have e11 := C11.out _ (Fr.refl _ _)
  have e12 := C12.out _ (Fr.refl _ _)
  have e13 := C13.out _ (Fr.refl _ _)
  have e14 := C14.out _ (Fr.refl _ _)
  have e15 := C15.out _ (Fr.refl _ _)
  have e16 := C16.out _ (Fr.refl _ _)
  have e17 := C17.out _ (Fr.refl _ _)
  clear HN C10 C11 C12 C13 C14 C15 C16 C17 hB
  go_region
  go_wp2_with fail
  exact ret_cell3 2 3 4 28 rfl w.heap.size 28 _ _ (Blk.new w _ _).drew rfl Try.underlying28 rfl (by kernel_rfl) rfl ⟨rfl, ((Fr.refl _ _).alloc _).drew⟩
end
end Go.Proofs.Ytcdencpkgfehlaa
