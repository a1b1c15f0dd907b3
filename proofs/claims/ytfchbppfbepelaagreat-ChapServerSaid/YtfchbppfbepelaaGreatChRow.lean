/- ChapClient, ChapServer: the rows that came in, and whether they are short. -/
import Derived.Test.YtfchbppfbepelaaGreatRowsS
import Derived.Test.YtfchbppfbepelaaGreatStr
import Derived.Test.YtfchbppfbepelaaGreatRow
import Derived.OpenShut
import Derived.WideShapes
import Derived.Below
namespace Go.Proofs.YtfchbppfbepelaaGreat
open Go.ChangeShapes Go.WideShapes Go.ChangeAt Go.RowKit Go.Deep
set_option linter.unusedVariables false
structure HOp where
  kd : Int
  c : Int
  i : Int
  A : Option Addr
  m : Nat
  cap : Nat
  d : List UInt8
  v : List UInt8
  gd : Bool
def hopL (o : HOp) : List Value := [.int .i64 o.kd, .int .i64 o.c, .int .i64 o.i, .slice o.A o.m o.cap, .string (B o.d), .string (B o.v), .bool o.gd]
def in64 (x : Int) : Prop := -9223372036854775808 ≤ x ∧ x ≤ 9223372036854775807
def HopOk (o : HOp) : Prop := in64 o.kd ∧ in64 o.c ∧ in64 o.i ∧ o.d.length ≤ 140737488351232 ∧ o.v.length ≤ 140737488351232
section
variable {H : Type} {enc : TypeId × Value → H} {w : World} {base : Nat} {spare : Nat → Bool} {held : Bool}
theorem wf_in64 {x : Int} (h : (Lit.int .i64 x).wf = true) : in64 x := by unfold in64; simpa [Lit.wf, IntKind.min, IntKind.max, IntKind.signed, IntKind.bits] using h
theorem hop_cells : Tryz.prog.cellsOf 81 = 7 := by kernel_rfl
theorem pkt_cells : Tryz.prog.cellsOf 56 = 4 := by kernel_rfl
theorem weights_sub {P : Program} {t : TypeId} {parts : List (DataW H)} {fs : Array Field} (hu : P.underlying t = some (.struct fs)) (h : ∀ k, k ∈ (DataW.agg parts).weights P t → k ≤ reachBytes) {j : Nat} {u : TypeId} {d : DataW H} (ht : (fs.toList.map (·.type))[j]? = some u) (hd : parts[j]? = some d) : ∀ k, k ∈ d.weights P u → k ≤ reachBytes := fun k hk =>
  h _ (by simp only [DataW.weights, hu]; exact DataW.weights_mem_each ht hd _ hk)
set_option maxRecDepth 100000 in
theorem dec_pkt (n : Nat) (cs : List Value) (x : DataW H × List MemPlace) (h : DataW.trod enc Tryz.prog w base spare held n 56 cs = some x) (hw : ∀ k, k ∈ x.1.weights Tryz.prog 56 → k ≤ reachBytes) : ∃ (c i : Int) (A : Option Addr) (m cap : Nat) (d : List UInt8), cs = [.int .i64 c, .int .i64 i, .slice A m cap, .string (B d)] ∧ in64 c ∧ in64 i ∧ d.length ≤ 140737488351232 := by
  obtain ⟨xs, mm, _, hxe, hcl, hlen, hg⟩ := DataW.trod_struct Tryz.underlying56 h
  rw [pkt_cells] at hcl
  match cs, hcl with
  | [c0, c1, c2, c3], _ =>
    obtain ⟨y0, hy0⟩ : ∃ u, xs[0]? = some u := ⟨_, List.getElem?_eq_getElem (by rw [hlen]; decide)⟩
    obtain ⟨y1, hy1⟩ : ∃ u, xs[1]? = some u := ⟨_, List.getElem?_eq_getElem (by rw [hlen]; decide)⟩
    obtain ⟨y2, hy2⟩ : ∃ u, xs[2]? = some u := ⟨_, List.getElem?_eq_getElem (by rw [hlen]; decide)⟩
    obtain ⟨y3, hy3⟩ : ∃ u, xs[3]? = some u := ⟨_, List.getElem?_eq_getElem (by rw [hlen]; decide)⟩
    obtain ⟨a0, e0, _, w0⟩ := DataW.trod_int Tryz.underlying3 (show DataW.trod enc Tryz.prog w base spare held mm 3 [c0] = some y0 from (hg 0 _ rfl).trans hy0)
    obtain ⟨a1, e1, _, w1⟩ := DataW.trod_int Tryz.underlying3 (show DataW.trod enc Tryz.prog w base spare held mm 3 [c1] = some y1 from (hg 1 _ rfl).trans hy1)
    obtain ⟨a2, n2, k2, e2⟩ : ∃ A n k, [c2] = [Value.slice A n k] := by rcases DataW.trod_slice Tryz.underlying54 (show DataW.trod enc Tryz.prog w base spare held mm 54 [c2] = some y2 from (hg 2 _ rfl).trans hy2) with ⟨h0, _⟩ | ⟨A, l, k, _, _, _, _, h0, _⟩ <;> exact ⟨_, _, _, h0⟩
    obtain ⟨a3, e3, f3, _⟩ := DataW.trod_string Tryz.underlying9 (show DataW.trod enc Tryz.prog w base spare held mm 9 [c3] = some y3 from (hg 3 _ rfl).trans hy3)
    simp only [List.cons.injEq, and_true] at e0 e1 e2 e3
    subst e0 e1 e2 e3 f3
    rw [hxe] at hw
    have q3 := weights_str Tryz.underlying56 hw (j := 3) (u := 9) rfl (by rw [List.getElem?_map, hy3]; rfl)
    unfold reachBytes at q3
    refine ⟨a0, a1, a2, n2, k2, a3.data.toList, ?_, wf_in64 w0, wf_in64 w1, Nat.le_trans q3 (by decide)⟩
    rw [← B_of]
set_option maxRecDepth 100000 in
theorem dec_hop (n : Nat) (cs : List Value) (x : DataW H × List MemPlace) (h : DataW.trod enc Tryz.prog w base spare held n 81 cs = some x) (hw : ∀ k, k ∈ x.1.weights Tryz.prog 81 → k ≤ reachBytes) : ∃ o : HOp, cs = hopL o ∧ HopOk o := by
  obtain ⟨xs, mm, _, hxe, hcl, hlen, hg⟩ := DataW.trod_struct Tryz.underlying81 h
  rw [hop_cells] at hcl
  match cs, hcl with
  | [c0, c1, c2, c3, c4, c5, c6], _ =>
    obtain ⟨y0, hy0⟩ : ∃ u, xs[0]? = some u := ⟨_, List.getElem?_eq_getElem (by rw [hlen]; decide)⟩
    obtain ⟨y1, hy1⟩ : ∃ u, xs[1]? = some u := ⟨_, List.getElem?_eq_getElem (by rw [hlen]; decide)⟩
    obtain ⟨y2, hy2⟩ : ∃ u, xs[2]? = some u := ⟨_, List.getElem?_eq_getElem (by rw [hlen]; decide)⟩
    obtain ⟨y3, hy3⟩ : ∃ u, xs[3]? = some u := ⟨_, List.getElem?_eq_getElem (by rw [hlen]; decide)⟩
    obtain ⟨a0, e0, _, w0⟩ := DataW.trod_int Tryz.underlying3 (show DataW.trod enc Tryz.prog w base spare held mm 3 [c0] = some y0 from (hg 0 _ rfl).trans hy0)
    obtain ⟨v, e5, f5, _⟩ := DataW.trod_string Tryz.underlying9 (show DataW.trod enc Tryz.prog w base spare held mm 9 [c5] = some y2 from (hg 2 _ rfl).trans hy2)
    obtain ⟨gd, e6, _⟩ := DataW.trod_bool Tryz.underlying4 (show DataW.trod enc Tryz.prog w base spare held mm 4 [c6] = some y3 from (hg 3 _ rfl).trans hy3)
    rw [hxe] at hw
    subst f5
    have q5 := weights_str Tryz.underlying81 hw (j := 2) (u := 9) rfl (by rw [List.getElem?_map, hy2]; rfl)
    unfold reachBytes at q5
    obtain ⟨c, i, A, m, cap, d, e1, w1, w2, w3⟩ := dec_pkt _ _ _ (show DataW.trod enc Tryz.prog w base spare held mm 56 [c1, c2, c3, c4] = some y1 from (hg 1 _ rfl).trans hy1) (weights_sub Tryz.underlying81 hw (j := 1) (u := 56) rfl (by rw [List.getElem?_map, hy1]; rfl))
    simp only [List.cons.injEq, and_true] at e0 e1 e5 e6
    obtain ⟨e1, e2, e3, e4⟩ := e1
    subst e0 e1 e2 e3 e4 e5 e6
    refine ⟨⟨a0, c, i, A, m, cap, d, v.data.toList, gd⟩, ?_, wf_in64 w0, w1, w2, w3, Nat.le_trans q5 (by decide)⟩
    unfold hopL
    rw [← B_of]
theorem open_hops {a : Option Addr} {len cap : Nat} {d : DataW H} {ps : List MemPlace} (h : DataW.Trod enc Tryz.prog w base spare held 71 (.slice a len cap) d ps) (hs : ∀ k, k ∈ d.weights Tryz.prog 71 → k ≤ reachBytes) : ∃ l, RowsAt w a len cap 7 hopL HopOk l :=
  rows_ofS Tryz.underlying71 hop_cells (by decide) dec_hop h hs
end
def ShortP (w : World) (len : Nat) (l : List HOp) (e : Ending) (w' : World) : Prop := ∃ b, e = .returned (.bool b) ∧ (b = true → len ≤ 200 ∧ ∀ (k : Nat) o, l[k]? = some o → o.d.length ≤ 1000 ∧ o.v.length ≤ 300) ∧ Fr [] w w'
set_option maxRecDepth 100000 in
set_option maxHeartbeats 2000000 in
theorem short14 {w : World} {a : Option Addr} {len cap : Nat} {l : List HOp} (hR : RowsAt w a len cap 7 hopL HopOk l) :
    Calls Tryz.prog 27 #[.slice a len cap] w (ShortP w len l) := by
  have HR := Lib.hid hR
  have hlm : len ≤ maxLen := Nat.le_trans hR.2.1 hR.2.2.1
  unfold maxLen at hlm
  clear hR
  go_enter Tryz.func27, Tryz.ntmps27
  go_wp2_with fail
  go_loopw [3] (fun iv wr => ∃ j : Nat, j ≤ len ∧ iv = .int .i64 j ∧ w = wr ∧ Hid (∀ (k : Nat) o, k < j → l[k]? = some o → o.d.length ≤ 1000 ∧ o.v.length ≤ 300)) (fun iv _ => len - (intOf iv).toNat)
  case atStart => exact ⟨0, Nat.zero_le _, rfl, rfl, Lib.hid fun k o h => by omega⟩
  case round =>
    obtain ⟨j, hj, rfl, rfl, hS⟩ := hrel
    by_cases hjl : j < len
    · obtain ⟨bb, off, ⟨kd, c, i, A, m, cp, d, v, gd⟩, rfl, hbb, hx, hV, hcell⟩ := HR.out.at_ j hjl
      have hl := hcell w (Fr.refl _ _)
      obtain ⟨y2, y3, y4⟩ : w.cell? ⟨bb, off + j * 7 + 3, none⟩ = some (.slice A m cp) ∧ w.cell? ⟨bb, off + j * 7 + 4, none⟩ = some (.string (B d)) ∧ w.cell? ⟨bb, off + j * 7 + 5, none⟩ = some (.string (B v)) := ⟨hl 3 _ rfl, hl 4 _ rfl, hl 5 _ rfl⟩
      have hd0 := hV.2.2.2.1
      have hv0 := hV.2.2.2.2
      simp only at hd0 hv0
      have HX := Lib.hid hx
      clear hcell hl hbb hV hx
      by_cases hd : (1000 : Int) < d.length
      · go_wp2_with fail
        go_ret
        exact ⟨false, rfl, (fun h => by cases h), Fr.refl _ _⟩
      · by_cases hm : (40 : Int) < m
        · go_wp2_with fail
          go_ret
          exact ⟨false, rfl, (fun h => by cases h), Fr.refl _ _⟩
        · by_cases hv : (300 : Int) < v.length
          · go_wp2_with fail
            go_ret
            exact ⟨false, rfl, (fun h => by cases h), Fr.refl _ _⟩
          · go_wp2_with fail
            go_roundw
            case rel =>
              refine ⟨j + 1, by omega, by go_num, trivial, Lib.hid fun k o hk ho => ?_⟩
              by_cases hkj : k < j
              · exact hS.out k o hkj ho
              · obtain rfl : k = j := by omega
                rw [HX.out] at ho
                cases ho
                show d.length ≤ 1000 ∧ v.length ≤ 300
                omega
            case measure => (simp [intOf]) <;> omega
    · obtain rfl : j = len := by omega
      have hll := HR.out.1
      by_cases h2 : (j : Int) ≤ 200
      · go_wp2_with fail
        go_ret
        exact ⟨true, rfl, fun _ => ⟨by omega, fun k o ho => hS.out k o (by have := (List.getElem?_eq_some_iff.1 ho).1; omega) ho⟩, Fr.refl _ _⟩
      · go_wp2_with fail
        go_ret
        exact ⟨false, rfl, (fun h => by cases h), Fr.refl _ _⟩
end Go.Proofs.YtfchbppfbepelaaGreat
