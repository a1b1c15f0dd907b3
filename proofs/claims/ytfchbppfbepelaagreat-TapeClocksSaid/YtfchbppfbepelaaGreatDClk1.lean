/- the document's clock: When. -/
import Derived.Test.YtfchbppfbepelaaGreatTapeW
import Derived.Test.YtfchbppfbepelaaGreatRowK
import Derived.Test.YtfchbppfbepelaaGreatTakes
namespace Go.Proofs.YtfchbppfbepelaaGreat
open Go.RowKit
set_option linter.unusedVariables false
abbrev DT := Ky × Int
def tmF (x : DT) : List Value := [.int .i64 x.1.1, .int .i64 x.1.2, .int .i64 x.2]
theorem tmF_len (x : DT) : (tmF x).length = 3 := rfl
theorem tmF_one (x : DT) : ∀ v, v ∈ tmF x → v.oneCell' = true := fun v hv => by
  simp [tmF] at hv
  rcases hv with rfl | rfl | rfl <;> rfl
structure DCk (w : World) (g : Nat) (n : Int) (r : Value) (D : List DT) : Prop where
  st : Blk w g #[.int .i64 n, r] 134
  row : w.ownsRow 0 151 3 r D.length (rowF tmF D)
theorem DCk.ne {w : World} {g : Nat} {n : Int} {r : Value} {D : List DT} (h : DCk w g n r D) : ∀ q, r.ownBlock = some q → q ≠ g := fun q hq e => by
  obtain ⟨cur, hc⟩ := rown_blk h.row q hq
  subst e
  exact hc.neT h.st (by decide) rfl
theorem DCk.frS {w w' : World} {g : Nat} {n : Int} {r : Value} {D : List DT} (h : DCk w g n r D) {S : List Nat} (hF : Fr S w w') (h1 : g ∉ S) (h2 : ∀ q, r.ownBlock = some q → q ∉ S) : DCk w' g n r D := ⟨hF.blk h.st h1, rown_frS h.row hF h2⟩
theorem DCk.fr0 {w w' : World} {g : Nat} {n : Int} {r : Value} {D : List DT} (h : DCk w g n r D) (hF : Fr [] w w') : DCk w' g n r D := h.frS hF (by simp) (fun _ _ => by simp)
/-- where a key stands -/
def tfind (D : List DT) (k : Ky) : Option Nat := D.findIdx? fun x => decide (x.1 = k)
def tAt (D : List DT) (k : Ky) : Int := match tfind D k with | some i => (D.getD i ((0, 0), 0)).2 | none => 0
def tHas (D : List DT) (k : Ky) : Bool := (tfind D k).isSome
theorem tfind_of {D : List DT} {k : Ky} {i : Nat} {x : DT} (h : D[i]? = some x) (hx : x.1 = k) (hn : ∀ j y, j < i → D[j]? = some y → y.1 ≠ k) : tfind D k = some i := by
  unfold tfind
  obtain ⟨hi, hg⟩ := List.getElem?_eq_some_iff.1 h
  refine List.findIdx?_eq_some_iff_getElem.2 ⟨hi, by rw [hg]; simpa using hx, fun j hj => ?_⟩
  have := hn j _ hj (List.getElem?_eq_getElem (by omega))
  simpa using this
theorem tfind_none_of {D : List DT} {k : Ky} (hn : ∀ (j : Nat) y, D[j]? = some y → y.1 ≠ k) : tfind D k = none := by
  unfold tfind
  rw [List.findIdx?_eq_none_iff]
  intro x hx
  obtain ⟨j, hj⟩ := List.mem_iff_getElem?.1 hx
  simpa using hn j x hj
section
variable {w : World} {g : Nat} {n : Int} {r : Value} {D : List DT}
set_option maxRecDepth 100000 in
set_option maxHeartbeats 4000000 in
theorem dcWhen (k1 k2 : Int) (hl : D.length ≤ 1000) (h : DCk w g n r D) :
    Calls Tryz.prog 76 #[.pointer (some ⟨g, 0, none⟩), .int .i64 k1, .int .i64 k2] w fun e w' => e = .returned (.tuple #[.int .i64 (tAt D (k1, k2)), .bool (tHas D (k1, k2))]) ∧ Fr [] w w' := by
  obtain ⟨A, cap, rfl⟩ := rown_slice h.row
  have HR := Lib.hid (RAt.of_own tmF_len h.row)
  have HC : Hid (∀ W, Fr [] w W → W.cell? ⟨g, 1, none⟩ = some (.slice A D.length cap)) := Lib.hid fun W hW => (hW.blk h.st (by simp)).c 1 _ rfl
  have hcp := rown_caps h.row
  have hcp1 := hcp.1
  have hcp2 := hcp.2
  have hlI : (D.length : Int) ≤ 1000 := by omega
  clear h hcp
  go_enter Tryz.func76, Tryz.ntmps76
  go_wp2_with fail
  go_loopw [8] (fun iv wr => ∃ j : Nat, j ≤ D.length ∧ iv = .int .i64 j ∧ Hid (∀ i y, i < j → D[i]? = some y → y.1 ≠ (k1, k2)) ∧ Fr [] w wr) (fun iv _ => D.length - (intOf iv).toNat)
  case atStart => exact ⟨0, Nat.zero_le _, rfl, Lib.hid fun i y h => by omega, Fr.refl _ _⟩
  case round =>
    obtain ⟨j, hj, rfl, hNO, hF⟩ := hrel
    have g1 := HC.out _ hF
    by_cases hjl : j < D.length
    · obtain ⟨⟨⟨a, b⟩, t⟩, hx⟩ : ∃ x, D[j]? = some x := ⟨_, List.getElem?_eq_getElem hjl⟩
      obtain ⟨q, rfl, hq, hcell⟩ := HR.out j _ hx
      obtain ⟨y0, y1, y2⟩ : wr.cell? ⟨q, j * 3, none⟩ = some (.int .i64 a) ∧ wr.cell? ⟨q, j * 3 + 1, none⟩ = some (.int .i64 b) ∧ wr.cell? ⟨q, j * 3 + 2, none⟩ = some (.int .i64 t) := ⟨hcell wr hF 0 _ rfl, hcell wr hF 1 _ rfl, hcell wr hF 2 _ rfl⟩
      have HX := Lib.hid hx
      have HF := Lib.hid hF
      clear hcell hx hq hF
      have nx : ¬ (a = k1 ∧ b = k2) → Hid (∀ i y, i < j + 1 → D[i]? = some y → y.1 ≠ (k1, k2)) := fun hne => Lib.hid fun i y hi hy => by
        by_cases hij : i < j
        · exact hNO.out i y hij hy
        · obtain rfl : i = j := by omega
          rw [HX.out] at hy
          cases hy
          intro e
          simp at e
          exact hne e
      by_cases ha : a = k1
      · have ha' : (a == k1) = true := by simpa using ha
        by_cases hb : b = k2
        · have hb' : (b == k2) = true := by simpa using hb
          have hT : tfind D (k1, k2) = some j := tfind_of HX.out (by rw [ha, hb]) hNO.out
          have e1 : tAt D (k1, k2) = t := by
            unfold tAt
            rw [hT]
            simp only [List.getD_eq_getElem?_getD, HX.out]
            rfl
          have e2 : tHas D (k1, k2) = true := by unfold tHas; rw [hT]; rfl
          have E := Lib.hid (And.intro e1 e2)
          clear ha hb nx hT e1 e2
          go_wp2_with fail
          go_ret2
          exact ⟨by first | (rw [E.out.1, E.out.2]; done) | (rw [E.out.1, E.out.2]; rfl), HF.out⟩
        · have hb' : (b == k2) = false := by simpa using hb
          have NX := nx (fun h => hb h.2)
          clear ha hb nx
          go_wp2_with fail
          go_roundw
          case rel => exact ⟨j + 1, by omega, by go_num, NX, HF.out⟩
          case measure => (simp [intOf]) <;> omega
      · have ha' : (a == k1) = false := by simpa using ha
        have NX := nx (fun h => ha h.1)
        clear ha nx
        go_wp2_with fail
        go_roundw
        case rel => exact ⟨j + 1, by omega, by go_num, NX, HF.out⟩
        case measure => (simp [intOf]) <;> omega
    · obtain rfl : j = D.length := by omega
      have hT : tfind D (k1, k2) = none := tfind_none_of fun i y hy => hNO.out i y (List.getElem?_eq_some_iff.1 hy).1 hy
      have e1 : tAt D (k1, k2) = 0 := by unfold tAt; rw [hT]
      have e2 : tHas D (k1, k2) = false := by unfold tHas; rw [hT]; rfl
      have E := Lib.hid (And.intro e1 e2)
      have HF := Lib.hid hF
      clear hT e1 e2 hF
      go_wp2_with fail
      go_ret2
      exact ⟨by first | (rw [E.out.1, E.out.2]; done) | (rw [E.out.1, E.out.2]; rfl), HF.out⟩
end
end Go.Proofs.YtfchbppfbepelaaGreat
