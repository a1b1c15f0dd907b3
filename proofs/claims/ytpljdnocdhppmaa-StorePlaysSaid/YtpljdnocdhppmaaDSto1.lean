/- the document's store: find, shut, judge. -/
import Derived.Test.YtpljdnocdhppmaaRowK
import Derived.Test.YtpljdnocdhppmaaKnow
import Derived.ChangeKeysEq
namespace Go.Proofs.Ytpljdnocdhppmaa
open Go.RowKit Go.Maps
set_option linter.unusedVariables false
abbrev DK := Who × Kn
def dkL (x : DK) : List Value := [.string (B x.1.1), .string (B x.1.2), .string (B x.2.s), .int .i64 x.2.wr, .int .i64 x.2.la]
theorem dkL_len (x : DK) : (dkL x).length = 5 := rfl
theorem dkL_one (x : DK) : ∀ v, v ∈ dkL x → v.oneCell' = true := fun v hv => by
  simp [dkL] at hv
  rcases hv with rfl | rfl | rfl | rfl | rfl <;> rfl
structure DSt (w : World) (g : Nat) (lim calm : Int) (r : Value) (D : List DK) : Prop where
  st : Blk w g #[.int .i64 lim, .int .i64 calm, r] 74
  row : w.ownsRow 0 98 5 r D.length (rowF dkL D)
theorem DSt.ne {w : World} {g : Nat} {lim calm : Int} {r : Value} {D : List DK} (h : DSt w g lim calm r D) : ∀ q, r.ownBlock = some q → q ≠ g := fun q hq e => by
  obtain ⟨cur, hc⟩ := rown_blk h.row q hq
  subst e
  exact hc.neT h.st (by decide) rfl
theorem DSt.frS {w w' : World} {g : Nat} {lim calm : Int} {r : Value} {D : List DK} (h : DSt w g lim calm r D) {S : List Nat} (hF : Fr S w w') (h1 : g ∉ S) (h2 : ∀ q, r.ownBlock = some q → q ∉ S) : DSt w' g lim calm r D := ⟨hF.blk h.st h1, rown_frS h.row hF h2⟩
theorem DSt.fr0 {w w' : World} {g : Nat} {lim calm : Int} {r : Value} {D : List DK} (h : DSt w g lim calm r D) (hF : Fr [] w w') : DSt w' g lim calm r D := h.frS hF (by simp) (fun _ _ => by simp)
theorem fieldsRWho : ((Try.prog.fieldsOf 77).toList.map fun f => (decide (f.name ≠ "_"), f.type, f.offset)) = [(true, 9, 0), (true, 9, 1)] := by kernel_rfl
theorem str_decR (x y : List UInt8) : ((B x).toList == (B y).toList) = decide (x = y) := by rw [B_toList, B_toList, Bool.eq_iff_iff]; simp
theorem eq_rwho (a b c d : List UInt8) (w : World) : (Op.equalIn 10000 77 (.agg #[.string (B a), .string (B b)]) (.agg #[.string (B c), .string (B d)])).run Try.prog w = .ok (decide ((a, b) = (c, d))) w := by
  rw [run_equalIn_agg w 9999 77 _ _ (by kernel_rfl) (by kernel_rfl)]
  have hF := fieldsRWho
  generalize (Try.prog.fieldsOf 77).toList = fs at hF ⊢
  have hlen : fs.length = 2 := by have := congrArg List.length hF; simpa using this
  obtain ⟨f, g, rfl⟩ : ∃ f g, fs = [f, g] := by
    match fs, hlen with
    | [f, g], _ => exact ⟨f, g, rfl⟩
  simp only [List.map_cons, List.map_nil, List.cons.injEq, Prod.mk.injEq, decide_eq_true_eq, and_true] at hF
  obtain ⟨⟨h1, h2, h3⟩, h4, h5, h6⟩ := hF
  have p1 : ∀ x y : List UInt8, (part 9 #[.string (B x), .string (B y)] 0).run Try.prog w = .ok (.string (B x)) w := fun x y => run_part_plain (P := Try.prog) w (by kernel_rfl) rfl
  have p2 : ∀ x y : List UInt8, (part 9 #[.string (B x), .string (B y)] 1).run Try.prog w = .ok (.string (B y)) w := fun x y => run_part_plain (P := Try.prog) w (by kernel_rfl) rfl
  have q : ∀ x y : List UInt8, (Op.equalIn 9999 9 (.string (B x)) (.string (B y))).run Try.prog w = .ok (decide (x = y)) w := fun x y => by
    rw [← str_decR x y]
    exact run_equalIn_string (P := Try.prog) w 9998 9 (B x) (B y) Try.underlying9
  simp only [Op.eqFields, h1, h2, h3, h4, h5, h6, ne_eq, not_false_eq_true, if_true, Sem.run_bind, p1, q, Result.andThen_ok]
  have hd : decide ((a, b) = (c, d)) = (decide (a = c) && decide (b = d)) := by
    by_cases e1 : a = c <;> by_cases e2 : b = d <;> simp [e1, e2]
  rw [hd]
  by_cases e1 : a = c
  · subst e1
    by_cases e2 : b = d
    · subst e2; simp [p2, q, Result.andThen]
    · simp [e2, p2, q, Result.andThen]
  · simp [e1]
/-- where a name stands -/
def dfind (D : List DK) (who : Who) : Option Nat := D.findIdx? fun x => decide (x.1 = who)
theorem dfind_some {D : List DK} {who : Who} {i : Nat} (h : dfind D who = some i) : ∃ k, D[i]? = some (who, k) := by
  unfold dfind at h
  obtain ⟨hi, hp, _⟩ := List.findIdx?_eq_some_iff_getElem.1 h
  refine ⟨D[i].2, ?_⟩
  rw [List.getElem?_eq_getElem hi]
  have : D[i].1 = who := by simpa using hp
  rw [← this]
theorem dfind_of {D : List DK} {who : Who} {i : Nat} {x : DK} (h : D[i]? = some x) (hx : x.1 = who) (hn : ∀ j y, j < i → D[j]? = some y → y.1 ≠ who) : dfind D who = some i := by
  unfold dfind
  obtain ⟨hi, hg⟩ := List.getElem?_eq_some_iff.1 h
  refine List.findIdx?_eq_some_iff_getElem.2 ⟨hi, by rw [hg]; simpa using hx, fun j hj => ?_⟩
  have := hn j _ hj (List.getElem?_eq_getElem (by omega))
  simpa using this
theorem dfind_none_of {D : List DK} {who : Who} (hn : ∀ (j : Nat) y, D[j]? = some y → y.1 ≠ who) : dfind D who = none := by
  unfold dfind
  rw [List.findIdx?_eq_none_iff]
  intro x hx
  obtain ⟨j, hj⟩ := List.mem_iff_getElem?.1 hx
  simpa using hn j x hj
def fval (r : Option Nat) : Int := match r with | none => -1 | some i => i
section
variable {w : World} {g : Nat} {lim calm : Int} {r : Value} {D : List DK}
set_option maxRecDepth 100000 in
set_option maxHeartbeats 4000000 in
theorem dsfind_any (f : List UInt8) (hf : f.length ≤ 140737488355328) (hl : D.length ≤ 1000) (h : DSt w g lim calm r D) :
    Calls Try.prog 59 #[.pointer (some ⟨g, 0, none⟩), .string (B f)] w fun e w' => e = .returned (.int .i64 (fval (dfind D (spN f, spR f)))) ∧ Fr [] w w' := by
  obtain ⟨A, cap, rfl⟩ := rown_slice h.row
  have HR := Lib.hid (RAt.of_own dkL_len h.row)
  have SP := Lib.hid fun W => rsplit_any f W hf
  unfold whoC at SP
  obtain ⟨n1, hn1⟩ : ∃ x, spN f = x := ⟨_, rfl⟩
  obtain ⟨n2, hn2⟩ : ∃ x, spR f = x := ⟨_, rfl⟩
  rw [hn1, hn2] at SP ⊢
  clear hn1 hn2
  have HG : Hid (∀ W, Fr [] w W → W.cell? ⟨g, 2, none⟩ = some (.slice A D.length cap)) := Lib.hid fun W hW => (hW.blk h.st (by simp)).c 2 _ rfl
  have hcp := rown_caps h.row
  have hlI : (D.length : Int) ≤ 1000 := by omega
  clear h
  go_enter Try.func59, Try.ntmps59
  go_wp2_with fail
  go_loopw [5] (fun iv wr => ∃ j : Nat, j ≤ D.length ∧ iv = .int .i64 j ∧ (∀ i y, i < j → D[i]? = some y → y.1 ≠ (n1, n2)) ∧ Fr [] w wr) (fun iv _ => D.length - (intOf iv).toNat)
  case atStart => exact ⟨0, by omega, rfl, fun i y hi => by omega, Fr.refl _ _⟩
  case round =>
    obtain ⟨j, hj, rfl, hno, hF⟩ := hrel
    have HNO := Lib.hid hno
    have HF := Lib.hid hF
    have g2 := HG.out _ hF
    clear hno hF
    by_cases hjl : j < D.length
    · obtain ⟨⟨⟨a, b⟩, k⟩, hx⟩ : ∃ x, D[j]? = some x := ⟨_, List.getElem?_eq_getElem hjl⟩
      obtain ⟨q, rfl, hq, hcell⟩ := HR.out j _ hx
      have HXX := Lib.hid hx
      have HC : Hid (∀ W, Fr [] w W → W.cell? ⟨g, 2, none⟩ = some (.slice (some ⟨q, 0, none⟩) D.length cap) ∧ W.cell? ⟨q, j * 5, none⟩ = some (.string (B a)) ∧ W.cell? ⟨q, j * 5 + 1, none⟩ = some (.string (B b)) ∧ Fr [] w W) := Lib.hid fun W hW => ⟨HG.out W hW, hcell W hW 0 _ rfl, hcell W hW 1 _ rfl, hW⟩
      have heq := fun W => eq_rwho a b n1 n2 W
      obtain ⟨e0, he0⟩ : ∃ e, decide ((a, b) = (n1, n2)) = e := ⟨_, rfl⟩
      rw [he0] at heq
      have HE := Lib.hid he0
      have hG0 := HC.out _ HF.out.drew
      clear hcell hx he0 hq
      go_wp2_with fail
      clear g2
      go_region_held3 (fun W => W.cell? ⟨g, 2, none⟩ = some (.slice (some ⟨q, 0, none⟩) D.length cap) ∧ W.cell? ⟨q, j * 5, none⟩ = some (.string (B a)) ∧ W.cell? ⟨q, j * 5 + 1, none⟩ = some (.string (B b)) ∧ Fr [] w W)
        (first | exact hG0 | (refine HC.out _ (Fr.trans ?_ hF5); exact And.right (And.right (And.right (by assumption)))) | assumption)
        (first | (go_at_call 42; refine (SP.out _).mono ?_; rintro e w5 ⟨rfl, hF5⟩))
      all_goals
        have hFZ : Fr [] w w5 := (HF.out.drew).trans hF5
        have HFZ := Lib.hid hFZ
        clear hG0 heq hFZ hF5
        cases e0 with
        | true =>
          have HRES : Hid (fval (dfind D (n1, n2)) = (j : Int)) := Lib.hid (by rw [dfind_of HXX.out (of_decide_eq_true HE.out) HNO.out]; rfl)
          clear HXX HE HNO
          go_wp2_with fail
          go_ret
          exact ⟨by rw [HRES.out]; rfl, HFZ.out⟩
        | false =>
          go_wp2_with fail
          go_roundw
          case rel =>
            refine ⟨j + 1, by omega, by go_num, fun i y hi hy => ?_, HFZ.out⟩
            rcases Nat.lt_or_ge i j with h1 | h1
            · exact HNO.out i y h1 hy
            · obtain rfl : i = j := by omega
              have h2 := HXX.out
              rw [h2] at hy
              injection hy with hy
              subst hy
              exact of_decide_eq_false HE.out
          case measure => (simp [intOf]) <;> omega
    · obtain rfl : j = D.length := by omega
      have HRES : Hid (fval (dfind D (n1, n2)) = -1) := Lib.hid (by rw [dfind_none_of (fun i y hy => HNO.out i y (List.getElem?_eq_some_iff.1 hy).1 hy)]; rfl)
      clear HNO
      go_wp2_with fail
      go_ret
      exact ⟨by rw [HRES.out]; rfl, HF.out⟩
end
end Go.Proofs.Ytpljdnocdhppmaa
