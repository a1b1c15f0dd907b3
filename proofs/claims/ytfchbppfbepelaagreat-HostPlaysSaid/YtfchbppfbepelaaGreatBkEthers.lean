/- the book: Ethers (printed by tools/gen_book.py). -/
import Derived.Test.YtfchbppfbepelaaGreatMgA
import Derived.Test.YtfchbppfbepelaaGreatNameB
import Derived.Test.YtfchbppfbepelaaGreatEqEth
namespace Go.Proofs.YtfchbppfbepelaaGreat
open Go.RowKit
set_option linter.unusedVariables false
def etF (x : (Mc × Mc × Int × List UInt8)) : List Value := [.int .u8 x.1.a, .int .u8 x.1.b, .int .u8 x.1.c, .int .u8 x.1.d, .int .u8 x.1.e, .int .u8 x.1.f, .int .u8 x.2.1.a, .int .u8 x.2.1.b, .int .u8 x.2.1.c, .int .u8 x.2.1.d, .int .u8 x.2.1.e, .int .u8 x.2.1.f, .int .i64 x.2.2.1, .string (B x.2.2.2)]
def etM (i k : Nat) : (Mc × Mc × Int × List UInt8) := (⟨0, 0, 0, 0, 0, 0⟩, ⟨0, 0, 0, 0, 0, 0⟩, -1 - (i : Int), nmB i k)
theorem etF_len (x : (Mc × Mc × Int × List UInt8)) : (etF x).length = 14 := rfl
theorem etF_one (x : (Mc × Mc × Int × List UInt8)) : ∀ v, v ∈ etF x → v.oneCell' = true := fun v hv => by
  simp [etF] at hv
  rcases hv with rfl | rfl | rfl | rfl | rfl | rfl | rfl | rfl | rfl | rfl | rfl | rfl | rfl | rfl <;> rfl
theorem info_et : (Tryz.prog.info? 113).map (fun i => (i.zero, i.size, i.bytes)) = some (some (.agg #[.int .u8 0, .int .u8 0, .int .u8 0, .int .u8 0, .int .u8 0, .int .u8 0, .int .u8 0, .int .u8 0, .int .u8 0, .int .u8 0, .int .u8 0, .int .u8 0, .int .i64 0, .string ⟨#[]⟩]), 14, 40) := by kernel_rfl
theorem info_etS : (Tryz.prog.info? 116).map (fun i => (i.zero, i.size, i.bytes)) = some (some (.slice none 0 0), 1, 24) := by kernel_rfl
abbrev etKd := Kd (α := (Mc × Mc × Int × List UInt8)) 113 116 14 etF
abbrev etWs := Ws (α := (Mc × Mc × Int × List UInt8)) 113 116 14 etF
abbrev etLs := Ls (α := (Mc × Mc × Int × List UInt8)) 113 116 14 etF
theorem et_eq (x : Mc × Mc × Int × List UInt8) (W : World) : (Op.equalIn 10000 113 (.agg #[.int .u8 x.1.a, .int .u8 x.1.b, .int .u8 x.1.c, .int .u8 x.1.d, .int .u8 x.1.e, .int .u8 x.1.f, .int .u8 x.2.1.a, .int .u8 x.2.1.b, .int .u8 x.2.1.c, .int .u8 x.2.1.d, .int .u8 x.2.1.e, .int .u8 x.2.1.f, .int .i64 x.2.2.1, .string (B x.2.2.2)]) (.agg #[.int .u8 x.1.a, .int .u8 x.1.b, .int .u8 x.1.c, .int .u8 x.1.d, .int .u8 x.1.e, .int .u8 x.1.f, .int .u8 x.2.1.a, .int .u8 x.2.1.b, .int .u8 x.2.1.c, .int .u8 x.2.1.d, .int .u8 x.2.1.e, .int .u8 x.2.1.f, .int .i64 x.2.2.1, .string (B x.2.2.2)])).run Tryz.prog W = .ok true W := by
  have := eq_eth x.1 x.2.1 x.2.2.1 x.2.2.2 x.1 x.2.1 x.2.2.1 x.2.2.2 W
  rwa [ethEq_self] at this
section
variable {w : World}
set_option maxRecDepth 100000 in
set_option maxHeartbeats 8000000 in
theorem et_same (l : List (Mc × Mc × Int × List UInt8)) (A B : Option Addr) (c d : Nat) (h1 : RAt w A 14 etF l) (h2 : RAt w B 14 etF l) (hl : l.length ≤ 3000) :
    Calls Tryz.prog 65 #[.slice A l.length c, .slice B l.length d] w fun e w' => e = .returned (.bool true) ∧ Fr [] w w' := by
  have H1 := Lib.hid h1
  have H2 := Lib.hid h2
  have hlI : (l.length : Int) ≤ 3000 := by omega
  clear h1 h2
  go_enter Tryz.func65, Tryz.ntmps65
  go_wp2_with fail
  go_loopw [5] (fun iv wr => ∃ j : Nat, j ≤ l.length ∧ iv = .int .i64 j ∧ Fr [] w wr) (fun iv _ => l.length - (intOf iv).toNat)
  case atStart => exact ⟨0, Nat.zero_le _, rfl, Fr.refl _ _⟩
  case round =>
    obtain ⟨j, hj, rfl, hF⟩ := hrel
    by_cases hjl : j < l.length
    · obtain ⟨x, hx⟩ : ∃ x, l[j]? = some x := ⟨_, List.getElem?_eq_getElem hjl⟩
      obtain ⟨qa, rfl, hqa, ca⟩ := H1.out j x hx
      obtain ⟨qb, rfl, hqb, cb⟩ := H2.out j x hx
      obtain ⟨y0, y1, y2, y3, y4, y5, y6, y7, y8, y9, y10, y11, y12, y13⟩ : wr.cell? ⟨qa, j * 14, none⟩ = some (.int .u8 x.1.a) ∧ wr.cell? ⟨qa, j * 14 + 1, none⟩ = some (.int .u8 x.1.b) ∧ wr.cell? ⟨qa, j * 14 + 2, none⟩ = some (.int .u8 x.1.c) ∧ wr.cell? ⟨qa, j * 14 + 3, none⟩ = some (.int .u8 x.1.d) ∧ wr.cell? ⟨qa, j * 14 + 4, none⟩ = some (.int .u8 x.1.e) ∧ wr.cell? ⟨qa, j * 14 + 5, none⟩ = some (.int .u8 x.1.f) ∧ wr.cell? ⟨qa, j * 14 + 6, none⟩ = some (.int .u8 x.2.1.a) ∧ wr.cell? ⟨qa, j * 14 + 7, none⟩ = some (.int .u8 x.2.1.b) ∧ wr.cell? ⟨qa, j * 14 + 8, none⟩ = some (.int .u8 x.2.1.c) ∧ wr.cell? ⟨qa, j * 14 + 9, none⟩ = some (.int .u8 x.2.1.d) ∧ wr.cell? ⟨qa, j * 14 + 10, none⟩ = some (.int .u8 x.2.1.e) ∧ wr.cell? ⟨qa, j * 14 + 11, none⟩ = some (.int .u8 x.2.1.f) ∧ wr.cell? ⟨qa, j * 14 + 12, none⟩ = some (.int .i64 x.2.2.1) ∧ wr.cell? ⟨qa, j * 14 + 13, none⟩ = some (.string (B x.2.2.2)) := ⟨ca wr hF 0 _ rfl, ca wr hF 1 _ rfl, ca wr hF 2 _ rfl, ca wr hF 3 _ rfl, ca wr hF 4 _ rfl, ca wr hF 5 _ rfl, ca wr hF 6 _ rfl, ca wr hF 7 _ rfl, ca wr hF 8 _ rfl, ca wr hF 9 _ rfl, ca wr hF 10 _ rfl, ca wr hF 11 _ rfl, ca wr hF 12 _ rfl, ca wr hF 13 _ rfl⟩
      obtain ⟨z0, z1, z2, z3, z4, z5, z6, z7, z8, z9, z10, z11, z12, z13⟩ : wr.cell? ⟨qb, j * 14, none⟩ = some (.int .u8 x.1.a) ∧ wr.cell? ⟨qb, j * 14 + 1, none⟩ = some (.int .u8 x.1.b) ∧ wr.cell? ⟨qb, j * 14 + 2, none⟩ = some (.int .u8 x.1.c) ∧ wr.cell? ⟨qb, j * 14 + 3, none⟩ = some (.int .u8 x.1.d) ∧ wr.cell? ⟨qb, j * 14 + 4, none⟩ = some (.int .u8 x.1.e) ∧ wr.cell? ⟨qb, j * 14 + 5, none⟩ = some (.int .u8 x.1.f) ∧ wr.cell? ⟨qb, j * 14 + 6, none⟩ = some (.int .u8 x.2.1.a) ∧ wr.cell? ⟨qb, j * 14 + 7, none⟩ = some (.int .u8 x.2.1.b) ∧ wr.cell? ⟨qb, j * 14 + 8, none⟩ = some (.int .u8 x.2.1.c) ∧ wr.cell? ⟨qb, j * 14 + 9, none⟩ = some (.int .u8 x.2.1.d) ∧ wr.cell? ⟨qb, j * 14 + 10, none⟩ = some (.int .u8 x.2.1.e) ∧ wr.cell? ⟨qb, j * 14 + 11, none⟩ = some (.int .u8 x.2.1.f) ∧ wr.cell? ⟨qb, j * 14 + 12, none⟩ = some (.int .i64 x.2.2.1) ∧ wr.cell? ⟨qb, j * 14 + 13, none⟩ = some (.string (B x.2.2.2)) := ⟨cb wr hF 0 _ rfl, cb wr hF 1 _ rfl, cb wr hF 2 _ rfl, cb wr hF 3 _ rfl, cb wr hF 4 _ rfl, cb wr hF 5 _ rfl, cb wr hF 6 _ rfl, cb wr hF 7 _ rfl, cb wr hF 8 _ rfl, cb wr hF 9 _ rfl, cb wr hF 10 _ rfl, cb wr hF 11 _ rfl, cb wr hF 12 _ rfl, cb wr hF 13 _ rfl⟩
      have heq := fun W => et_eq x W
      have HF := Lib.hid hF
      clear ca cb hx hqa hqb hF
      go_wp2_with fail
      go_quiet (fail)
      have HF2 := Lib.hid (HF.out.drewN nq)
      clear y0 y1 y2 y3 y4 y5 y6 y7 y8 y9 y10 y11 y12 y13 z0 z1 z2 z3 z4 z5 z6 z7 z8 z9 z10 z11 z12 z13 heq
      go_wp2_with fail
      go_roundw
      case rel => exact ⟨j + 1, by omega, by go_num, HF2.out⟩
      case measure => (simp [intOf]) <;> omega
    · obtain rfl : j = l.length := by omega
      have HF := Lib.hid hF
      clear hF
      go_wp2_with fail
      go_ret
      exact ⟨rfl, HF.out⟩
set_option maxRecDepth 100000 in
set_option maxHeartbeats 8000000 in
theorem et_copy (l : List (Mc × Mc × Int × List UInt8)) (A : Option Addr) (c : Nat) (h : w.ownsRow 0 113 14 (.slice A l.length c) l.length (rowF etF l)) (hl : l.length ≤ 3000) :
    Calls Tryz.prog 210 #[.slice A l.length c] w fun e w' => ∃ B d, e = .returned (.slice B l.length d) ∧ w'.ownsRow w.heap.size 113 14 (.slice B l.length d) l.length (rowF etF l) ∧ Fr [] w w' := by
  obtain ⟨i0, hi, hz0, hz1, hz2⟩ := info_parts info_et
  go_enter Tryz.func210, Tryz.ntmps210
  go_wp2_with (at_builtin; refine wpList_append_any _ rfl _ _ 116 rfl w.heap.size 113 i0 (.agg #[.int .u8 0, .int .u8 0, .int .u8 0, .int .u8 0, .int .u8 0, .int .u8 0, .int .u8 0, .int .u8 0, .int .u8 0, .int .u8 0, .int .u8 0, .int .u8 0, .int .i64 0, .string ⟨#[]⟩]) 14 40 Tryz.underlying116 hi hz0 hz1 hz2 rfl (by decide) _ 0 [] rfl (World.ownsRow_nil _ _ _ _) w.heap.size A l.length c (rowF etF l) rfl (Reads.of_own h) (rowF_one' etF_one l) ?c3 ?c4 ?c5 ?_)
  case c3 => unfold maxLen; omega
  case c4 => omega
  case c5 => exact Nat.le_refl _
  intro v1 w1 hown1 hgr1 _
  have hF1 := (Fr.refl [] w).grown hgr1 (fun q hq => by cases hq)
  (try rw [Nat.zero_add, List.nil_append] at hown1)
  obtain ⟨B, d, rfl⟩ := rown_slice hown1
  have HO := Lib.hid hown1
  clear hgr1 h hown1
  go_wp2_with fail
  go_ret
  exact ⟨B, d, rfl, HO.out, hF1⟩
set_option maxRecDepth 100000 in
set_option maxHeartbeats 8000000 in
theorem et_mark (i fr n : Nat) (hi250 : i ≤ 250) (hfr : fr + n ≤ 3000) :
    Calls Tryz.prog 271 #[.int .i64 i, .int .i64 fr, .int .i64 n] w fun e w' => ∃ A c, e = .returned (.slice A n c) ∧ w'.ownsRow w.heap.size 113 14 (.slice A n c) n (rowF etF (mks etM i fr n)) ∧ Fr [] w w' := by
  obtain ⟨i0, hi, hz0, hz1, hz2⟩ := info_parts info_et
  have hi1 : (i : Int) ≤ 250 := by omega
  have hf1 : (fr : Int) + n ≤ 3000 := by omega
  go_enter Tryz.func271, Tryz.ntmps271
  go_wp2_with fail
  go_loopw [7, 8] (fun ov kv wr => ∃ m p : Nat, m ≤ n ∧ fr + m = p ∧ kv = .int .i64 p ∧ wr.ownsRow w.heap.size 113 14 ov m (rowF etF (mks etM i fr m)) ∧ Fr [] w wr) (fun _ kv _ => fr + n - (intOf kv).toNat)
  case atStart => exact ⟨0, fr, Nat.zero_le _, rfl, rfl, World.ownsRow_nil _ _ _ _, Fr.refl _ _⟩
  case round =>
    obtain ⟨m, p, hm, hp, rfl, hO, hF⟩ := hrel
    have hp1 : (p : Int) ≤ 3000 := by omega
    have hsz := hF.size
    have HM : Hid (m ≤ n ∧ fr + m = p ∧ m ≤ 3000) := Lib.hid ⟨hm, hp, by omega⟩
    clear hm hp
    by_cases hml : m < n
    · have hlt : (p : Int) < (fr : Int) + n := by have := HM.out; omega
      have HNM := Lib.hid fun W => name_any (w := W) i p (by omega) (by omega)
      obtain ⟨A, c, rfl⟩ := rown_slice hO
      have HML := Lib.hid hml
      clear hml
      go_wp2_with (first
        | (go_at_call 319; refine (HNM.out _).mono ?_; rintro e wn ⟨rfl, hFn⟩; have hOn := rown_frS hO hFn (by simp); have hsn := (hF.trans hFn).size; have hF' := (hF.trans hFn).alloc (.cells #[.int .u8 0, .int .u8 0, .int .u8 0, .int .u8 0, .int .u8 0, .int .u8 0, .int .u8 0, .int .u8 0, .int .u8 0, .int .u8 0, .int .u8 0, .int .u8 0, .int .i64 (-1 - (i : Int)), .string (B (nmB i p))] 113 (0, 0)))
        | (at_builtin; refine wpList_append_own _ rfl _ _ 116 rfl w.heap.size 113 i0 (.agg #[.int .u8 0, .int .u8 0, .int .u8 0, .int .u8 0, .int .u8 0, .int .u8 0, .int .u8 0, .int .u8 0, .int .u8 0, .int .u8 0, .int .u8 0, .int .u8 0, .int .i64 0, .string ⟨#[]⟩]) 14 40 Tryz.underlying116 hi hz0 hz1 hz2 rfl (by decide) (.slice A m c) m (rowF etF (mks etM i fr m)) rfl (hOn.alloc _) ⟨wn.heap.size, 0, none⟩ 1 1 [.int .u8 0, .int .u8 0, .int .u8 0, .int .u8 0, .int .u8 0, .int .u8 0, .int .u8 0, .int .u8 0, .int .u8 0, .int .u8 0, .int .u8 0, .int .u8 0, .int .i64 (-1 - (i : Int)), .string (B (nmB i p))] rfl rfl ?d1 ?d2 ?d3 ?d4 ?d5 ?_))
      case d1 => exact new_cells _ [.int .u8 0, .int .u8 0, .int .u8 0, .int .u8 0, .int .u8 0, .int .u8 0, .int .u8 0, .int .u8 0, .int .u8 0, .int .u8 0, .int .u8 0, .int .u8 0, .int .i64 (-1 - (i : Int)), .string (B (nmB i p))] 113
      case d2 => simp [Value.oneCell']
      case d3 => have := HM.out; unfold maxLen; omega
      case d4 => have := HM.out; omega
      case d5 => simp; omega
      intro v2 w2 hown2 hgr2 _
      have hF2 := hF'.grown hgr2 (fun q hq => own_new hO q hq)
      have HO2 : Hid (w2.ownsRow w.heap.size 113 14 v2 (m + 1) (rowF etF (mks etM i fr (m + 1)))) := Lib.hid (by
        rw [mks_succ, rowF_append, rowF_one, HM.out.2.1]
        exact hown2)
      have HF2 := Lib.hid hF2
      clear hO hF hF' hown2 hgr2 hF2 hOn hFn hsn
      go_wp2_with fail
      go_roundw
      case rel => exact ⟨m + 1, p + 1, by have := HML.out; omega, by have := HM.out; omega, by go_num, HO2.out, HF2.out⟩
      case measure => (simp [intOf]) <;> (have := HM.out; omega)
    · have hlt : ¬ (p : Int) < (fr : Int) + n := by have := HM.out; omega
      obtain rfl : m = n := by have := HM.out; omega
      obtain ⟨A, c, rfl⟩ := rown_slice hO
      have HO := Lib.hid (And.intro hO hF)
      clear hO hF
      go_wp2_with fail
      go_ret
      exact ⟨A, c, rfl, HO.out.1, HO.out.2⟩
end
section
variable {w : World} {b : Nat} {Fb : Nat → Value} {k : List (Bl (Mc × Mc × Int × List UInt8))} {ws : List Value}
set_option maxRecDepth 100000 in
set_option maxHeartbeats 8000000 in
theorem et_still (hB : Blk w b (bkC Fb) 52) (h : etKd w (Fb 4) k) (hw : etWs w (Fb 5) k ws) (hk : k.length ≤ 250) :
    Calls Tryz.prog 113 #[.pointer (some ⟨b, 0, none⟩)] w fun e w' => e = .returned (.bool true) ∧ Fr [] w w' := by
  obtain ⟨AL, cl0, hAL⟩ := rown_slice h.row
  have hcp := h.row
  rw [hAL] at hcp
  have hcp2 := (rown_caps hcp).1
  have HBC : Hid (∀ W, Fr [] w W → W.cell? ⟨b, 4, none⟩ = some (.slice AL k.length cl0)) := Lib.hid fun W hW => by rw [← hAL]; exact (hW.blk hB (by simp)).c 4 _ rfl
  have HB := Lib.hid hB
  have H := Lib.hid h
  have HW := Lib.hid hw
  have HAL := Lib.hid hAL
  have hkI : (k.length : Int) ≤ 250 := by omega
  clear h hw hB hcp hAL
  go_enter Tryz.func113, Tryz.ntmps113
  go_wp2_with fail
  go_loopw [3] (fun iv wr => ∃ j : Nat, j ≤ k.length ∧ iv = .int .i64 j ∧ Fr [] w wr) (fun iv _ => k.length - (intOf iv).toNat)
  case atStart => exact ⟨0, Nat.zero_le _, rfl, Fr.refl _ _⟩
  case round =>
    obtain ⟨j, hj, rfl, hF⟩ := hrel
    have HF := Lib.hid hF
    have g0 := HBC.out _ hF
    clear hF
    by_cases hjl : j < k.length
    · obtain ⟨l, hl⟩ : ∃ l, k[j]? = some l := ⟨_, List.getElem?_eq_getElem hjl⟩
      have hwl : j < ws.length := by rw [HW.out.len]; exact hjl
      obtain ⟨u, hu⟩ : ∃ u, ws[j]? = some u := ⟨_, List.getElem?_eq_getElem hwl⟩
      obtain ⟨ql, cl, hL, hql, hcl⟩ := H.out.at_ hl
      obtain ⟨qw, cw, hWv, hqw, hcw⟩ := HW.out.at_ hu
      obtain ⟨A, c, hv, hv1, hv2, hr1⟩ := rat_of etF_len (H.out.ls l (List.mem_of_getElem? hl))
      obtain ⟨A2, c2, hv3, hv4, hv5, hr2⟩ := rat_of etF_len (HW.out.ls j l u hl hu)
      have hsm := H.out.sm l (List.mem_of_getElem? hl)
      have SA := Lib.hid fun W (hW : Fr [] w W) => et_same (w := W) l.xs A A2 c c2 (hr1.fr0 hW) (hr2.fr0 hW) (by omega)
      obtain ⟨e1, e2⟩ : AL = some ⟨ql, 0, none⟩ ∧ cl0 = cl := by
        have := HAL.out
        rw [hL] at this
        injection this with a1 a2 a3
        exact ⟨a1.symm, a3.symm⟩
      subst e1 e2
      have HX : Hid (∀ W, Fr [] w W → (fun W => (W.cell? ⟨b, 4, none⟩ = some (.slice (some ⟨ql, 0, none⟩) k.length cl0) ∧ W.cell? ⟨ql, j, none⟩ = some (.slice A l.xs.length c) ∧ W.cell? ⟨b, 5, none⟩ = some (.slice (some ⟨qw, 0, none⟩) ws.length cw) ∧ W.cell? ⟨qw, j, none⟩ = some (.slice A2 l.xs.length c2)) ∧ Fr [] w W) W) := Lib.hid fun W hW => ⟨⟨by rw [← hL]; exact (hW.blk HB.out (by simp)).c 4 _ rfl, by rw [← hv]; exact hcl W hW, by rw [← hWv]; exact (hW.blk HB.out (by simp)).c 5 _ rfl, by rw [← hv3]; exact hcw W hW⟩, hW⟩
      have hG0 := HX.out _ HF.out.drew
      dsimp only at hG0
      have hwI : (j : Int) < ws.length := by omega
      clear hl hu hql hcl hqw hcw hr1 hr2 hL hWv hv hv3
      go_wp2_with fail
      refine wp_region_held_drew (S := (fun W => (W.cell? ⟨b, 4, none⟩ = some (.slice (some ⟨ql, 0, none⟩) k.length cl0) ∧ W.cell? ⟨ql, j, none⟩ = some (.slice A l.xs.length c) ∧ W.cell? ⟨b, 5, none⟩ = some (.slice (some ⟨qw, 0, none⟩) ws.length cw) ∧ W.cell? ⟨qw, j, none⟩ = some (.slice A2 l.xs.length c2)) ∧ Fr [] w W)) (by kernel_rfl) ?_ (fun hHeld => ?_)
      · (try dsimp only); exact hG0
      refine take_yes 0 13 rfl rfl (by kernel_rfl) (by kernel_rfl) (by kernel_rfl) (fun _ _ _ h => h) (by rfl) (by assumption) (v := ?_) ?_ ?_
      rotate_left
      · intro w hSw; (try dsimp only at hSw); go_simp; (try with_reducible rfl)
      try simp only [Act.put, List.setIfInBounds_toArray, List.set_cons_zero, List.set_cons_succ]
      refine take_yes 1 14 rfl rfl (by kernel_rfl) (by kernel_rfl) (by kernel_rfl) (fun _ _ _ h => h) (by rfl) (by assumption) (v := ?_) ?_ ?_
      rotate_left
      · intro w hSw; (try dsimp only at hSw); go_simp; (try with_reducible rfl)
      try simp only [Act.put, List.setIfInBounds_toArray, List.set_cons_zero, List.set_cons_succ]
      refine take_yes 2 15 rfl rfl (by kernel_rfl) (by kernel_rfl) (by kernel_rfl) (fun _ _ _ h => h) (by rfl) (by assumption) (v := ?_) ?_ ?_
      rotate_left
      · intro w hSw; (try dsimp only at hSw); go_simp; (try with_reducible rfl)
      try simp only [Act.put, List.setIfInBounds_toArray, List.set_cons_zero, List.set_cons_succ]
      refine take_yes 3 16 rfl rfl (by kernel_rfl) (by kernel_rfl) (by kernel_rfl) (fun _ _ _ h => h) (by rfl) (by assumption) (v := ?_) ?_ ?_
      rotate_left
      · intro w hSw; (try dsimp only at hSw); go_simp; (try with_reducible rfl)
      try simp only [Act.put, List.setIfInBounds_toArray, List.set_cons_zero, List.set_cons_succ]
      refine take_yes 4 17 rfl rfl (by kernel_rfl) (by kernel_rfl) (by kernel_rfl) (fun _ _ _ h => h) (by rfl) (by assumption) (v := ?_) ?_ ?_
      rotate_left
      · intro w hSw; (try dsimp only at hSw); go_simp; (try with_reducible rfl)
      try simp only [Act.put, List.setIfInBounds_toArray, List.set_cons_zero, List.set_cons_succ]
      refine take_yes 5 18 rfl rfl (by kernel_rfl) (by kernel_rfl) (by kernel_rfl) (fun _ _ _ h => h) (by rfl) (by assumption) (v := ?_) ?_ ?_
      rotate_left
      · intro w hSw; (try dsimp only at hSw); go_simp; (try with_reducible rfl)
      try simp only [Act.put, List.setIfInBounds_toArray, List.set_cons_zero, List.set_cons_succ]
      refine take_yes 6 19 rfl rfl (by kernel_rfl) (by kernel_rfl) (by kernel_rfl) (fun _ _ _ h => h) (by rfl) (by assumption) (v := ?_) ?_ ?_
      rotate_left
      · intro w hSw; (try dsimp only at hSw); go_simp; (try with_reducible rfl)
      try simp only [Act.put, List.setIfInBounds_toArray, List.set_cons_zero, List.set_cons_succ]
      refine take_yes 7 20 rfl rfl (by kernel_rfl) (by kernel_rfl) (by kernel_rfl) (fun _ _ _ h => h) (by rfl) (by assumption) (v := ?_) ?_ ?_
      rotate_left
      · intro w hSw; (try dsimp only at hSw); go_simp; (try with_reducible rfl)
      try simp only [Act.put, List.setIfInBounds_toArray, List.set_cons_zero, List.set_cons_succ]
      refine take_yes 8 21 rfl rfl (by kernel_rfl) (by kernel_rfl) (by kernel_rfl) (fun _ _ _ h => h) (by rfl) (by assumption) (v := ?_) ?_ ?_
      rotate_left
      · intro w hSw; (try dsimp only at hSw); go_simp; (try with_reducible rfl)
      try simp only [Act.put, List.setIfInBounds_toArray, List.set_cons_zero, List.set_cons_succ]
      refine take_yes 9 22 rfl rfl (by kernel_rfl) (by kernel_rfl) (by kernel_rfl) (fun _ _ _ h => h) (by rfl) (by assumption) (v := ?_) ?_ ?_
      rotate_left
      · intro w hSw; (try dsimp only at hSw); go_simp; (try with_reducible rfl)
      try simp only [Act.put, List.setIfInBounds_toArray, List.set_cons_zero, List.set_cons_succ]
      refine take_yes 10 23 rfl rfl (by kernel_rfl) (by kernel_rfl) (by kernel_rfl) (fun _ _ _ h => h) (by rfl) (by assumption) (v := ?_) ?_ ?_
      rotate_left
      · intro w hSw; (try dsimp only at hSw); go_simp; (try with_reducible rfl)
      try simp only [Act.put, List.setIfInBounds_toArray, List.set_cons_zero, List.set_cons_succ]
      refine take_yes 11 24 rfl rfl (by kernel_rfl) (by kernel_rfl) (by kernel_rfl) (fun _ _ _ h => h) (by rfl) (by assumption) (v := ?_) ?_ ?_
      rotate_left
      · intro w hSw; (try dsimp only at hSw); go_simp; (try with_reducible rfl)
      try simp only [Act.put, List.setIfInBounds_toArray, List.set_cons_zero, List.set_cons_succ]
      refine take_yes 12 25 rfl rfl (by kernel_rfl) (by kernel_rfl) (by kernel_rfl) (fun _ _ _ h => h) (by rfl) (by assumption) (v := ?_) ?_ ?_
      rotate_left
      · intro w hSw; (try dsimp only at hSw); go_simp; (try with_reducible rfl)
      try simp only [Act.put, List.setIfInBounds_toArray, List.set_cons_zero, List.set_cons_succ]
      refine take_yes 13 26 rfl rfl (by kernel_rfl) (by kernel_rfl) (by kernel_rfl) (fun _ _ _ h => h) (by rfl) (by assumption) (v := ?_) ?_ ?_
      rotate_left
      · intro w hSw; (try dsimp only at hSw); go_simp; (try with_reducible rfl)
      try simp only [Act.put, List.setIfInBounds_toArray, List.set_cons_zero, List.set_cons_succ]
      refine wpAnyH_ready (rs := [14]) (by kernel_rfl) (by simp) ?_
      refine AllReadyH.cons (o := _) rfl (fun K hK => ?_) AllReadyH.nil
      go_simp
      refine (SA.out _ hHeld.2).mono ?_
      rintro e w2 ⟨rfl, hFx⟩
      have hF2 := hHeld.2.trans hFx
      (try go_wp2_with fail)
      refine hK.out _ _ ?_ (fun hHeld => ?_)
      · (try dsimp only); exact HX.out _ hF2
      clear hK K
      try simp only [Act.put, List.setIfInBounds_toArray, List.set_cons_zero, List.set_cons_succ]
      refine take_yes 15 28 rfl rfl (by kernel_rfl) (by kernel_rfl) (by kernel_rfl) (fun _ _ _ h => h) (by rfl) (by assumption) (v := ?_) ?_ ?_
      rotate_left
      · intro w hSw; (try dsimp only at hSw); go_simp; (try with_reducible rfl)
      try simp only [Act.put, List.setIfInBounds_toArray, List.set_cons_zero, List.set_cons_succ]
      refine wpAnyH_done (by kernel_rfl) ?_ _
      have HF2 := Lib.hid hF2
      clear hHeld hG0 HX SA hF2 hFx
      go_wp2_with fail
      go_roundw
      case rel => exact ⟨j + 1, by omega, by go_num, HF2.out⟩
      case measure => (simp [intOf]) <;> omega
    · obtain rfl : j = k.length := by omega
      go_wp2_with fail
      go_ret
      exact ⟨rfl, HF.out⟩
set_option maxRecDepth 100000 in
set_option maxHeartbeats 8000000 in
theorem et_add (hB : Blk w b (bkC Fb) 52) (h : KB 113 116 14 etF w (Fb 4) (Fb 5) k) (A : Option Addr) (c : Nat) (l : List (Mc × Mc × Int × List UInt8)) (hx : w.ownsRow 0 113 14 (.slice A l.length c) l.length (rowF etF l)) (hl : l.length ≤ 2000) (hap : ∀ u, u ∈ k → ∀ q, u.v.ownBlock = some q → (Value.slice A l.length c).ownBlock ≠ some q) :
    Calls Tryz.prog 62 #[.pointer (some ⟨b, 0, none⟩), .slice A l.length c] w fun e w' => e = .returned (.tuple #[]) ∧ AddP 113 116 14 etF 52 w b Fb 4 5 k ⟨.slice A l.length c, l⟩ w' := by
  obtain ⟨j0, hi, hz0, hz1, hz2⟩ := info_parts info_etS
  obtain ⟨ws, hK, hW, hk, hd⟩ := h
  obtain ⟨AL, cl0, hAL⟩ := rown_slice hK.row
  obtain ⟨AW, cw0, hAW⟩ := rown_slice hW.row
  have HJV := Lib.hid hAW
  have c0 : w.cell? ⟨b, 4, none⟩ = some (.slice AL k.length cl0) := by rw [← hAL]; exact hB.c 4 _ rfl
  by_cases hlt : k.length < 250
  · have hltI : (k.length : Int) < 250 := by omega
    have f0 := hB.fz 4
    have HB := Lib.hid hB
    have HKK := Lib.hid hK
    have HWW := Lib.hid hW
    have HD := Lib.hid hd
    have HX := Lib.hid hx
    have HAP := Lib.hid hap
    have HLT := Lib.hid hlt
    have HL := Lib.hid hl
    have hrow := hK.row
    rw [hAL] at hrow
    have HAL := Lib.hid hAL
    clear hB hK hW hd hx hap hlt hk hAW
    go_enter Tryz.func62, Tryz.ntmps62
    go_wp2_with (at_builtin; refine wpList_append_any _ rfl _ _ 35 rfl 0 116 j0 (.slice none 0 0) 1 24 Tryz.underlying35 hi hz0 hz1 hz2 rfl (by decide) (.slice AL k.length cl0) k.length (k.map (·.v)) rfl (hrow.alloc _) (w.heap.size + 1) (some ⟨w.heap.size, 0, none⟩) 1 1 [.slice A l.length c] rfl ?d1 ?d2 ?d3 ?d4 ?d5 ?_)
    case d1 =>
      have := Reads.of_own (World.ownsRow_lit (base := 0) (e := 116) (size := 1) w #[.slice A l.length c] 1 (Nat.zero_le _) (by unfold maxLen; omega) rfl)
      simpa using this
    case d2 => simp [Value.oneCell']
    case d3 => have := HLT.out; unfold maxLen; omega
    case d4 => have := HLT.out; omega
    case d5 => exact Nat.zero_le _
    intro V1 w1 hO1 hg1 hr1
    obtain ⟨A1, c1, rfl⟩ := rown_slice hO1
    have hFa : Fr (Fb 4).ownBlock.toList w w1 := by
      rw [HAL.out]
      exact ((Fr.refl _ w).alloc _).trans (Fr.of_row hg1)
    have hB1 : Blk w1 b (bkC Fb) 52 := hFa.blk HB.out fun hm => by
      obtain ⟨cur, hc⟩ := rown_blk HKK.out.row b (by simpa using hm)
      exact HB.out.neT hc (by decide) rfl
    have hb1 : ∀ q, (Value.slice A1 (k.length + 1) c1).ownBlock = some q → (Fb 4).ownBlock = some q ∨ w.heap.size ≤ q := fun q hq => by
      rcases hr1 with h | h
      · left; rw [HAL.out, ← h]; exact hq
      · right
        rw [h] at hq
        have hq2 := (Option.some.inj hq)
        (try simp at hq2)
        omega
    have x0 : w1.cell? ⟨b, 4, none⟩ = some (Fb 4) := hB1.c 4 _ rfl
    have x1 := hB1.fz 4
    have hF2 : Fr [b] w1 (w1.setCell ⟨b, 4, none⟩ (Value.slice A1 (k.length + 1) c1)) := (Fr.refl [b] w1).setCell (p := ⟨b, 4, none⟩) (by simp) (Value.slice A1 (k.length + 1) c1)
    have hB2 : Blk (w1.setCell ⟨b, 4, none⟩ (Value.slice A1 (k.length + 1) c1)) b (bkC (upd Fb 4 (Value.slice A1 (k.length + 1) c1))) 52 := by
      have := hB1.set 4 (Value.slice A1 (k.length + 1) c1)
      rwa [bkC_upd _ _ _ (by decide)] at this
    have HO1 := Lib.hid (And.intro hO1 (And.intro hFa hb1))
    clear hO1 hg1 hr1 hB1 hb1 hrow c0 f0
    go_wp2_with fail
    obtain ⟨W2, hW2⟩ : ∃ W, w1.setCell ⟨b, 4, none⟩ (Value.slice A1 (k.length + 1) c1) = W := ⟨_, rfl⟩
    rw [hW2] at hF2 hB2 ⊢
    have hFd : Fr (b :: ((Fb 4).ownBlock.toList ++ (Fb 5).ownBlock.toList)) w W2.drew := ((HO1.out.2.1.mono (fun x hx => List.mem_cons_of_mem _ (List.mem_append_left _ hx))).trans (hF2.mono (by simp))).drew
    have HB2 := Lib.hid hB2
    have HF2 := Lib.hid hF2
    have HWR : Hid (W2.ownsRow 0 116 1 (Fb 5) ws.length ws) := Lib.hid (by
      have a1 := rown_frS HWW.out.row HO1.out.2.1 (fun q hq hm => HD.out q (by simpa using hm) hq)
      refine rown_frS a1 HF2.out fun q hq hm => ?_
      simp at hm
      subst hm
      obtain ⟨cur, hc⟩ := rown_blk HWW.out.row q hq
      exact HB.out.neT hc (by decide) rfl)
    have HLW : Hid (ws.length < 250) := Lib.hid (by rw [HWW.out.len]; exact HLT.out)
    have CP : Hid (∀ W, Fr (b :: ((Fb 4).ownBlock.toList ++ (Fb 5).ownBlock.toList)) w W → Calls Tryz.prog 210 #[.slice A l.length c] W fun e w' => ∃ B d, e = .returned (.slice B l.length d) ∧ w'.ownsRow W.heap.size 113 14 (.slice B l.length d) l.length (rowF etF l) ∧ Fr [] W w') := Lib.hid fun W hW => et_copy l A c (rown_off HX.out hW fun q hq cur U hb => by
      rcases List.mem_cons.1 hq with rfl | hq
      · intro e
        subst e
        exact HB.out.neT hb (by decide) rfl
      · rcases List.mem_append.1 hq with hq | hq
        · obtain ⟨cur', hc⟩ := rown_blk HKK.out.row q (by simpa using hq)
          intro e
          subst e
          exact hb.neT hc (by decide) rfl
        · obtain ⟨cur', hc⟩ := rown_blk HWW.out.row q (by simpa using hq)
          intro e
          subst e
          exact hb.neT hc (by decide) rfl) (by have := HL.out; omega)
    have HCL : Hid (∀ v V9 v9 W4 B d, Fr [] W2 v → v.ownsRow 0 113 14 (.slice B l.length d) l.length (rowF etF l) → v9.ownsRow 0 116 1 V9 (ws.length + 1) (ws ++ [.slice B l.length d]) → Fr (Fb 5).ownBlock.toList v v9 → (V9.ownBlock = (Fb 5).ownBlock ∨ V9.ownBlock = some v.heap.size) → Fr [b] v9 W4 → Blk W4 b (bkC (upd (upd Fb 4 (Value.slice A1 (k.length + 1) c1)) 5 V9)) 52 → AddP 113 116 14 etF 52 w b Fb 4 5 k ⟨.slice A l.length c, l⟩ W4) := Lib.hid fun v V9 v9 W4 B d z1 z2 z3 z4 z5 z6 z7 =>
      add_close (by decide) (by decide) (by decide) (by decide) (by decide) (by decide) HB.out HKK.out HWW.out HLT.out HD.out HX.out HL.out HAP.out HO1.out.1 HO1.out.2.1 HO1.out.2.2 HF2.out HB2.out z1 z2 z3 z4 z5 z6 z7
    clear hF2 hB2 hW2 x0 x1 hFa
    refine wp_region_held_drew (S := (fun W => Fr (b :: ((Fb 4).ownBlock.toList ++ (Fb 5).ownBlock.toList)) w W)) (by kernel_rfl) ?_ (fun hHeld => ?_)
    · (try dsimp only); exact hFd
    have hZ : Fr [] W2 W2.drew := (Fr.refl _ _).drew
    obtain ⟨v0, hv⟩ : ∃ X, W2.drew = X := ⟨_, rfl⟩
    rw [hv] at hHeld hZ ⊢
    clear hv hFd
    refine take_yes 0 20 rfl rfl (by kernel_rfl) (by kernel_rfl) (by kernel_rfl) (fun _ _ _ h => h) (by rfl) (by assumption) (v := ?_) ?_ ?_
    rotate_left
    · intro w hSw; (try dsimp only at hSw); go_simp; (try with_reducible rfl)
    try simp only [Act.put, List.setIfInBounds_toArray, List.set_cons_zero, List.set_cons_succ]
    refine take_yes 1 21 rfl rfl (by kernel_rfl) (by kernel_rfl) (by kernel_rfl) (fun _ _ _ h => h) (by rfl) (by assumption) (v := ?_) ?_ ?_
    rotate_left
    · intro w hSw; (try dsimp only at hSw); go_simp; (try with_reducible rfl)
    try simp only [Act.put, List.setIfInBounds_toArray, List.set_cons_zero, List.set_cons_succ]
    refine take_yes 2 22 rfl rfl (by kernel_rfl) (by kernel_rfl) (by kernel_rfl) (fun _ _ _ h => h) (by rfl) (by assumption) (v := ?_) ?_ ?_
    rotate_left
    · intro w hSw; (try dsimp only at hSw); go_simp; (try with_reducible rfl)
    try simp only [Act.put, List.setIfInBounds_toArray, List.set_cons_zero, List.set_cons_succ]
    refine take_yes 3 23 rfl rfl (by kernel_rfl) (by kernel_rfl) (by kernel_rfl) (fun _ _ _ h => h) (by rfl) (by assumption) (v := ?_) ?_ ?_
    rotate_left
    · intro w hSw; (try dsimp only at hSw); go_simp; (try with_reducible rfl)
    try simp only [Act.put, List.setIfInBounds_toArray, List.set_cons_zero, List.set_cons_succ]
    refine take_yes 5 25 rfl rfl (by kernel_rfl) (by kernel_rfl) (by kernel_rfl) (fun _ _ _ h => h) (by rfl) (by assumption) (v := ?_) ?_ ?_
    rotate_left
    · intro w hSw; (try dsimp only at hSw); go_simp; (try with_reducible rfl)
    try simp only [Act.put, List.setIfInBounds_toArray, List.set_cons_zero, List.set_cons_succ]
    refine wpAnyH_ready (rs := [4, 6]) (by kernel_rfl) (by simp) ?_
    refine AllReadyH.cons (o := _) rfl (fun K hK => ?_) ?_
    · have c2 : v0.cell? ⟨b, 5, none⟩ = some (Fb 5) := (HB2.out.fr0b hZ).c 5 _ rfl
      go_simp
      (try go_wp2_with fail)
      refine hK.out _ _ ?_ (fun hHeld1 => ?_)
      · (try dsimp only); exact hHeld
      clear hK K c2 hHeld1
      try simp only [Act.put, List.setIfInBounds_toArray, List.set_cons_zero, List.set_cons_succ]
      refine wpAnyH_ready (rs := [6]) (by kernel_rfl) (by simp) ?_
      refine AllReadyH.cons (o := _) rfl (fun K hK => ?_) AllReadyH.nil
      go_simp
      refine (CP.out v0 hHeld).mono ?_
      rintro e v1 ⟨B, d, rfl, hu0, hFx⟩
      (try go_wp2_with fail)
      have hu := rown_base hu0 (Nat.zero_le _)
      replace hZ := hZ.trans hFx
      replace hHeld := hHeld.trans (hFx.mono (by simp))
      refine hK.out _ _ ?_ (fun hHeld1 => ?_)
      · (try dsimp only); exact hHeld
      clear hK K hHeld1 hFx hu0
      try simp only [Act.put, List.setIfInBounds_toArray, List.set_cons_zero, List.set_cons_succ]
      refine wpAnyH_ready (rs := [7]) (by kernel_rfl) (by simp) ?_
      refine AllReadyH.cons (o := _) rfl (fun K hK => ?_) AllReadyH.nil
      go_simp
      (try go_wp2_with fail)
      have hFx : Fr [] v1 (v1.alloc (.cells #[.slice B l.length d] 116 (0, 0))) := (Fr.refl _ _).alloc _
      have hOwnX := World.ownsRow_lit (base := 0) (e := 116) (size := 1) v1 #[.slice B l.length d] 1 (Nat.zero_le _) (by unfold maxLen; omega) rfl
      obtain ⟨v2, hv⟩ : ∃ X, v1.alloc (.cells #[.slice B l.length d] 116 (0, 0)) = X := ⟨_, rfl⟩
      obtain ⟨qx, hqx⟩ : ∃ X, v1.heap.size = X := ⟨_, rfl⟩
      rw [hv] at hFx hOwnX ⊢
      rw [hqx] at hOwnX ⊢
      replace hZ := hZ.trans hFx
      replace hu := rown_frS hu hFx (by simp)
      replace hHeld := hHeld.trans (hFx.mono (by simp))
      refine hK.out _ _ ?_ (fun hHeld1 => ?_)
      · (try dsimp only); exact hHeld
      clear hK K hHeld1 hFx hv hqx
      try simp only [Act.put, List.setIfInBounds_toArray, List.set_cons_zero, List.set_cons_succ]
      refine wpAnyH_ready (rs := [8]) (by kernel_rfl) (by simp) ?_
      refine AllReadyH.cons (o := _) rfl (fun K hK => ?_) AllReadyH.nil
      rw [if_pos (by rfl)]
      (try simp only [List.getElem_toArray, List.getElem_cons_succ, List.getElem_cons_zero])
      have hWr : v2.ownsRow 0 116 1 (Fb 5) ws.length ws := rown_frS (HWR.out) hZ (by simp)
      refine wp_app _ 28 rfl (.tmp 24) (.tmp 27) 35 rfl 0 116 j0 (.slice none 0 0) 1 24 Tryz.underlying35 hi hz0 hz1 hz2 rfl (by decide) _ ws.length ws (by first | (go_simp; done) | (go_simp; exact HJV.out.symm)) hWr _ _ _ _ _ (by rfl) (Reads.of_own hOwnX) (by simp [Value.oneCell']) ?_ ?_ (Nat.zero_le _) ?_
      · have := HLW.out; unfold maxLen; omega
      · have := HLW.out; omega
      intro V9 v3 hownB hgrB hrowB
      obtain ⟨A9, c9, rfl⟩ := rown_slice hownB
      have hF9 := Fr.of_row hgrB
      have hb9x : Blk v3 b (bkC (upd Fb 4 (Value.slice A1 (k.length + 1) c1))) 52 := hF9.blk (HB2.out.fr0b hZ) (fun hm => by
  obtain ⟨cur, hc⟩ := rown_blk hWr b (by simpa using hm)
  (try exact (HB2.out.fr0b hZ).neT hc (by decide) rfl))
      have hHeld2 : Fr (b :: ((Fb 4).ownBlock.toList ++ (Fb 5).ownBlock.toList)) w v3 := hHeld.trans (hF9.mono (fun x hx => List.mem_cons_of_mem _ (List.mem_append_right _ hx)))
      have HEND := Lib.hid (fun W4 h1 h2 => HCL.out v2 (.slice A9 (ws.length + 1) c9) v3 W4 B d hZ hu hownB hF9 hrowB h1 h2)
      clear hWr hOwnX hgrB hF9 hrowB
      refine hK.out _ _ ?_ (fun hHeld3 => ?_)
      · (try dsimp only); exact hHeld2
      clear hK K hHeld hHeld3
      try simp only [Act.put, List.setIfInBounds_toArray, List.set_cons_zero, List.set_cons_succ]
      refine take_yes 9 29 rfl rfl (by kernel_rfl) (by kernel_rfl) (by kernel_rfl) (fun _ _ _ h => h) (by rfl) (by assumption) (v := ?_) ?_ ?_
      rotate_left
      · intro w hSw; (try dsimp only at hSw); go_simp; (try with_reducible rfl)
      try simp only [Act.put, List.setIfInBounds_toArray, List.set_cons_zero, List.set_cons_succ]
      refine take_yes 10 30 rfl rfl (by kernel_rfl) (by kernel_rfl) (by kernel_rfl) (fun _ _ _ h => h) (by rfl) (by assumption) (v := ?_) ?_ ?_
      rotate_left
      · intro w hSw; (try dsimp only at hSw); go_simp; (try with_reducible rfl)
      try simp only [Act.put, List.setIfInBounds_toArray, List.set_cons_zero, List.set_cons_succ]
      have f9 := hb9x.fz 5
      have cj9 : v3.cell? ⟨b, 5, none⟩ = some (Fb 5) := hb9x.c 5 _ rfl
      refine wpAnyH_ready (rs := [11]) (by kernel_rfl) (by simp) ?_
      refine AllReadyH.cons (o := _) rfl (fun K hK => ?_) AllReadyH.nil
      go_simp
      (try go_wp2_with fail)
      have hF4 : Fr [b] v3 (v3.setCell ⟨b, 5, none⟩ (.slice A9 (ws.length + 1) c9)) := (Fr.refl [b] v3).setCell (p := ⟨b, 5, none⟩) (by simp) (.slice A9 (ws.length + 1) c9)
      have hB4 : Blk (v3.setCell ⟨b, 5, none⟩ (.slice A9 (ws.length + 1) c9)) b (bkC (upd (upd Fb 4 (Value.slice A1 (k.length + 1) c1)) 5 (.slice A9 (ws.length + 1) c9))) 52 := by
        have := hb9x.set 5 (.slice A9 (ws.length + 1) c9)
        rwa [bkC_upd _ _ _ (by decide)] at this
      have HZ9 := Lib.hid (HEND.out _ hF4 hB4)
      refine hK.out _ _ ?_ (fun hHeld1 => ?_)
      · (try dsimp only); exact hHeld2.trans (hF4.mono (by simp))
      clear hK K
      try simp only [Act.put, List.setIfInBounds_toArray, List.set_cons_zero, List.set_cons_succ]
      refine wpAnyH_done (by kernel_rfl) ?_ _
      clear hF4 hB4 HEND hb9x hHeld2 hHeld1 f9 cj9 hownB hu hZ
      go_wp2_with fail
      exact bodyPost_end (results_none rfl _ _ _) rfl ⟨rfl, HZ9.out⟩
    refine AllReadyH.cons (o := _) rfl (fun K hK => ?_) AllReadyH.nil
    go_simp
    refine (CP.out v0 hHeld).mono ?_
    rintro e v1 ⟨B, d, rfl, hu0, hFx⟩
    (try go_wp2_with fail)
    have hu := rown_base hu0 (Nat.zero_le _)
    replace hZ := hZ.trans hFx
    replace hHeld := hHeld.trans (hFx.mono (by simp))
    refine hK.out _ _ ?_ (fun hHeld1 => ?_)
    · (try dsimp only); exact hHeld
    clear hK K hHeld1 hFx hu0
    try simp only [Act.put, List.setIfInBounds_toArray, List.set_cons_zero, List.set_cons_succ]
    refine wpAnyH_ready (rs := [4, 7]) (by kernel_rfl) (by simp) ?_
    refine AllReadyH.cons (o := _) rfl (fun K hK => ?_) ?_
    · have c2 : v1.cell? ⟨b, 5, none⟩ = some (Fb 5) := (HB2.out.fr0b hZ).c 5 _ rfl
      go_simp
      (try go_wp2_with fail)
      refine hK.out _ _ ?_ (fun hHeld1 => ?_)
      · (try dsimp only); exact hHeld
      clear hK K c2 hHeld1
      try simp only [Act.put, List.setIfInBounds_toArray, List.set_cons_zero, List.set_cons_succ]
      refine wpAnyH_ready (rs := [7]) (by kernel_rfl) (by simp) ?_
      refine AllReadyH.cons (o := _) rfl (fun K hK => ?_) AllReadyH.nil
      go_simp
      (try go_wp2_with fail)
      have hFx : Fr [] v1 (v1.alloc (.cells #[.slice B l.length d] 116 (0, 0))) := (Fr.refl _ _).alloc _
      have hOwnX := World.ownsRow_lit (base := 0) (e := 116) (size := 1) v1 #[.slice B l.length d] 1 (Nat.zero_le _) (by unfold maxLen; omega) rfl
      obtain ⟨v2, hv⟩ : ∃ X, v1.alloc (.cells #[.slice B l.length d] 116 (0, 0)) = X := ⟨_, rfl⟩
      obtain ⟨qx, hqx⟩ : ∃ X, v1.heap.size = X := ⟨_, rfl⟩
      rw [hv] at hFx hOwnX ⊢
      rw [hqx] at hOwnX ⊢
      replace hZ := hZ.trans hFx
      replace hu := rown_frS hu hFx (by simp)
      replace hHeld := hHeld.trans (hFx.mono (by simp))
      refine hK.out _ _ ?_ (fun hHeld1 => ?_)
      · (try dsimp only); exact hHeld
      clear hK K hHeld1 hFx hv hqx
      try simp only [Act.put, List.setIfInBounds_toArray, List.set_cons_zero, List.set_cons_succ]
      refine wpAnyH_ready (rs := [8]) (by kernel_rfl) (by simp) ?_
      refine AllReadyH.cons (o := _) rfl (fun K hK => ?_) AllReadyH.nil
      rw [if_pos (by rfl)]
      (try simp only [List.getElem_toArray, List.getElem_cons_succ, List.getElem_cons_zero])
      have hWr : v2.ownsRow 0 116 1 (Fb 5) ws.length ws := rown_frS (HWR.out) hZ (by simp)
      refine wp_app _ 28 rfl (.tmp 24) (.tmp 27) 35 rfl 0 116 j0 (.slice none 0 0) 1 24 Tryz.underlying35 hi hz0 hz1 hz2 rfl (by decide) _ ws.length ws (by first | (go_simp; done) | (go_simp; exact HJV.out.symm)) hWr _ _ _ _ _ (by rfl) (Reads.of_own hOwnX) (by simp [Value.oneCell']) ?_ ?_ (Nat.zero_le _) ?_
      · have := HLW.out; unfold maxLen; omega
      · have := HLW.out; omega
      intro V9 v3 hownB hgrB hrowB
      obtain ⟨A9, c9, rfl⟩ := rown_slice hownB
      have hF9 := Fr.of_row hgrB
      have hb9x : Blk v3 b (bkC (upd Fb 4 (Value.slice A1 (k.length + 1) c1))) 52 := hF9.blk (HB2.out.fr0b hZ) (fun hm => by
  obtain ⟨cur, hc⟩ := rown_blk hWr b (by simpa using hm)
  (try exact (HB2.out.fr0b hZ).neT hc (by decide) rfl))
      have hHeld2 : Fr (b :: ((Fb 4).ownBlock.toList ++ (Fb 5).ownBlock.toList)) w v3 := hHeld.trans (hF9.mono (fun x hx => List.mem_cons_of_mem _ (List.mem_append_right _ hx)))
      have HEND := Lib.hid (fun W4 h1 h2 => HCL.out v2 (.slice A9 (ws.length + 1) c9) v3 W4 B d hZ hu hownB hF9 hrowB h1 h2)
      clear hWr hOwnX hgrB hF9 hrowB
      refine hK.out _ _ ?_ (fun hHeld3 => ?_)
      · (try dsimp only); exact hHeld2
      clear hK K hHeld hHeld3
      try simp only [Act.put, List.setIfInBounds_toArray, List.set_cons_zero, List.set_cons_succ]
      refine take_yes 9 29 rfl rfl (by kernel_rfl) (by kernel_rfl) (by kernel_rfl) (fun _ _ _ h => h) (by rfl) (by assumption) (v := ?_) ?_ ?_
      rotate_left
      · intro w hSw; (try dsimp only at hSw); go_simp; (try with_reducible rfl)
      try simp only [Act.put, List.setIfInBounds_toArray, List.set_cons_zero, List.set_cons_succ]
      refine take_yes 10 30 rfl rfl (by kernel_rfl) (by kernel_rfl) (by kernel_rfl) (fun _ _ _ h => h) (by rfl) (by assumption) (v := ?_) ?_ ?_
      rotate_left
      · intro w hSw; (try dsimp only at hSw); go_simp; (try with_reducible rfl)
      try simp only [Act.put, List.setIfInBounds_toArray, List.set_cons_zero, List.set_cons_succ]
      have f9 := hb9x.fz 5
      have cj9 : v3.cell? ⟨b, 5, none⟩ = some (Fb 5) := hb9x.c 5 _ rfl
      refine wpAnyH_ready (rs := [11]) (by kernel_rfl) (by simp) ?_
      refine AllReadyH.cons (o := _) rfl (fun K hK => ?_) AllReadyH.nil
      go_simp
      (try go_wp2_with fail)
      have hF4 : Fr [b] v3 (v3.setCell ⟨b, 5, none⟩ (.slice A9 (ws.length + 1) c9)) := (Fr.refl [b] v3).setCell (p := ⟨b, 5, none⟩) (by simp) (.slice A9 (ws.length + 1) c9)
      have hB4 : Blk (v3.setCell ⟨b, 5, none⟩ (.slice A9 (ws.length + 1) c9)) b (bkC (upd (upd Fb 4 (Value.slice A1 (k.length + 1) c1)) 5 (.slice A9 (ws.length + 1) c9))) 52 := by
        have := hb9x.set 5 (.slice A9 (ws.length + 1) c9)
        rwa [bkC_upd _ _ _ (by decide)] at this
      have HZ9 := Lib.hid (HEND.out _ hF4 hB4)
      refine hK.out _ _ ?_ (fun hHeld1 => ?_)
      · (try dsimp only); exact hHeld2.trans (hF4.mono (by simp))
      clear hK K
      try simp only [Act.put, List.setIfInBounds_toArray, List.set_cons_zero, List.set_cons_succ]
      refine wpAnyH_done (by kernel_rfl) ?_ _
      clear hF4 hB4 HEND hb9x hHeld2 hHeld1 f9 cj9 hownB hu hZ
      go_wp2_with fail
      exact bodyPost_end (results_none rfl _ _ _) rfl ⟨rfl, HZ9.out⟩
    refine AllReadyH.cons (o := _) rfl (fun K hK => ?_) AllReadyH.nil
    go_simp
    (try go_wp2_with fail)
    have hFx : Fr [] v1 (v1.alloc (.cells #[.slice B l.length d] 116 (0, 0))) := (Fr.refl _ _).alloc _
    have hOwnX := World.ownsRow_lit (base := 0) (e := 116) (size := 1) v1 #[.slice B l.length d] 1 (Nat.zero_le _) (by unfold maxLen; omega) rfl
    obtain ⟨v2, hv⟩ : ∃ X, v1.alloc (.cells #[.slice B l.length d] 116 (0, 0)) = X := ⟨_, rfl⟩
    obtain ⟨qx, hqx⟩ : ∃ X, v1.heap.size = X := ⟨_, rfl⟩
    rw [hv] at hFx hOwnX ⊢
    rw [hqx] at hOwnX ⊢
    replace hZ := hZ.trans hFx
    replace hu := rown_frS hu hFx (by simp)
    replace hHeld := hHeld.trans (hFx.mono (by simp))
    refine hK.out _ _ ?_ (fun hHeld1 => ?_)
    · (try dsimp only); exact hHeld
    clear hK K hHeld1 hFx hv hqx
    try simp only [Act.put, List.setIfInBounds_toArray, List.set_cons_zero, List.set_cons_succ]
    refine wpAnyH_ready (rs := [4]) (by kernel_rfl) (by simp) ?_
    refine AllReadyH.cons (o := _) rfl (fun K hK => ?_) AllReadyH.nil
    have c2 : v2.cell? ⟨b, 5, none⟩ = some (Fb 5) := (HB2.out.fr0b hZ).c 5 _ rfl
    go_simp
    (try go_wp2_with fail)
    refine hK.out _ _ ?_ (fun hHeld1 => ?_)
    · (try dsimp only); exact hHeld
    clear hK K c2 hHeld1
    try simp only [Act.put, List.setIfInBounds_toArray, List.set_cons_zero, List.set_cons_succ]
    refine wpAnyH_ready (rs := [8]) (by kernel_rfl) (by simp) ?_
    refine AllReadyH.cons (o := _) rfl (fun K hK => ?_) AllReadyH.nil
    rw [if_pos (by rfl)]
    (try simp only [List.getElem_toArray, List.getElem_cons_succ, List.getElem_cons_zero])
    have hWr : v2.ownsRow 0 116 1 (Fb 5) ws.length ws := rown_frS (HWR.out) hZ (by simp)
    refine wp_app _ 28 rfl (.tmp 24) (.tmp 27) 35 rfl 0 116 j0 (.slice none 0 0) 1 24 Tryz.underlying35 hi hz0 hz1 hz2 rfl (by decide) _ ws.length ws (by first | (go_simp; done) | (go_simp; exact HJV.out.symm)) hWr _ _ _ _ _ (by rfl) (Reads.of_own hOwnX) (by simp [Value.oneCell']) ?_ ?_ (Nat.zero_le _) ?_
    · have := HLW.out; unfold maxLen; omega
    · have := HLW.out; omega
    intro V9 v3 hownB hgrB hrowB
    obtain ⟨A9, c9, rfl⟩ := rown_slice hownB
    have hF9 := Fr.of_row hgrB
    have hb9x : Blk v3 b (bkC (upd Fb 4 (Value.slice A1 (k.length + 1) c1))) 52 := hF9.blk (HB2.out.fr0b hZ) (fun hm => by
  obtain ⟨cur, hc⟩ := rown_blk hWr b (by simpa using hm)
  (try exact (HB2.out.fr0b hZ).neT hc (by decide) rfl))
    have hHeld2 : Fr (b :: ((Fb 4).ownBlock.toList ++ (Fb 5).ownBlock.toList)) w v3 := hHeld.trans (hF9.mono (fun x hx => List.mem_cons_of_mem _ (List.mem_append_right _ hx)))
    have HEND := Lib.hid (fun W4 h1 h2 => HCL.out v2 (.slice A9 (ws.length + 1) c9) v3 W4 B d hZ hu hownB hF9 hrowB h1 h2)
    clear hWr hOwnX hgrB hF9 hrowB
    refine hK.out _ _ ?_ (fun hHeld3 => ?_)
    · (try dsimp only); exact hHeld2
    clear hK K hHeld hHeld3
    try simp only [Act.put, List.setIfInBounds_toArray, List.set_cons_zero, List.set_cons_succ]
    refine take_yes 9 29 rfl rfl (by kernel_rfl) (by kernel_rfl) (by kernel_rfl) (fun _ _ _ h => h) (by rfl) (by assumption) (v := ?_) ?_ ?_
    rotate_left
    · intro w hSw; (try dsimp only at hSw); go_simp; (try with_reducible rfl)
    try simp only [Act.put, List.setIfInBounds_toArray, List.set_cons_zero, List.set_cons_succ]
    refine take_yes 10 30 rfl rfl (by kernel_rfl) (by kernel_rfl) (by kernel_rfl) (fun _ _ _ h => h) (by rfl) (by assumption) (v := ?_) ?_ ?_
    rotate_left
    · intro w hSw; (try dsimp only at hSw); go_simp; (try with_reducible rfl)
    try simp only [Act.put, List.setIfInBounds_toArray, List.set_cons_zero, List.set_cons_succ]
    have f9 := hb9x.fz 5
    have cj9 : v3.cell? ⟨b, 5, none⟩ = some (Fb 5) := hb9x.c 5 _ rfl
    refine wpAnyH_ready (rs := [11]) (by kernel_rfl) (by simp) ?_
    refine AllReadyH.cons (o := _) rfl (fun K hK => ?_) AllReadyH.nil
    go_simp
    (try go_wp2_with fail)
    have hF4 : Fr [b] v3 (v3.setCell ⟨b, 5, none⟩ (.slice A9 (ws.length + 1) c9)) := (Fr.refl [b] v3).setCell (p := ⟨b, 5, none⟩) (by simp) (.slice A9 (ws.length + 1) c9)
    have hB4 : Blk (v3.setCell ⟨b, 5, none⟩ (.slice A9 (ws.length + 1) c9)) b (bkC (upd (upd Fb 4 (Value.slice A1 (k.length + 1) c1)) 5 (.slice A9 (ws.length + 1) c9))) 52 := by
      have := hb9x.set 5 (.slice A9 (ws.length + 1) c9)
      rwa [bkC_upd _ _ _ (by decide)] at this
    have HZ9 := Lib.hid (HEND.out _ hF4 hB4)
    refine hK.out _ _ ?_ (fun hHeld1 => ?_)
    · (try dsimp only); exact hHeld2.trans (hF4.mono (by simp))
    clear hK K
    try simp only [Act.put, List.setIfInBounds_toArray, List.set_cons_zero, List.set_cons_succ]
    refine wpAnyH_done (by kernel_rfl) ?_ _
    clear hF4 hB4 HEND hb9x hHeld2 hHeld1 f9 cj9 hownB hu hZ
    go_wp2_with fail
    exact bodyPost_end (results_none rfl _ _ _) rfl ⟨rfl, HZ9.out⟩
  · have hltI : ¬ (k.length : Int) < 250 := by omega
    have HEND : Hid (AddP 113 116 14 etF 52 w b Fb 4 5 k ⟨.slice A l.length c, l⟩ w) := Lib.hid ⟨Fb, k, hB, fun _ _ _ => rfl, ⟨ws, hK, hW, hk, hd⟩, Or.inl rfl, Fr.refl _ _, fun q hq => Or.inl hq⟩
    clear hB hK hW hd hx hap hlt hk hAW hAL
    go_enter Tryz.func62, Tryz.ntmps62
    go_wp2_with fail
    exact bodyPost_end (results_none rfl _ _ _) rfl ⟨rfl, HEND.out⟩
set_option maxRecDepth 100000 in
set_option maxHeartbeats 8000000 in
theorem et_put (hB : Blk w b (bkC Fb) 52) (h : etKd w (Fb 4) k) (hk : k.length ≤ 250) :
    Calls Tryz.prog 135 #[.pointer (some ⟨b, 0, none⟩)] w fun e w' => e = .returned (.tuple #[]) ∧ etKd w' (Fb 4) (putT etM k k.length) ∧ FrL k w w' := by
  obtain ⟨AL, cl0, hAL⟩ := rown_slice h.row
  have hcp := h.row
  rw [hAL] at hcp
  have hcp2 := (rown_caps hcp).1
  have HBF : Hid (∀ W, FrL k w W → Blk W b (bkC Fb) 52) := Lib.hid fun W hW => hW.blk h hB (by decide)
  have HKB : Hid (∀ u, u ∈ k → ∀ q, u.v.ownBlock = some q → q < w.heap.size) := Lib.hid fun u hu q hq => by
    obtain ⟨cur, hc⟩ := rown_blk (h.ls u hu) q hq
    exact hc.lt
  have H := Lib.hid h
  have HAL := Lib.hid hAL
  have hkI : (k.length : Int) ≤ 250 := by omega
  clear h hB hcp hAL
  go_enter Tryz.func135, Tryz.ntmps135
  go_wp2_with fail
  go_loopw [2] (fun iv wr => ∃ j : Nat, j ≤ k.length ∧ iv = .int .i64 j ∧ etKd wr (Fb 4) (putT etM k j) ∧ FrL k w wr) (fun iv _ => k.length - (intOf iv).toNat)
  case atStart => exact ⟨0, Nat.zero_le _, rfl, by rw [putT_zero]; exact H.out, FrL.of (Fr.refl _ _)⟩
  case round =>
    obtain ⟨j, hj, rfl, hK, hF⟩ := hrel
    have g0 : wr.cell? ⟨b, 4, none⟩ = some (.slice AL k.length cl0) := by rw [← HAL.out]; exact (HBF.out _ hF).c 4 _ rfl
    have HF := Lib.hid hF
    have HK := Lib.hid hK
    clear hF hK
    by_cases hjl : j < k.length
    · obtain ⟨l, hl⟩ : ∃ l, k[j]? = some l := ⟨_, List.getElem?_eq_getElem hjl⟩
      obtain ⟨ql, cl, hL, hql, hcl⟩ := HK.out.at_ (putT_at etM k j hl)
      rw [putT_len] at hL
      obtain ⟨A, c, hv, hv1, hv2, hr1⟩ := rat_of etF_len (HK.out.ls l (List.mem_of_getElem? (putT_at etM k j hl)))
      have hsm := H.out.sm l (List.mem_of_getElem? hl)
      obtain ⟨e1, e2⟩ : AL = some ⟨ql, 0, none⟩ ∧ cl0 = cl := by
        have := HAL.out
        rw [hL] at this
        injection this with a1 a2 a3
        exact ⟨a1.symm, a3.symm⟩
      subst e1 e2
      have g1 : wr.cell? ⟨ql, j, none⟩ = some (.slice A l.xs.length c) := by rw [← hv]; exact hcl wr (Fr.refl _ _)
      have MC := Lib.hid fun W => et_mark (w := W) j 0 l.xs.length (by omega) (by omega)
      have HL := Lib.hid (And.intro hl hv)
      clear hl hv hL hql hcl hr1
      go_wp2_with (first | (go_at_call 271; refine (MC.out _).mono ?_; rintro e v1 ⟨Am, cm, rfl, hm0, hFm⟩))
      have HI : Hid (PutI 113 116 14 etF etM v1 (Fb 4) k w.heap.size j 0 l (.slice Am l.xs.length cm) ∧ FrL k w v1) := Lib.hid ⟨PutI.start HK.out HL.out.1 hFm hm0 HF.out.size (HKB.out l (List.mem_of_getElem? HL.out.1)), HF.out.trans (FrL.of hFm)⟩
      have hmc := rown_caps hm0
      have hmc1 := hmc.1
      have hmc2 := hmc.2
      clear hm0 hFm hmc g0 g1
      go_wp2_with fail
      go_loopw [4] (fun tv wi => ∃ t : Nat, t ≤ l.xs.length ∧ tv = .int .i64 t ∧ PutI 113 116 14 etF etM wi (Fb 4) k w.heap.size j t l (.slice Am l.xs.length cm) ∧ FrL k w wi) (fun tv _ => l.xs.length - (intOf tv).toNat)
      case atStart => exact ⟨0, Nat.zero_le _, rfl, HI.out.1, HI.out.2⟩
      case round =>
        obtain ⟨t, ht, rfl, hI, hF⟩ := hrel
        by_cases htl : t < l.xs.length
        · obtain ⟨q, cap, qm, cm', ql', cl', h1, h2, h3, h4, h5, h6, h7, h8, h9, hcl, hth, hbq, hoq, hst⟩ := hI.at_ etF_len (by decide) htl
          obtain ⟨e1, e2⟩ : A = some ⟨q, 0, none⟩ ∧ c = cap := by
            have := HL.out.2
            rw [h1] at this
            injection this with a1 a2 a3
            exact ⟨a1.symm, a3.symm⟩
          obtain ⟨e3, e4⟩ : ql = ql' ∧ cl0 = cl' := by
            have := HAL.out
            rw [h3] at this
            injection this with a1 a2 a3
            injection a1 with a1
            injection a1 with a1
            exact ⟨a1.symm, a3.symm⟩
          obtain ⟨e5, e6⟩ : Am = some ⟨qm, 0, none⟩ ∧ cm = cm' := by
            injection h2 with a1 a2 a3
            exact ⟨a1, a3⟩
          subst e1 e2 e3 e4 e5 e6
          have HX : Hid (∀ W, Fr [q] wr W → (fun W => (W.cell? ⟨b, 4, none⟩ = some (.slice (some ⟨ql, 0, none⟩) k.length cl0) ∧ W.cell? ⟨ql, j, none⟩ = some (.slice (some ⟨q, 0, none⟩) l.xs.length c) ∧ W.cell? ⟨qm, t * 14, none⟩ = some (.int .u8 0) ∧ W.cell? ⟨qm, t * 14 + 1, none⟩ = some (.int .u8 0) ∧ W.cell? ⟨qm, t * 14 + 2, none⟩ = some (.int .u8 0) ∧ W.cell? ⟨qm, t * 14 + 3, none⟩ = some (.int .u8 0) ∧ W.cell? ⟨qm, t * 14 + 4, none⟩ = some (.int .u8 0) ∧ W.cell? ⟨qm, t * 14 + 5, none⟩ = some (.int .u8 0) ∧ W.cell? ⟨qm, t * 14 + 6, none⟩ = some (.int .u8 0) ∧ W.cell? ⟨qm, t * 14 + 7, none⟩ = some (.int .u8 0) ∧ W.cell? ⟨qm, t * 14 + 8, none⟩ = some (.int .u8 0) ∧ W.cell? ⟨qm, t * 14 + 9, none⟩ = some (.int .u8 0) ∧ W.cell? ⟨qm, t * 14 + 10, none⟩ = some (.int .u8 0) ∧ W.cell? ⟨qm, t * 14 + 11, none⟩ = some (.int .u8 0) ∧ W.cell? ⟨qm, t * 14 + 12, none⟩ = some (.int .i64 (-1 - (j : Int))) ∧ W.cell? ⟨qm, t * 14 + 13, none⟩ = some (.string (B (nmB j t)))) ∧ Fr [q] wr W) W) := Lib.hid fun W hW => ⟨⟨by
            rw [← HAL.out]
            refine (hW.blk (HBF.out _ hF) ?_).c 4 _ rfl
            obtain ⟨cur, hc⟩ := hbq
            simp
            intro e
            subst e
            exact (HBF.out _ hF).neT hc (by decide) rfl, by rw [← h1]; exact (hcl W hW).1, (hcl W hW).2 0 _ rfl, (hcl W hW).2 1 _ rfl, (hcl W hW).2 2 _ rfl, (hcl W hW).2 3 _ rfl, (hcl W hW).2 4 _ rfl, (hcl W hW).2 5 _ rfl, (hcl W hW).2 6 _ rfl, (hcl W hW).2 7 _ rfl, (hcl W hW).2 8 _ rfl, (hcl W hW).2 9 _ rfl, (hcl W hW).2 10 _ rfl, (hcl W hW).2 11 _ rfl, (hcl W hW).2 12 _ rfl, (hcl W hW).2 13 _ rfl⟩, hW⟩
          have hG0 := HX.out _ ((Fr.refl [q] wr).drew)
          dsimp only at hG0
          have hFd : Fr [] wr wr.drew := (Fr.refl _ _).drew
          have hST := Lib.hid hst
          have hth := Lib.hid hth
          have HO : Hid (∀ W, PutI 113 116 14 etF etM W (Fb 4) k w.heap.size j (t + 1) l (.slice (some ⟨qm, 0, none⟩) l.xs.length cm) → Fr [q] wr W → ∃ t' : Nat, t' ≤ l.xs.length ∧ Value.int .i64 ((t : Int) + 1) = .int .i64 t' ∧ PutI 113 116 14 etF etM W (Fb 4) k w.heap.size j t' l (.slice (some ⟨qm, 0, none⟩) l.xs.length cm) ∧ FrL k w W) := Lib.hid fun W a1 a2 => ⟨t + 1, by omega, by go_num, a1, hF.trans ⟨[q], a2, fun x hx => ⟨l, List.mem_of_getElem? HL.out.1, by simp at hx; subst hx; exact hoq⟩⟩⟩
          clear hI hF hcl hbq hoq hst h1 h2 h3
          go_wp2_with fail
          refine wp_region_held_drew (S := (fun W => (W.cell? ⟨b, 4, none⟩ = some (.slice (some ⟨ql, 0, none⟩) k.length cl0) ∧ W.cell? ⟨ql, j, none⟩ = some (.slice (some ⟨q, 0, none⟩) l.xs.length c) ∧ W.cell? ⟨qm, t * 14, none⟩ = some (.int .u8 0) ∧ W.cell? ⟨qm, t * 14 + 1, none⟩ = some (.int .u8 0) ∧ W.cell? ⟨qm, t * 14 + 2, none⟩ = some (.int .u8 0) ∧ W.cell? ⟨qm, t * 14 + 3, none⟩ = some (.int .u8 0) ∧ W.cell? ⟨qm, t * 14 + 4, none⟩ = some (.int .u8 0) ∧ W.cell? ⟨qm, t * 14 + 5, none⟩ = some (.int .u8 0) ∧ W.cell? ⟨qm, t * 14 + 6, none⟩ = some (.int .u8 0) ∧ W.cell? ⟨qm, t * 14 + 7, none⟩ = some (.int .u8 0) ∧ W.cell? ⟨qm, t * 14 + 8, none⟩ = some (.int .u8 0) ∧ W.cell? ⟨qm, t * 14 + 9, none⟩ = some (.int .u8 0) ∧ W.cell? ⟨qm, t * 14 + 10, none⟩ = some (.int .u8 0) ∧ W.cell? ⟨qm, t * 14 + 11, none⟩ = some (.int .u8 0) ∧ W.cell? ⟨qm, t * 14 + 12, none⟩ = some (.int .i64 (-1 - (j : Int))) ∧ W.cell? ⟨qm, t * 14 + 13, none⟩ = some (.string (B (nmB j t)))) ∧ Fr [q] wr W)) (by kernel_rfl) ?_ (fun hHeld => ?_)
          · (try dsimp only); exact hG0
          refine take_yes 0 30 rfl rfl (by kernel_rfl) (by kernel_rfl) (by kernel_rfl) (fun _ _ _ h => h) (by rfl) (by assumption) (v := ?_) ?_ ?_
          rotate_left
          · intro w hSw; (try dsimp only at hSw); go_simp; (try with_reducible rfl)
          try simp only [Act.put, List.setIfInBounds_toArray, List.set_cons_zero, List.set_cons_succ]
          refine take_yes 1 31 rfl rfl (by kernel_rfl) (by kernel_rfl) (by kernel_rfl) (fun _ _ _ h => h) (by rfl) (by assumption) (v := ?_) ?_ ?_
          rotate_left
          · intro w hSw; (try dsimp only at hSw); go_simp; (try with_reducible rfl)
          try simp only [Act.put, List.setIfInBounds_toArray, List.set_cons_zero, List.set_cons_succ]
          refine take_yes 2 32 rfl rfl (by kernel_rfl) (by kernel_rfl) (by kernel_rfl) (fun _ _ _ h => h) (by rfl) (by assumption) (v := ?_) ?_ ?_
          rotate_left
          · intro w hSw; (try dsimp only at hSw); go_simp; (try with_reducible rfl)
          try simp only [Act.put, List.setIfInBounds_toArray, List.set_cons_zero, List.set_cons_succ]
          refine take_yes 3 33 rfl rfl (by kernel_rfl) (by kernel_rfl) (by kernel_rfl) (fun _ _ _ h => h) (by rfl) (by assumption) (v := ?_) ?_ ?_
          rotate_left
          · intro w hSw; (try dsimp only at hSw); go_simp; (try with_reducible rfl)
          try simp only [Act.put, List.setIfInBounds_toArray, List.set_cons_zero, List.set_cons_succ]
          refine take_yes 4 34 rfl rfl (by kernel_rfl) (by kernel_rfl) (by kernel_rfl) (fun _ _ _ h => h) (by rfl) (by assumption) (v := ?_) ?_ ?_
          rotate_left
          · intro w hSw; (try dsimp only at hSw); go_simp; (try with_reducible rfl)
          try simp only [Act.put, List.setIfInBounds_toArray, List.set_cons_zero, List.set_cons_succ]
          refine take_yes 5 35 rfl rfl (by kernel_rfl) (by kernel_rfl) (by kernel_rfl) (fun _ _ _ h => h) (by rfl) (by assumption) (v := ?_) ?_ ?_
          rotate_left
          · intro w hSw; (try dsimp only at hSw); go_simp; (try with_reducible rfl)
          try simp only [Act.put, List.setIfInBounds_toArray, List.set_cons_zero, List.set_cons_succ]
          refine take_yes 6 36 rfl rfl (by kernel_rfl) (by kernel_rfl) (by kernel_rfl) (fun _ _ _ h => h) (by rfl) (by assumption) (v := ?_) ?_ ?_
          rotate_left
          · intro w hSw; (try dsimp only at hSw); go_simp; (try with_reducible rfl)
          try simp only [Act.put, List.setIfInBounds_toArray, List.set_cons_zero, List.set_cons_succ]
          refine take_yes 7 37 rfl rfl (by kernel_rfl) (by kernel_rfl) (by kernel_rfl) (fun _ _ _ h => h) (by rfl) (by assumption) (v := ?_) ?_ ?_
          rotate_left
          · intro w hSw; (try dsimp only at hSw); go_simp; (try with_reducible rfl)
          try simp only [Act.put, List.setIfInBounds_toArray, List.set_cons_zero, List.set_cons_succ]
          refine take_yes 8 38 rfl rfl (by kernel_rfl) (by kernel_rfl) (by kernel_rfl) (fun _ _ _ h => h) (by rfl) (by assumption) (v := ?_) ?_ ?_
          rotate_left
          · intro w hSw; (try dsimp only at hSw); go_simp; (try with_reducible rfl)
          try simp only [Act.put, List.setIfInBounds_toArray, List.set_cons_zero, List.set_cons_succ]
          refine take_yes 9 39 rfl rfl (by kernel_rfl) (by kernel_rfl) (by kernel_rfl) (fun _ _ _ h => h) (by rfl) (by assumption) (v := ?_) ?_ ?_
          rotate_left
          · intro w hSw; (try dsimp only at hSw); go_simp; (try with_reducible rfl)
          try simp only [Act.put, List.setIfInBounds_toArray, List.set_cons_zero, List.set_cons_succ]
          refine take_yes 10 40 rfl rfl (by kernel_rfl) (by kernel_rfl) (by kernel_rfl) (fun _ _ _ h => h) (by rfl) (by assumption) (v := ?_) ?_ ?_
          rotate_left
          · intro w hSw; (try dsimp only at hSw); go_simp; (try with_reducible rfl)
          try simp only [Act.put, List.setIfInBounds_toArray, List.set_cons_zero, List.set_cons_succ]
          refine take_yes 11 41 rfl rfl (by kernel_rfl) (by kernel_rfl) (by kernel_rfl) (fun _ _ _ h => h) (by rfl) (by assumption) (v := ?_) ?_ ?_
          rotate_left
          · intro w hSw; (try dsimp only at hSw); go_simp; (try with_reducible rfl)
          try simp only [Act.put, List.setIfInBounds_toArray, List.set_cons_zero, List.set_cons_succ]
          refine take_yes 12 42 rfl rfl (by kernel_rfl) (by kernel_rfl) (by kernel_rfl) (fun _ _ _ h => h) (by rfl) (by assumption) (v := ?_) ?_ ?_
          rotate_left
          · intro w hSw; (try dsimp only at hSw); go_simp; (try with_reducible rfl)
          try simp only [Act.put, List.setIfInBounds_toArray, List.set_cons_zero, List.set_cons_succ]
          refine wpAnyH_ready (rs := [13]) (by kernel_rfl) (by simp) ?_
          refine AllReadyH.cons (o := _) rfl (fun K hK => ?_) AllReadyH.nil
          (try rw [if_pos (by rfl)])
          (try simp only [List.getElem_toArray, List.getElem_cons_succ, List.getElem_cons_zero])
          refine wp_store_mid 113 (.tmp 42) (.tmp 41) rfl q (t * 14) #[.int .u8 0, .int .u8 0, .int .u8 0, .int .u8 0, .int .u8 0, .int .u8 0, .int .u8 0, .int .u8 0, .int .u8 0, .int .u8 0, .int .u8 0, .int .u8 0, .int .i64 (-1 - (j : Int)), .string (B (nmB j t))] (by go_simp) (by go_simp) (hth.out _ hFd) (by kernel_rfl) (by simp [Value.oneCell']) ?_
          refine hK.out _ _ ?_ (fun hHeld1 => ?_)
          · (try dsimp only); exact HX.out _ (hST.out _ hFd).2
          clear hK K
          (try simp only [Act.put])
          refine wpAnyH_done (by kernel_rfl) ?_ _
          have hEN := hST.out _ hFd
          have HEN := Lib.hid (HO.out _ hEN.1 hEN.2)
          clear hHeld hHeld1 hG0 HX hST hth hFd hEN HO
          go_wp2_with fail
          go_roundw
          case rel => exact HEN.out
          case measure => (simp [intOf]) <;> omega
        · obtain rfl : t = l.xs.length := by omega
          have HEN := Lib.hid (And.intro hI.done hF)
          clear hI hF
          go_wp2_with fail
          go_roundw
          case rel => exact ⟨j + 1, by omega, by go_num, HEN.out.1, HEN.out.2⟩
          case measure => (simp [intOf]) <;> omega
    · obtain rfl : j = k.length := by omega
      go_wp2_with fail
      exact bodyPost_end (results_none rfl _ _ _) rfl ⟨rfl, HK.out, HF.out⟩
set_option maxRecDepth 100000 in
set_option maxHeartbeats 8000000 in
theorem et_grow (hB : Blk w b (bkC Fb) 52) (h : etKd w (Fb 4) k) (hm : Mk etM k) (hk : k.length ≤ 250) :
    Calls Tryz.prog 149 #[.pointer (some ⟨b, 0, none⟩)] w fun e w' => ∃ A c gs, e = .returned (.slice A k.length c) ∧ GrO 113 116 14 etF etM w w' (Fb 4) k gs (.slice A k.length c) k.length := by
  obtain ⟨i0, hi, hz0, hz1, hz2⟩ := info_parts info_et
  obtain ⟨j0, hj0, hy0, hy1, hy2⟩ := info_parts info_etS
  obtain ⟨AL, cl0, hAL⟩ := rown_slice h.row
  have hcp := h.row
  rw [hAL] at hcp
  have hcp2 := (rown_caps hcp).1
  have HBF : Hid (∀ W, FrL k w W → Blk W b (bkC Fb) 52) := Lib.hid fun W hW => hW.blk h hB (by decide)
  have H := Lib.hid h
  have HM := Lib.hid hm
  have HAL := Lib.hid hAL
  have hkI : (k.length : Int) ≤ 250 := by omega
  clear h hB hcp hAL hm
  go_enter Tryz.func149, Tryz.ntmps149
  go_wp2_with fail
  go_loopw [3, 4] (fun ov iv wr => ∃ (j : Nat) (gs : List (Bl (Mc × Mc × Int × List UInt8))), j ≤ k.length ∧ iv = .int .i64 j ∧ GrO 113 116 14 etF etM w wr (Fb 4) k gs ov j) (fun _ iv _ => k.length - (intOf iv).toNat)
  case atStart => exact ⟨0, [], Nat.zero_le _, rfl, GrO.start H.out⟩
  case round =>
    obtain ⟨j, gs, hj, rfl, hO⟩ := hrel
    have g0 : wr.cell? ⟨b, 4, none⟩ = some (.slice AL k.length cl0) := by rw [← HAL.out]; exact (HBF.out _ hO.fr).c 4 _ rfl
    obtain ⟨Ao, co, rfl⟩ := rown_slice hO.row
    have HO := Lib.hid hO
    clear hO
    by_cases hjl : j < k.length
    · obtain ⟨l, hl⟩ : ∃ l, k[j]? = some l := ⟨_, List.getElem?_eq_getElem hjl⟩
      obtain ⟨ql, cl, hL, hql, hcl⟩ := HO.out.kd.at_ hl
      obtain ⟨A, c, hv, hv1, hv2, hr1⟩ := rat_of etF_len (HO.out.kd.ls l (List.mem_of_getElem? hl))
      have hsm := H.out.sm l (List.mem_of_getElem? hl)
      obtain ⟨e1, e2⟩ : AL = some ⟨ql, 0, none⟩ ∧ cl0 = cl := by
        have := HAL.out
        rw [hL] at this
        injection this with a1 a2 a3
        exact ⟨a1.symm, a3.symm⟩
      subst e1 e2
      have g1 : wr.cell? ⟨ql, j, none⟩ = some (.slice A l.xs.length c) := by rw [← hv]; exact hcl wr (Fr.refl _ _)
      obtain ⟨rs, hrs⟩ : ∃ X, wr.heap.size = X := ⟨_, rfl⟩
      have HE : Hid (GrI 113 116 14 etF w wr (Fb 4) k gs (.slice Ao j co) rs j l (.slice A l.xs.length c) (mks etM j l.xs.length 0)) := Lib.hid (by rw [← hv, ← hrs]; exact HO.out.enter hl)
      clear hl hv hL hql hcl hr1 hrs
      go_wp2_with fail
      go_loopw [5, 6] (fun lv nv wi => ∃ n : Nat, n ≤ 12 ∧ nv = .int .i64 n ∧ GrI 113 116 14 etF w wi (Fb 4) k gs (.slice Ao j co) rs j l lv (mks etM j l.xs.length n)) (fun _ nv _ => 12 - (intOf nv).toNat)
      case atStart => exact ⟨0, by omega, rfl, HE.out⟩
      case round =>
        obtain ⟨n, hn, rfl, hI⟩ := hrel
        have hll : (l.xs ++ mks etM j l.xs.length n).length = l.xs.length + n := by rw [List.length_append, mks_len]
        have hlo := hI.gw.lo
        rw [hll] at hlo
        obtain ⟨n0, hn0⟩ : ∃ X, l.xs.length + n = X := ⟨_, rfl⟩
        obtain ⟨zs, hzs⟩ : ∃ X, l.xs ++ mks etM j l.xs.length n = X := ⟨_, rfl⟩
        rw [hn0, hzs] at hlo
        obtain ⟨Al, cl2, rfl⟩ := rown_slice hlo
        have HI := Lib.hid hI
        have HLO := Lib.hid hlo
        have HN0 := Lib.hid hn0
        have HZS := Lib.hid hzs
        have hn02 : n0 ≤ 2012 := by omega
        clear hI hlo hll hzs g0 g1
        by_cases hn12 : n < 12
        · have hn12I : (n : Int) < 12 := by omega
          have MC := Lib.hid fun W => et_mark (w := W) j n0 1 (by omega) (by omega)
          clear hn0
          go_wp2_with (first
            | (go_at_call 271; refine (MC.out _).mono ?_; rintro e v1 ⟨Am, cm, rfl, hm0, hFm⟩)
            | (at_builtin; refine wpList_app_keep _ rfl _ _ 116 rfl 0 113 i0 (.agg #[.int .u8 0, .int .u8 0, .int .u8 0, .int .u8 0, .int .u8 0, .int .u8 0, .int .u8 0, .int .u8 0, .int .u8 0, .int .u8 0, .int .u8 0, .int .u8 0, .int .i64 0, .string ⟨#[]⟩]) 14 40 Tryz.underlying116 hi hz0 hz1 hz2 rfl (by decide) (.slice Al n0 cl2) n0 (rowF etF zs) rfl ?o1 _ Am 1 cm (rowF etF (mks etM j n0 1)) rfl (Reads.of_own (rown_base hm0 (Nat.zero_le _))) (rowF_one' etF_one _) ?o2 ?o3 (Nat.zero_le _) ?_))
          case o1 => exact rown_frS HLO.out hFm (by simp)
          case o2 => unfold maxLen; omega
          case o3 => omega
          intro v2 w2 a1 a2 a3 a4
          have HI2 : Hid (GrI 113 116 14 etF w w2 (Fb 4) k gs (.slice Ao j co) rs j l v2 (mks etM j l.xs.length (n + 1))) := Lib.hid (HI.out.step (by decide) (by decide) hFm fun _ => by
            rw [HN0.out, HZS.out]
            exact ⟨a1, a2, a3, a4⟩)
          obtain ⟨Av, cv, rfl⟩ := rown_slice a1
          clear a1 a2 a3 a4 hm0 hFm
          go_wp2_with fail
          go_roundw
          case rel => exact ⟨n + 1, by omega, by go_num, HI2.out⟩
          case measure => (simp [intOf]) <;> omega
        · obtain rfl : n = 12 := by omega
          have MC := Lib.hid fun W => et_mark (w := W) j n0 60 (by omega) (by omega)
          have hjI : (j : Int) < k.length := by omega
          clear hn0
          go_wp2_with (first
            | (go_at_call 271; refine (MC.out _).mono ?_; rintro e v1 ⟨Am, cm, rfl, hm0, hFm⟩)
            | (at_builtin; refine wpList_app_keep _ rfl _ _ 116 rfl 0 113 i0 (.agg #[.int .u8 0, .int .u8 0, .int .u8 0, .int .u8 0, .int .u8 0, .int .u8 0, .int .u8 0, .int .u8 0, .int .u8 0, .int .u8 0, .int .u8 0, .int .u8 0, .int .i64 0, .string ⟨#[]⟩]) 14 40 Tryz.underlying116 hi hz0 hz1 hz2 rfl (by decide) (.slice Al n0 cl2) n0 (rowF etF zs) rfl ?o1 _ Am 60 cm (rowF etF (mks etM j n0 60)) rfl (Reads.of_own (rown_base hm0 (Nat.zero_le _))) (rowF_one' etF_one _) ?o2 ?o3 (Nat.zero_le _) ?_))
          case o1 => exact rown_frS HLO.out hFm (by simp)
          case o2 => unfold maxLen; omega
          case o3 => omega
          intro v2 w2 a1 a2 a3 a4
          have HI2 : Hid (GrI 113 116 14 etF w w2 (Fb 4) k gs (.slice Ao j co) rs j l v2 (mks etM j l.xs.length 72)) := Lib.hid (HI.out.step (by decide) (by decide) hFm fun _ => by
            rw [HN0.out, HZS.out]
            exact ⟨a1, a2, a3, a4⟩)
          obtain ⟨Av, cv, rfl⟩ := rown_slice a1
          clear a1 a2 a3 a4 hm0 hFm
          go_wp2_with (at_builtin; refine wpList_append_own _ rfl _ _ 35 rfl w.heap.size 116 j0 (.slice none 0 0) 1 24 Tryz.underlying35 hj0 hy0 hy1 hy2 rfl (by decide) (.slice Ao j co) j (gs.map (·.v)) rfl (HI2.out.row.alloc _) ⟨w2.heap.size, 0, none⟩ 1 1 [.slice Av (n0 + 60) cv] rfl rfl ?d1 ?d2 ?d3 ?d4 ?d5 ?_)
          case d1 => exact new_cells _ [.slice Av (n0 + 60) cv] 116
          case d2 => simp [Value.oneCell']
          case d3 => unfold maxLen; omega
          case d4 => omega
          case d5 => have := HI2.out.fr.size; simp; omega
          intro v3 w3 b1 b2 b3
          have HO2 := Lib.hid (GrI.leave (by decide) HO.out HM.out HI2.out ((Fr.refl [] w2).alloc _) b1 b2)
          obtain ⟨Ag, cg, rfl⟩ := rown_slice b1
          clear b1 b2 b3
          go_wp2_with fail
          go_roundw
          case rel => exact ⟨j + 1, _, by omega, by go_num, HO2.out⟩
          case measure => (simp [intOf]) <;> omega
    · obtain rfl : j = k.length := by omega
      go_wp2_with fail
      go_ret
      exact ⟨Ao, co, gs, rfl, HO.out⟩
set_option maxRecDepth 100000 in
set_option maxHeartbeats 8000000 in
theorem et_marked (L : List (Bl (Mc × Mc × Int × List UInt8))) (AL : Option Addr) (cl0 : Nat) (h : etLs w (.slice AL L.length cl0) L) (hm : Mk etM L) (hk : L.length ≤ 250) (hx : ∀ l, l ∈ L → l.xs.length ≤ 2072) :
    Calls Tryz.prog 167 #[.slice AL L.length cl0] w fun e w' => e = .returned (.bool true) ∧ Fr [] w w' := by
  have hcp2 := (rown_caps h.row).1
  have hcp3 := (rown_caps h.row).2
  have H := Lib.hid h
  have HM := Lib.hid hm
  have HXL := Lib.hid hx
  have hkI : (L.length : Int) ≤ 250 := by omega
  clear h hm hx
  go_enter Tryz.func167, Tryz.ntmps167
  go_wp2_with fail
  go_loopw [3] (fun iv wr => ∃ j : Nat, j ≤ L.length ∧ iv = .int .i64 j ∧ Fr [] w wr) (fun iv _ => L.length - (intOf iv).toNat)
  case atStart => exact ⟨0, Nat.zero_le _, rfl, Fr.refl _ _⟩
  case round =>
    obtain ⟨j, hj, rfl, hF⟩ := hrel
    have HF := Lib.hid hF
    clear hF
    by_cases hjl : j < L.length
    · obtain ⟨l, hl⟩ : ∃ l, L[j]? = some l := ⟨_, List.getElem?_eq_getElem hjl⟩
      obtain ⟨ql, cl, hL, hql, hcl⟩ := H.out.at_ hl
      obtain ⟨A, c, hv, hv1, hv2, hr1⟩ := rat_of etF_len (H.out.ls l (List.mem_of_getElem? hl))
      have hsm := HXL.out l (List.mem_of_getElem? hl)
      have HXS := Lib.hid (HM.out j l hl)
      obtain ⟨e1, e2⟩ : AL = some ⟨ql, 0, none⟩ ∧ cl0 = cl := by
        injection hL with a1 a2 a3
        exact ⟨a1, a3⟩
      subst e1 e2
      have MC := Lib.hid fun W => et_mark (w := W) j 0 l.xs.length (by omega) (by omega)
      have SA := Lib.hid fun W (hW : Fr [] w W) A2 c2 h2 => et_same (w := W) l.xs A A2 c c2 (hr1.fr0 hW) h2 (by omega)
      have HX : Hid (∀ W, Fr [] w W → (fun W => W.cell? ⟨ql, j, none⟩ = some (.slice A l.xs.length c) ∧ Fr [] w W) W) := Lib.hid fun W hW => ⟨by rw [← hv]; exact hcl W hW, hW⟩
      have hG0 := HX.out _ HF.out.drew
      dsimp only at hG0
      clear hl hv hL hql hcl hr1
      go_wp2_with fail
      refine wp_region_held_drew (S := (fun W => W.cell? ⟨ql, j, none⟩ = some (.slice A l.xs.length c) ∧ Fr [] w W)) (by kernel_rfl) ?_ (fun hHeld => ?_)
      · (try dsimp only); exact hG0
      refine take_yes 0 10 rfl rfl (by kernel_rfl) (by kernel_rfl) (by kernel_rfl) (fun _ _ _ h => h) (by rfl) (by assumption) (v := ?_) ?_ ?_
      rotate_left
      · intro w hSw; (try dsimp only at hSw); go_simp; (try with_reducible rfl)
      try simp only [Act.put, List.setIfInBounds_toArray, List.set_cons_zero, List.set_cons_succ]
      refine take_yes 1 11 rfl rfl (by kernel_rfl) (by kernel_rfl) (by kernel_rfl) (fun _ _ _ h => h) (by rfl) (by assumption) (v := ?_) ?_ ?_
      rotate_left
      · intro w hSw; (try dsimp only at hSw); go_simp; (try with_reducible rfl)
      try simp only [Act.put, List.setIfInBounds_toArray, List.set_cons_zero, List.set_cons_succ]
      refine take_yes 2 12 rfl rfl (by kernel_rfl) (by kernel_rfl) (by kernel_rfl) (fun _ _ _ h => h) (by rfl) (by assumption) (v := ?_) ?_ ?_
      rotate_left
      · intro w hSw; (try dsimp only at hSw); go_simp; (try with_reducible rfl)
      try simp only [Act.put, List.setIfInBounds_toArray, List.set_cons_zero, List.set_cons_succ]
      refine take_yes 3 13 rfl rfl (by kernel_rfl) (by kernel_rfl) (by kernel_rfl) (fun _ _ _ h => h) (by rfl) (by assumption) (v := ?_) ?_ ?_
      rotate_left
      · intro w hSw; (try dsimp only at hSw); go_simp; (try with_reducible rfl)
      try simp only [Act.put, List.setIfInBounds_toArray, List.set_cons_zero, List.set_cons_succ]
      refine take_yes 4 14 rfl rfl (by kernel_rfl) (by kernel_rfl) (by kernel_rfl) (fun _ _ _ h => h) (by rfl) (by assumption) (v := ?_) ?_ ?_
      rotate_left
      · intro w hSw; (try dsimp only at hSw); go_simp; (try with_reducible rfl)
      try simp only [Act.put, List.setIfInBounds_toArray, List.set_cons_zero, List.set_cons_succ]
      refine take_yes 5 15 rfl rfl (by kernel_rfl) (by kernel_rfl) (by kernel_rfl) (fun _ _ _ h => h) (by rfl) (by assumption) (v := ?_) ?_ ?_
      rotate_left
      · intro w hSw; (try dsimp only at hSw); go_simp; (try with_reducible rfl)
      try simp only [Act.put, List.setIfInBounds_toArray, List.set_cons_zero, List.set_cons_succ]
      refine take_yes 6 16 rfl rfl (by kernel_rfl) (by kernel_rfl) (by kernel_rfl) (fun _ _ _ h => h) (by rfl) (by assumption) (v := ?_) ?_ ?_
      rotate_left
      · intro w hSw; (try dsimp only at hSw); go_simp; (try with_reducible rfl)
      try simp only [Act.put, List.setIfInBounds_toArray, List.set_cons_zero, List.set_cons_succ]
      refine take_yes 7 17 rfl rfl (by kernel_rfl) (by kernel_rfl) (by kernel_rfl) (fun _ _ _ h => h) (by rfl) (by assumption) (v := ?_) ?_ ?_
      rotate_left
      · intro w hSw; (try dsimp only at hSw); go_simp; (try with_reducible rfl)
      try simp only [Act.put, List.setIfInBounds_toArray, List.set_cons_zero, List.set_cons_succ]
      refine take_yes 8 18 rfl rfl (by kernel_rfl) (by kernel_rfl) (by kernel_rfl) (fun _ _ _ h => h) (by rfl) (by assumption) (v := ?_) ?_ ?_
      rotate_left
      · intro w hSw; (try dsimp only at hSw); go_simp; (try with_reducible rfl)
      try simp only [Act.put, List.setIfInBounds_toArray, List.set_cons_zero, List.set_cons_succ]
      refine take_yes 9 19 rfl rfl (by kernel_rfl) (by kernel_rfl) (by kernel_rfl) (fun _ _ _ h => h) (by rfl) (by assumption) (v := ?_) ?_ ?_
      rotate_left
      · intro w hSw; (try dsimp only at hSw); go_simp; (try with_reducible rfl)
      try simp only [Act.put, List.setIfInBounds_toArray, List.set_cons_zero, List.set_cons_succ]
      refine wpAnyH_ready (rs := [10]) (by kernel_rfl) (by simp) ?_
      refine AllReadyH.cons (o := _) rfl (fun K hK => ?_) AllReadyH.nil
      go_simp
      refine (MC.out _).mono ?_
      rintro e v1 ⟨Am, cm, rfl, hm0, hFm⟩
      rw [← HXS.out] at hm0
      have hF1 := hHeld.2.trans hFm
      (try go_wp2_with fail)
      refine hK.out _ _ ?_ (fun hHeld => ?_)
      · (try dsimp only); exact HX.out _ hF1
      clear hK K
      try simp only [Act.put, List.setIfInBounds_toArray, List.set_cons_zero, List.set_cons_succ]
      refine wpAnyH_ready (rs := [11]) (by kernel_rfl) (by simp) ?_
      refine AllReadyH.cons (o := _) rfl (fun K hK => ?_) AllReadyH.nil
      go_simp
      refine (SA.out _ hF1 _ _ (RAt.of_own etF_len hm0)).mono ?_
      rintro e v2 ⟨rfl, hFx⟩
      have hF2 := hF1.trans hFx
      (try go_wp2_with fail)
      refine hK.out _ _ ?_ (fun hHeld => ?_)
      · (try dsimp only); exact HX.out _ hF2
      clear hK K
      try simp only [Act.put, List.setIfInBounds_toArray, List.set_cons_zero, List.set_cons_succ]
      refine take_yes 12 22 rfl rfl (by kernel_rfl) (by kernel_rfl) (by kernel_rfl) (fun _ _ _ h => h) (by rfl) (by assumption) (v := ?_) ?_ ?_
      rotate_left
      · intro w hSw; (try dsimp only at hSw); go_simp; (try with_reducible rfl)
      try simp only [Act.put, List.setIfInBounds_toArray, List.set_cons_zero, List.set_cons_succ]
      refine wpAnyH_done (by kernel_rfl) ?_ _
      have HF2 := Lib.hid hF2
      clear hHeld hG0 HX SA MC hF2 hFx hm0 hFm hF1
      go_wp2_with fail
      go_roundw
      case rel => exact ⟨j + 1, by omega, by go_num, HF2.out⟩
      case measure => (simp [intOf]) <;> omega
    · obtain rfl : j = L.length := by omega
      go_wp2_with fail
      go_ret
      exact ⟨rfl, HF.out⟩
theorem et_markedn (L : List (Bl (Mc × Mc × Int × List UInt8))) (n : Nat) (hn : L.length = n) (AL : Option Addr) (cl0 : Nat) (h : etLs w (.slice AL n cl0) L) (hm : Mk etM L) (hk : n ≤ 250) (hx : ∀ l, l ∈ L → l.xs.length ≤ 2072) :
    Calls Tryz.prog 167 #[.slice AL n cl0] w fun e w' => e = .returned (.bool true) ∧ Fr [] w w' := by
  subst hn
  exact et_marked L AL cl0 h hm hk hx
end
end Go.Proofs.YtfchbppfbepelaaGreat
