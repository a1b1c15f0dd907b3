/- tag.GetTags of what tag.PutTags laid. -/
import Derived.Test.YtcdencpkgfehlaaTagH
namespace Go.Proofs.Ytcdencpkgfehlaa
open Go.RowKit
set_option linter.unusedVariables false
theorem own_fr0 {w w' : World} {base e sz n : Nat} {v : Value} {ys : List Value} (h : w.ownsRow base e sz v n ys) (hF : Fr [] w w') : w'.ownsRow base e sz v n ys :=
  ⟨h.1, h.2.imp id fun ⟨g, cap, cur, h1, h2, h3, h4⟩ => ⟨g, cap, cur, h1, h2, hF.blk (b := g) h3 (by simp), h4⟩⟩
theorem tgsB_drop {l : List Tg} {j : Nat} {t : Tg} (h : l[j]? = some t) : tgsB (l.drop j) = be 2 t.1 ++ (be 2 (t.2.length : Int) ++ (t.2 ++ tgsB (l.drop (j + 1)))) := by
  have hj := (List.getElem?_eq_some_iff.1 h).1
  have he := (List.getElem?_eq_some_iff.1 h).2
  rw [List.drop_eq_getElem_cons hj, he]
  unfold tgsB
  rw [List.flatMap_cons]
  unfold tgB
  simp
theorem tgsB_end (l : List Tg) : tgsB (l.drop l.length) = [] := by rw [List.drop_length]; rfl
theorem tgF_snoc {l : List Tg} {j : Nat} {t : Tg} (h : l[j]? = some t) : tgF (l.take (j + 1)) = tgF (l.take j) ++ tgL t := by
  unfold tgF
  rw [List.take_add_one, h, List.flatMap_append]
  simp
def GotT (w : World) (l : List Tg) (e : Ending) (w' : World) : Prop := ∃ A cap, e = .returned (.tuple #[.slice A l.length cap, .int .i64 0]) ∧ TgAt w' A l ∧ l.length ≤ cap ∧ cap ≤ maxLen ∧ Fr [] w w'
section
variable {w : World}
set_option maxRecDepth 100000 in
set_option maxHeartbeats 8000000 in
theorem gettags_ok (l : List Tg) (hok : ∀ t, t ∈ l → TgOk t ∧ t.2.length ≤ 1494) (hl : l.length ≤ 20) (hs : (tgsB l).length ≤ 1494) :
    Calls Try.prog 41 #[.string (B (tgsB l))] w (GotT w l) := by
  obtain ⟨i0, hi, hz0, hz1, hz2⟩ := info_parts infoTag
  have HOK := Lib.hid hok
  have HS := Lib.hid hs
  have HL := Lib.hid hl
  clear hok hs
  go_enter Try.func41, Try.ntmps41
  go_wp2_with fail
  go_loopw [0, 4] (fun bv ov wr => ∃ j : Nat, j ≤ l.length ∧ bv = .string (B (tgsB (l.drop j))) ∧ wr.ownsRow w.heap.size 54 2 ov j (tgF (l.take j)) ∧ Fr [] w wr) (fun bv _ _ => match bv with | .string s => s.size | _ => 0)
  case atStart => exact ⟨0, by omega, rfl, World.ownsRow_nil _ _ _ _, Fr.refl _ _⟩
  case round =>
    obtain ⟨j, hj, rfl, hown, hF⟩ := hrel
    by_cases hjl : j < l.length
    · obtain ⟨⟨t, s⟩, ht⟩ : ∃ t, l[j]? = some t := ⟨_, List.getElem?_eq_getElem hjl⟩
      obtain ⟨⟨hk0, hk1⟩, hsl⟩ := HOK.out _ (List.mem_of_getElem? ht)
      have hd := tgsB_drop ht
      have hsn := tgF_snoc ht
      simp only at hk0 hk1 hsl hd
      obtain ⟨R, hR⟩ : ∃ R, tgsB (l.drop (j + 1)) = R := ⟨_, rfl⟩
      rw [hR] at hd
      obtain ⟨L, hL⟩ : ∃ L, be 2 t ++ (be 2 (s.length : Int) ++ (s ++ R)) = L := ⟨_, rfl⟩
      rw [hL] at hd
      rw [hd]
      have hRs : R.length ≤ 1494 := by
        have h1 : tgsB l = tgsB (l.take (j + 1)) ++ tgsB (l.drop (j + 1)) := by
          unfold tgsB
          rw [← List.flatMap_append, List.take_append_drop]
        have h2 := HS.out
        rw [h1, List.length_append, hR] at h2
        omega
      have hLl : L.length = s.length + R.length + 4 := by rw [← hL]; simp [be_length]; omega
      have hne : (B L == ⟨#[]⟩) = false := by
        show ((B L).data == (#[] : Array UInt8)) = false
        rw [beq_eq_false_iff_ne]
        intro h
        have h2 : (B L).size = 0 := by rw [show B L = ⟨#[]⟩ from ByteArray.ext h]; rfl
        rw [B_size] at h2
        omega
      have hie : L.isEmpty = false := by cases L with | nil => simp at hLl | cons a b => rfl
      have G1 : Hid (∀ (v : Int) W, v = 0 → Calls Try.prog 68 #[.string (B L), .int .i64 v, .int .i64 2] W fun e w' => e = .returned (.tuple #[.int .i64 t, .int .i64 0]) ∧ W = w') := Lib.hid fun v W hv => by
        have := get_2 L 0 W (by omega) (by omega)
        have hg := getV_be [] (be 2 (s.length : Int) ++ (s ++ R)) t (by omega) (by omega)
        rw [List.nil_append, hL] at hg
        rw [show ([] : List UInt8).length = 0 from rfl] at hg
        rw [hg] at this
        rw [hv]; exact this
      have G2 : Hid (∀ (v : Int) W, v = 2 → Calls Try.prog 68 #[.string (B L), .int .i64 v, .int .i64 2] W fun e w' => e = .returned (.tuple #[.int .i64 (s.length : Int), .int .i64 0]) ∧ W = w') := Lib.hid fun v W hv => by
        have := get_2 L 2 W (by omega) (by omega)
        have hg := getV_be (be 2 t) (s ++ R) (s.length : Int) (by omega) (by omega)
        rw [hL] at hg
        rw [be_length] at hg
        rw [hg] at this
        rw [hv]; exact this
      have CL : Hid (∀ x W, x = B s → Calls Try.prog 35 #[.string x] W fun e w' => e = .returned (.string (B s)) ∧ Fr [] W w') := Lib.hid fun x W hx => by
        subst hx; exact clone_any s W (by omega)
      have hd4 : L.drop 4 = s ++ R := by
        rw [← hL, ← List.append_assoc, List.drop_append_of_le_length (by simp [be_length]), List.drop_of_length_le (by simp [be_length]), List.nil_append]
      have HC1 : Hid (List.take s.length (List.drop 4 L) = s) := Lib.hid (by rw [hd4]; simp)
      have HC2 : Hid (List.take (s.length + R.length + 4 - (4 + s.length)) (List.drop (4 + s.length) L) = R) := Lib.hid (by rw [← List.drop_drop, hd4, List.drop_left, List.take_of_length_le (by omega)])
      have HLl := Lib.hid hLl
      have hjb : (j : Int) ≤ 20 := by omega
      have hj19 : ¬ (20 : Int) ≤ j := by omega
      have ht0 : (t == 0) = false := by rw [beq_eq_false_iff_ne]; omega
      have hsb : (s.length : Int) ≤ 1494 := by omega
      have hrb : (R.length : Int) ≤ 1494 := by omega
      have f1 : wrap64 (4 + (s.length : Int)) = 4 + (s.length : Int) := by unfold wrap64; omega
      have f5 : (4 + (s.length : Int)).toNat = 4 + s.length := by omega
      have HSN := Lib.hid hsn
      have HR := Lib.hid hR
      obtain ⟨A1, c1, rfl⟩ := own_slice hown
      clear hR hL hd ht hd4 hsn hk0 hk1 hsl hRs
      go_wp2_with fail
      refine (G1.out _ _ (by with_reducible rfl)).mono ?_
      rintro e w1 ⟨rfl, rfl⟩
      go_wp2_with fail
      refine (G2.out _ _ (by with_reducible rfl)).mono ?_
      rintro e w1 ⟨rfl, rfl⟩
      go_wp2_with fail
      refine (CL.out _ _ ?_).mono ?_
      · rw [HC1.out]
      rintro e w2 ⟨rfl, hF2⟩
      have hown2 := own_fr0 hown hF2
      have hF3 := hF.trans hF2
      have hs3 := hF3.size
      clear hown hF hF2
      go_wp2_with (at_builtin; refine wpList_append_own _ rfl _ _ 90 rfl w.heap.size 54 i0 (.agg #[.int .i64 0, .string ⟨#[]⟩]) 2 24 Try.underlying90 hi hz0 hz1 hz2 rfl (by decide) _ j _ rfl (hown2.alloc _) ⟨w2.heap.size, 0, none⟩ 1 1 (tgL (t, s)) rfl rfl ?d1 ?d2 ?d3 ?d4 ?d5 ?_)
      case d1 => exact new_cells w2 (tgL (t, s)) 54
      case d2 => simp [tgL, Value.oneCell']
      case d3 => unfold maxLen; omega
      case d4 => omega
      case d5 => simp; omega
      intro v2 w3 hown3 hgr3 _
      have hF4 := (hF3.alloc (.cells #[.int .i64 t, .string (B s)] 54 (0, 0))).grown hgr3 (fun q hq => own_new hown2 q hq)
      rw [← HSN.out] at hown3
      clear hown2 hgr3 hF3
      go_wp2_with fail
      rw [HC2.out]
      go_roundw
      case rel => exact ⟨j + 1, by omega, by rw [HR.out], hown3, hF4⟩
      case measure => simp only [B_size]; have := HLl.out; omega
    · obtain rfl : j = l.length := by omega
      have hA : tgsB (l.drop l.length) = [] := tgsB_end l
      rw [List.take_length] at hown
      rw [hA]
      obtain ⟨A, cap, rfl⟩ := own_slice hown
      have hc := own_caps hown
      have HX : Hid (GotT w l (.returned (.tuple #[.slice A l.length cap, .int .i64 0])) wr) := Lib.hid ⟨A, cap, rfl, TgAt.of_own hown, hc.1, hc.2, hF⟩
      clear hown hF hc hA
      go_wp2_with fail
      go_ret2
      exact HX.out
end
end Go.Proofs.Ytcdencpkgfehlaa
