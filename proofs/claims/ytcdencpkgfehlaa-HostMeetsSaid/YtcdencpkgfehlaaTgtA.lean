/- tag.GetTags of any bytes. -/
import Derived.Test.YtcdencpkgfehlaaTgetA
import Derived.Test.YtcdencpkgfehlaaTagI
namespace Go.Proofs.Ytcdencpkgfehlaa
open Go.RowKit
set_option linter.unusedVariables false
/-- at most k tags, if bytes hold them -/
def tparse (k : Nat) (r : List UInt8) : Option (List Tg) :=
  if r = [] then some [] else if r.length < 2 then none else if getV r 0 2 = 0 then some [] else if r.length < 4 then none else if (r.length : Int) - 4 < getV r 2 2 then none
  else match k with
  | 0 => none
  | k + 1 => (tparse k (r.drop (4 + (getV r 2 2).toNat))).map fun l => (getV r 0 2, (r.drop 4).take (getV r 2 2).toNat) :: l
theorem tparse_nil (k : Nat) : tparse k [] = some [] := by unfold tparse; rw [if_pos rfl]
theorem tparse_two {k : Nat} {r : List UInt8} (h0 : r ≠ []) (h2 : r.length < 2) : tparse k r = none := by unfold tparse; rw [if_neg h0, if_pos h2]
theorem tparse_end {k : Nat} {r : List UInt8} (h0 : r ≠ []) (h2 : ¬ r.length < 2) (h3 : getV r 0 2 = 0) : tparse k r = some [] := by unfold tparse; rw [if_neg h0, if_neg h2, if_pos h3]
theorem tparse_four {k : Nat} {r : List UInt8} (h0 : r ≠ []) (h2 : ¬ r.length < 2) (h3 : getV r 0 2 ≠ 0) (h4 : r.length < 4) : tparse k r = none := by unfold tparse; rw [if_neg h0, if_neg h2, if_neg h3, if_pos h4]
theorem tparse_cut {k : Nat} {r : List UInt8} (h0 : r ≠ []) (h2 : ¬ r.length < 2) (h3 : getV r 0 2 ≠ 0) (h4 : ¬ r.length < 4) (h5 : (r.length : Int) - 4 < getV r 2 2) : tparse k r = none := by unfold tparse; rw [if_neg h0, if_neg h2, if_neg h3, if_neg h4, if_pos h5]
theorem tparse_many {r : List UInt8} (h0 : r ≠ []) (h2 : ¬ r.length < 2) (h3 : getV r 0 2 ≠ 0) (h4 : ¬ r.length < 4) (h5 : ¬ (r.length : Int) - 4 < getV r 2 2) : tparse 0 r = none := by unfold tparse; rw [if_neg h0, if_neg h2, if_neg h3, if_neg h4, if_neg h5]
theorem tparse_tag {k : Nat} {r s R : List UInt8} {t : Int} (h0 : r ≠ []) (h2 : ¬ r.length < 2) (ht : getV r 0 2 = t) (h3 : t ≠ 0) (h4 : ¬ r.length < 4) (h5 : ¬ (r.length : Int) - 4 < getV r 2 2)
    (hs : (r.drop 4).take (getV r 2 2).toNat = s) (hR : r.drop (4 + (getV r 2 2).toNat) = R) : tparse (k + 1) r = (tparse k R).map fun l => (t, s) :: l := by
  conv => lhs; unfold tparse
  rw [if_neg h0, if_neg h2, if_neg (by rw [ht]; exact h3), if_neg h4, if_neg h5]
  simp only [hs, hR, ht]
theorem tag_split (r : List UInt8) (h4 : ¬ r.length < 4) (hn : ¬ (r.length : Int) - 4 < getV r 2 2) : ∃ s R, r.drop 4 = s ++ R ∧ (s.length : Int) = getV r 2 2 ∧ (r.drop 4).take (getV r 2 2).toNat = s ∧ r.drop (4 + (getV r 2 2).toNat) = R := by
  have v := getV_bd r 2 2
  refine ⟨(r.drop 4).take (getV r 2 2).toNat, r.drop (4 + (getV r 2 2).toNat), ?_, ?_, rfl, rfl⟩
  · rw [← List.drop_drop, List.take_append_drop]
  · rw [List.length_take, List.length_drop]; omega
theorem tparse_len {k : Nat} {r : List UInt8} {l : List Tg} (h : tparse k r = some l) : l.length ≤ k ∧ ∀ t, t ∈ l → t.2.length ≤ r.length := by
  induction k generalizing r l with
  | zero =>
    unfold tparse at h
    repeat' split at h
    all_goals first | (cases h; done) | (injection h with h; subst h; simp) | contradiction
  | succ k ih =>
    by_cases h0 : r = []
    · subst h0; rw [tparse_nil] at h; injection h with h; subst h; simp
    by_cases h2 : r.length < 2
    · rw [tparse_two h0 h2] at h; cases h
    by_cases h3 : getV r 0 2 = 0
    · rw [tparse_end h0 h2 h3] at h; injection h with h; subst h; simp
    by_cases h4 : r.length < 4
    · rw [tparse_four h0 h2 h3 h4] at h; cases h
    by_cases h5 : (r.length : Int) - 4 < getV r 2 2
    · rw [tparse_cut h0 h2 h3 h4 h5] at h; cases h
    obtain ⟨s, R, e1, e2, e3, e4⟩ := tag_split r h4 h5
    rw [tparse_tag h0 h2 rfl h3 h4 h5 e3 e4] at h
    cases hq : tparse k R with
    | none => rw [hq] at h; cases h
    | some m =>
      rw [hq] at h
      injection h with h
      subst h
      obtain ⟨a, b⟩ := ih hq
      have hr : r.length = 4 + (s.length + R.length) := by
        have := congrArg List.length e1
        rw [List.length_drop, List.length_append] at this
        omega
      refine ⟨by simp; omega, fun t ht => ?_⟩
      rcases List.mem_cons.1 ht with rfl | ht
      · show s.length ≤ _; omega
      · have := b t ht; omega
theorem tgF_app (l : List Tg) (t : Tg) : tgF (l ++ [t]) = tgF l ++ tgL t := by unfold tgF; simp
theorem get_short (l : List UInt8) (k : Nat) (w : World) (hk : k ≤ l.length) (h : l.length < k + 2) (hl : l.length ≤ 3000) :
    Calls Try.prog 68 #[.string (B l), .int .i64 k, .int .i64 2] w fun e w' => e = .returned (.tuple #[.int .i64 0, .int .i64 5]) ∧ w = w' := by
  have hi : inB 2 1 4 = true := rfl
  have h1 : ¬ (l.length : Int) < k := by omega
  have h2 : (l.length : Int) - k < 2 := by omega
  have h3 : (l.length : Int) ≤ 3000 := by omega
  have h4 : (k : Int) ≤ 3000 := by omega
  go_enter Try.func68, Try.ntmps68
  go_wp2_with fail
  refine (in_any _ _ _ _).mono ?_
  rintro e w1 ⟨rfl, rfl⟩
  go_wp2
  go_ret2
  exact ⟨rfl, rfl⟩
/-- what GetTags tells -/
def GotA (w : World) : Option (List Tg) → Ending → World → Prop
  | some l, e, w' => ∃ A cap, e = .returned (.tuple #[.slice A l.length cap, .int .i64 0]) ∧ w'.ownsRow w.heap.size 54 2 (.slice A l.length cap) l.length (tgF l) ∧ Fr [] w w'
  | none, e, w' => ∃ x : Int, x ≠ 0 ∧ e = .returned (.tuple #[.slice none 0 0, .int .i64 x]) ∧ Fr [] w w'
theorem ne_nil_B {r : List UInt8} (h : r ≠ []) : (B r == ⟨#[]⟩) = false ∧ r.isEmpty = false := by
  refine ⟨?_, by cases r with | nil => exact absurd rfl h | cons a b => rfl⟩
  show ((B r).data == (#[] : Array UInt8)) = false
  rw [beq_eq_false_iff_ne]
  intro e
  have h2 : (B r).size = 0 := by rw [show B r = ⟨#[]⟩ from ByteArray.ext e]; rfl
  rw [B_size] at h2
  exact h (List.eq_nil_of_length_eq_zero h2)
section
variable {w : World}
set_option maxRecDepth 100000 in
set_option maxHeartbeats 8000000 in
theorem gettags_any (L : List UInt8) (hL : L.length ≤ 3000) :
    Calls Try.prog 41 #[.string (B L)] w (GotA w (tparse 20 L)) := by
  obtain ⟨i0, hi, hz0, hz1, hz2⟩ := info_parts infoTag
  obtain ⟨O, hO⟩ : ∃ O, tparse 20 L = O := ⟨_, rfl⟩
  rw [hO]
  have HO := Lib.hid hO
  have HLL := Lib.hid hL
  clear hO hL
  go_enter Try.func41, Try.ntmps41
  go_wp2_with fail
  go_loopw [0, 4] (fun bv ov wr => ∃ (r : List UInt8) (acc : List Tg), bv = .string (B r) ∧ r.length ≤ 3000 ∧ acc.length ≤ 20 ∧ O = (tparse (20 - acc.length) r).map (fun l => acc ++ l) ∧ wr.ownsRow w.heap.size 54 2 ov acc.length (tgF acc) ∧ Fr [] w wr) (fun bv _ _ => match bv with | .string s => s.size | _ => 0)
  case atStart => exact ⟨L, [], rfl, HLL.out, by simp, by rw [← HO.out]; simp, World.ownsRow_nil _ _ _ _, Fr.refl _ _⟩
  case round =>
    clear HO HLL
    obtain ⟨r, acc, rfl, hrl, hal, hp, hown, hF⟩ := hrel
    have HP := Lib.hid hp
    have HRL := Lib.hid hrl
    have HAL := Lib.hid hal
    clear hp hrl hal
    by_cases h0 : r = []
    · subst h0
      obtain ⟨A, cap, rfl⟩ := own_slice hown
      have HX : Hid (GotA w O (.returned (.tuple #[.slice A acc.length cap, .int .i64 0])) wr) := Lib.hid (by rw [HP.out, tparse_nil, Option.map_some, List.append_nil]; exact ⟨A, cap, rfl, hown, hF⟩)
      clear hown hF HP
      go_wp2_with fail
      go_ret2
      exact HX.out
    obtain ⟨hne, hie⟩ := ne_nil_B h0
    have hrl1 : (r.length : Int) ≤ 3000 := by have := HRL.out; omega
    have hrl0 : 1 ≤ (r.length : Int) := by cases r with | nil => exact absurd rfl h0 | cons x y => simp only [List.length_cons]; omega
    by_cases h2 : r.length < 2
    · have HX : Hid (GotA w O (.returned (.tuple #[.slice none 0 0, .int .i64 5])) wr) := Lib.hid (by rw [HP.out, tparse_two h0 h2]; exact ⟨5, by decide, rfl, hF⟩)
      have G1 : Hid (∀ (v : Int) W, v = 0 → Calls Try.prog 68 #[.string (B r), .int .i64 v, .int .i64 2] W fun e w' => e = .returned (.tuple #[.int .i64 0, .int .i64 5]) ∧ W = w') := Lib.hid fun v W hv => by subst hv; exact get_short r 0 W (by omega) (by omega) (by have := HRL.out; omega)
      have h2i : (r.length : Int) < 2 := by omega
      clear hown hF HP h2 h0
      go_wp2_with fail
      refine (G1.out _ _ (by with_reducible rfl)).mono ?_
      rintro e w1 ⟨rfl, rfl⟩
      go_wp2_with fail
      go_ret2
      exact HX.out
    have G1 : Hid (∀ (v : Int) W, v = 0 → Calls Try.prog 68 #[.string (B r), .int .i64 v, .int .i64 2] W fun e w' => e = .returned (.tuple #[.int .i64 (getV r 0 2), .int .i64 0]) ∧ W = w') := Lib.hid fun v W hv => by subst hv; exact get_2 r 0 W (by omega) (by have := HRL.out; omega)
    have tb := getV_bd r 0 2
    by_cases h3 : getV r 0 2 = 0
    · obtain ⟨A, cap, rfl⟩ := own_slice hown
      have HX : Hid (GotA w O (.returned (.tuple #[.slice A acc.length cap, .int .i64 0])) wr) := Lib.hid (by rw [HP.out, tparse_end h0 h2 h3, Option.map_some, List.append_nil]; exact ⟨A, cap, rfl, hown, hF⟩)
      rw [h3] at G1
      clear hown hF HP h2 h0 h3 tb
      go_wp2_with fail
      refine (G1.out _ _ (by with_reducible rfl)).mono ?_
      rintro e w1 ⟨rfl, rfl⟩
      go_wp2_with fail
      go_ret2
      exact HX.out
    by_cases h4 : r.length < 4
    · have HX : Hid (GotA w O (.returned (.tuple #[.slice none 0 0, .int .i64 5])) wr) := Lib.hid (by rw [HP.out, tparse_four h0 h2 h3 h4]; exact ⟨5, by decide, rfl, hF⟩)
      have G2 : Hid (∀ (v : Int) W, v = 2 → Calls Try.prog 68 #[.string (B r), .int .i64 v, .int .i64 2] W fun e w' => e = .returned (.tuple #[.int .i64 0, .int .i64 5]) ∧ W = w') := Lib.hid fun v W hv => by subst hv; exact get_short r 2 W (by omega) (by omega) (by have := HRL.out; omega)
      obtain ⟨t, ht⟩ : ∃ t, getV r 0 2 = t := ⟨_, rfl⟩
      rw [ht] at G1 h3
      have ht0 : (t == 0) = false := by rw [beq_eq_false_iff_ne]; exact h3
      clear hown hF HP h2 h0 h4 tb h3 ht
      go_wp2_with fail
      refine (G1.out _ _ (by with_reducible rfl)).mono ?_
      rintro e w1 ⟨rfl, rfl⟩
      go_wp2_with fail
      refine (G2.out _ _ (by with_reducible rfl)).mono ?_
      rintro e w1 ⟨rfl, rfl⟩
      go_wp2_with fail
      go_ret2
      exact HX.out
    have G2 : Hid (∀ (v : Int) W, v = 2 → Calls Try.prog 68 #[.string (B r), .int .i64 v, .int .i64 2] W fun e w' => e = .returned (.tuple #[.int .i64 (getV r 2 2), .int .i64 0]) ∧ W = w') := Lib.hid fun v W hv => by subst hv; exact get_2 r 2 W (by omega) (by have := HRL.out; omega)
    have nb := getV_bd r 2 2
    by_cases h5 : (r.length : Int) - 4 < getV r 2 2
    · have HX : Hid (GotA w O (.returned (.tuple #[.slice none 0 0, .int .i64 5])) wr) := Lib.hid (by rw [HP.out, tparse_cut h0 h2 h3 h4 h5]; exact ⟨5, by decide, rfl, hF⟩)
      obtain ⟨t, ht⟩ : ∃ t, getV r 0 2 = t := ⟨_, rfl⟩
      obtain ⟨n, hn⟩ : ∃ t, getV r 2 2 = t := ⟨_, rfl⟩
      rw [ht] at G1 h3
      rw [hn] at G2 h5
      have ht0 : (t == 0) = false := by rw [beq_eq_false_iff_ne]; exact h3
      clear hown hF HP h2 h0 h4 tb nb h3 ht hn
      go_wp2_with fail
      refine (G1.out _ _ (by with_reducible rfl)).mono ?_
      rintro e w1 ⟨rfl, rfl⟩
      go_wp2_with fail
      refine (G2.out _ _ (by with_reducible rfl)).mono ?_
      rintro e w1 ⟨rfl, rfl⟩
      go_wp2_with fail
      go_ret2
      exact HX.out
    obtain ⟨s, R, e1, e2, e3, e4⟩ := tag_split r h4 h5
    have hsl : (r.length : Int) = (s.length : Int) + R.length + 4 := by
      have := congrArg List.length e1
      rw [List.length_drop, List.length_append] at this
      omega
    have hLl : r.length = s.length + R.length + 4 := by omega
    obtain ⟨t, ht⟩ : ∃ t, getV r 0 2 = t := ⟨_, rfl⟩
    by_cases h6 : 20 ≤ acc.length
    · have HX : Hid (GotA w O (.returned (.tuple #[.slice none 0 0, .int .i64 2])) wr) := Lib.hid (by rw [HP.out, show 20 - acc.length = 0 from by omega, tparse_many h0 h2 h3 h4 h5]; exact ⟨2, by decide, rfl, hF⟩)
      rw [ht] at G1 h3
      rw [← e2] at G2
      have ht0 : (t == 0) = false := by rw [beq_eq_false_iff_ne]; exact h3
      have h6 : (20 : Int) ≤ acc.length := by omega
      obtain ⟨A, cap, rfl⟩ := own_slice hown
      clear hown hF HP h2 h0 h4 h5 tb nb h3 ht e1 e2 e3 e4 hsl
      go_wp2_with fail
      refine (G1.out _ _ (by with_reducible rfl)).mono ?_
      rintro e w1 ⟨rfl, rfl⟩
      go_wp2_with fail
      refine (G2.out _ _ (by with_reducible rfl)).mono ?_
      rintro e w1 ⟨rfl, rfl⟩
      go_wp2_with fail
      go_ret2
      exact HX.out
    have HT : Hid (tparse (20 - acc.length) r = (tparse (20 - (acc.length + 1)) R).map fun l => (t, s) :: l) := Lib.hid (by
      rw [show 20 - acc.length = (20 - (acc.length + 1)) + 1 from by omega]
      exact tparse_tag h0 h2 ht (by rw [← ht]; exact h3) h4 h5 e3 e4)
    have CL : Hid (∀ x W, x = B s → Calls Try.prog 35 #[.string x] W fun e w' => e = .returned (.string (B s)) ∧ Fr [] W w') := Lib.hid fun x W hx => by
      subst hx; exact clone_any s W (by omega)
    have HC1 : Hid (List.take s.length (List.drop 4 r) = s) := Lib.hid (by rw [e1]; simp)
    have HC2 : Hid (List.take (s.length + R.length + 4 - (4 + s.length)) (List.drop (4 + s.length) r) = R) := Lib.hid (by rw [← List.drop_drop, e1, List.drop_left, List.take_of_length_le (by omega)])
    have HLl := Lib.hid hLl
    obtain ⟨acc', hacc⟩ : ∃ a, acc ++ [(t, s)] = a := ⟨_, rfl⟩
    have HA1 : Hid (acc'.length = acc.length + 1) := Lib.hid (by rw [← hacc]; simp)
    have HA2 : Hid (tgF acc' = tgF acc ++ tgL (t, s)) := Lib.hid (by rw [← hacc, tgF_app])
    have HA3 : Hid (O = (tparse (20 - (acc.length + 1)) R).map (fun l => acc' ++ l)) := Lib.hid (by
      rw [HP.out, HT.out, ← hacc, Option.map_map]
      congr 1
      funext l
      simp)
    rw [ht] at G1 h3 tb
    rw [← e2] at G2
    have ht0 : (t == 0) = false := by rw [beq_eq_false_iff_ne]; exact h3
    have hj19 : ¬ (20 : Int) ≤ acc.length := by omega
    have hjb : (acc.length : Int) ≤ 20 := by omega
    have hsb : (s.length : Int) ≤ 3000 := by omega
    have hrb : (R.length : Int) ≤ 3000 := by omega
    have f1 : wrap64 (4 + (s.length : Int)) = 4 + (s.length : Int) := by unfold wrap64; omega
    have f5 : (4 + (s.length : Int)).toNat = 4 + s.length := by omega
    obtain ⟨A1, c1, rfl⟩ := own_slice hown
    clear HT HP hacc h2 h0 hrl0 h4 h5 h6 tb nb h3 ht e1 e2 e3 e4 hsl hrl1
    go_wp2_with fail
    refine (G1.out _ _ (by with_reducible rfl)).mono ?_
    rintro e w1 ⟨rfl, rfl⟩
    go_wp2_with fail
    refine (G2.out _ _ (by with_reducible rfl)).mono ?_
    rintro e w1 ⟨rfl, rfl⟩
    go_wp2_with fail
    refine (CL.out _ _ ?_).mono ?_
    · rw [HC1.out]
    rintro e w2 ⟨rfl, hF2⟩
    have hown2 := own_fr0 hown hF2
    have hF3 := hF.trans hF2
    have hs3 := hF3.size
    clear hown hF hF2
    go_wp2_with (at_builtin; refine wpList_append_own _ rfl _ _ 90 rfl w.heap.size 54 i0 (.agg #[.int .i64 0, .string ⟨#[]⟩]) 2 24 Try.underlying90 hi hz0 hz1 hz2 rfl (by decide) _ acc.length _ rfl (hown2.alloc _) ⟨w2.heap.size, 0, none⟩ 1 1 (tgL (t, s)) rfl rfl ?d1 ?d2 ?d3 ?d4 ?d5 ?_)
    case d1 => exact new_cells w2 (tgL (t, s)) 54
    case d2 => simp [tgL, Value.oneCell']
    case d3 => unfold maxLen; omega
    case d4 => omega
    case d5 => simp; omega
    intro v2 w3 hown3 hgr3 _
    have hF4 := (hF3.alloc (.cells #[.int .i64 t, .string (B s)] 54 (0, 0))).grown hgr3 (fun q hq => own_new hown2 q hq)
    rw [← HA2.out] at hown3
    rw [← HA1.out] at hown3
    clear hown2 hgr3 hF3
    go_wp2_with fail
    rw [HC2.out]
    go_roundw
    case rel => exact ⟨R, acc', rfl, by omega, by rw [HA1.out]; omega, by rw [HA1.out]; exact HA3.out, hown3, hF4⟩
    case measure => simp only [B_size]; have := HLl.out; omega
end
end Go.Proofs.Ytcdencpkgfehlaa
