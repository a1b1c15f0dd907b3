/- DigestTurns, DigestGroup, DigestLike, walked. -/
import Derived.Test.YtgeoldcddfmgnaaAlive2
namespace Go.Proofs.Ytgeoldcddfmgnaa
open Go.RowKit
set_option linter.unusedVariables false

theorem rotI_add (r s X : Int) (x0 : 0 ≤ X) (x1 : X < 4294967296) : rotI s (rotI r X) = rotI (r + s) X := by
  have h := rotN_mod ((s % 32).toNat + (r % 32).toNat) X.toNat (by omega)
  rw [rotN_add] at h
  unfold rotI
  rw [Int.toNat_natCast, ← h]
  congr 2
  omega
theorem rotI_zero (r X : Int) (x0 : 0 ≤ X) (x1 : X < 4294967296) (hr : r % 32 = 0) : rotI r X = X := by
  unfold rotI
  rw [hr]
  show ((X.toNat : Nat) : Int) = X
  omega
theorem tmod_32 (n : Int) : -32 < n.tmod 32 ∧ n.tmod 32 < 32 ∧ n % 32 = n.tmod 32 % 32 := by
  rw [Int.tmod_eq_emod]
  split <;> omega

set_option maxHeartbeats 1000000 in
theorem digestTurns_walk (w : World) (X : Int) (x0 : 0 ≤ X) (x1' : X ≤ 4294967295) (n : Int) (n0 : -9223372036854775808 ≤ n) (n1 : n ≤ 9223372036854775807) (m : Int) (m0 : -9223372036854775808 ≤ m) (m1 : m ≤ 9223372036854775807) :
    Calls Try.prog 4 #[.int .u32 X, .int .i64 n, .int .i64 m] w fun e w' => e = .returned (.bool true) ∧ Below w.heap.size w w' := by
  have x1 : X < 4294967296 := by omega
  clear x1'
  obtain ⟨r1, r2, r3⟩ := tmod_32 n
  obtain ⟨s1, s2, s3⟩ := tmod_32 m
  have hA := rotI_bd n X x0 x1
  have h1 : rotI (-(n.tmod 32)) (rotI n X) = X := by rw [rotI_add n _ X x0 x1]; exact rotI_zero _ X x0 x1 (by omega)
  have hB := rotI_bd (n.tmod 32) X x0 x1
  have h2 : rotI (m.tmod 32) (rotI (n.tmod 32) X) = rotI (n.tmod 32 + m.tmod 32) X := rotI_add _ _ X x0 x1
  obtain ⟨r, hr⟩ : ∃ r, n.tmod 32 = r := ⟨_, rfl⟩
  obtain ⟨s, hs⟩ : ∃ s, m.tmod 32 = s := ⟨_, rfl⟩
  rw [hr] at r1 r2 r3 h1 hB h2
  rw [hs] at s1 s2 s3 h2
  obtain ⟨Y, hY⟩ : ∃ Y, rotI n X = Y := ⟨_, rfl⟩
  obtain ⟨Z, hZ⟩ : ∃ Z, rotI r X = Z := ⟨_, rfl⟩
  rw [hY] at hA h1
  rw [hZ] at hB h2
  obtain ⟨y0, y1⟩ := hA
  obtain ⟨z0, z1⟩ := hB
  clear r3 s3
  go_enter Try.func4, Try.ntmps4
  go_wp2_with (first
    | (go_at_call 20; refine (rotate_i _ _ _ (by assumption) (by assumption)).mono ?_; rintro e w' ⟨rfl, rfl⟩)
    | (go_at_call 21; refine (rrotate_i _ _ _ (by assumption) (by assumption)).mono ?_; rintro e w' ⟨rfl, rfl⟩)
    | (go_at_call 15; refine (alive2 _).mono ?_; rintro e w1 ⟨rfl, hF⟩))
  go_ret
  exact ⟨rfl, hF.below (Nat.le_refl _) (by simp)⟩

theorem digestLike_big (w : World) (a b c : List UInt8) (ha : a.length ≤ 140737488351232) (hb : b.length ≤ 140737488351232) (hc : c.length ≤ 140737488351232) (h : 3000 < a.length + b.length + c.length) :
    Calls Try.prog 6 #[.string (B a), .string (B b), .string (B c)] w fun e w' => e = .returned (.bool true) ∧ Below w.heap.size w w' := by
  have i1 : (3000 : Int) < (a.length : Int) + b.length + c.length := by omega
  clear h
  go_enter Try.func6, Try.ntmps6
  go_wp2_with fail
  refine (alive2 _).mono ?_
  rintro e w1 ⟨rfl, hF⟩
  go_wp2
  go_ret
  exact ⟨rfl, hF.below (Nat.le_refl _) (by simp)⟩
theorem digestLike_small (w : World) (a b c : List UInt8) (h : a.length + b.length + c.length ≤ 3000) (x y z : Bool) (h1 : sameB a b = x) (h2 : sameB b a = x) (h3 : sameB b c = y) (h4 : sameB a c = z) (hz : x = true → y = true → z = true) :
    Calls Try.prog 6 #[.string (B a), .string (B b), .string (B c)] w fun e w' => e = .returned (.bool true) ∧ Below w.heap.size w w' := by
  have i1 : ¬ (3000 : Int) < (a.length : Int) + b.length + c.length := by omega
  have la : a.length ≤ 140737488351232 := by omega
  have lb : b.length ≤ 140737488351232 := by omega
  have lc : c.length ≤ 140737488351232 := by omega
  have lx : (a ++ [120]).length ≤ 140737488351232 := by simp; omega
  have hq : ¬ 9223372036854775807 < a.length + 1 := by omega
  have h5 : sameB a (a ++ [120]) = false := sameB_ne (fun e => by have := congrArg List.length e; simp at this)
  have Hx := Lib.hid lx
  clear h lx
  cases x with
  | false =>
    go_enter Try.func6, Try.ntmps6
    go_wp2_with (first
      | (go_at_call 22; refine (same_b _ _ _ (by assumption) (by first | assumption | exact Hx.out)).mono ?_; rintro e w' ⟨rfl, n, rfl⟩)
      | (go_at_call 15; refine (alive2 _).mono ?_; rintro e w1 ⟨rfl, hF⟩))
    go_ret
    exact ⟨rfl, (hF.drewN _).below (Nat.le_refl _) (by simp)⟩
  | true =>
    cases y with
    | false =>
      go_enter Try.func6, Try.ntmps6
      go_wp2_with (first
        | (go_at_call 22; refine (same_b _ _ _ (by assumption) (by first | assumption | exact Hx.out)).mono ?_; rintro e w' ⟨rfl, n, rfl⟩)
        | (go_at_call 15; refine (alive2 _).mono ?_; rintro e w1 ⟨rfl, hF⟩))
      go_ret
      exact ⟨rfl, (hF.drewN _).below (Nat.le_refl _) (by simp)⟩
    | true =>
      have hz' := hz rfl rfl
      subst hz'
      clear hz
      go_enter Try.func6, Try.ntmps6
      go_wp2_with (first
        | (go_at_call 22; refine (same_b _ _ _ (by assumption) (by first | assumption | exact Hx.out)).mono ?_; rintro e w' ⟨rfl, n, rfl⟩)
        | (go_at_call 15; refine (alive2 _).mono ?_; rintro e w1 ⟨rfl, hF⟩))
      go_ret
      exact ⟨rfl, (hF.drewN _).below (Nat.le_refl _) (by simp)⟩

theorem digestLike_walk (w : World) (s : ByteArray) (hs : s.size ≤ 140737488351232) (t : ByteArray) (ht : t.size ≤ 140737488351232) (u : ByteArray) (hu : u.size ≤ 140737488351232) :
    Calls Try.prog 6 #[.string s, .string t, .string u] w fun e w' => e = .returned (.bool true) ∧ Below w.heap.size w w' := by
  obtain ⟨a, rfl⟩ : ∃ l, s = B l := ⟨_, B_of s⟩
  obtain ⟨b, rfl⟩ : ∃ l, t = B l := ⟨_, B_of t⟩
  obtain ⟨c, rfl⟩ : ∃ l, u = B l := ⟨_, B_of u⟩
  rw [B_size] at hs ht hu
  by_cases h : 3000 < a.length + b.length + c.length
  · exact digestLike_big w a b c hs ht hu h
  · refine digestLike_small w a b c (by omega) _ _ _ rfl ?_ rfl rfl ?_
    · unfold sameB; exact decide_eq_decide.2 ⟨Eq.symm, Eq.symm⟩
    · unfold sameB; simp only [decide_eq_true_eq]; exact Eq.trans

theorem bit_at (X : Int) (x0 : 0 ≤ X) (x1 : X < 4294967296) (i : Nat) : bits .and .u32 (X / 2 ^ i) 1 = ((X.toNat / 2 ^ i % 2 : Nat) : Int) := by
  obtain ⟨x, rfl⟩ : ∃ k : Nat, X = k := ⟨X.toNat, by omega⟩
  have e : ((x : Int) / 2 ^ i) = ((x / 2 ^ i : Nat) : Int) := by simp
  rw [e, Int.toNat_natCast]
  have h := u32_and_nat (x / 2 ^ i) 1 (Nat.lt_of_le_of_lt (Nat.div_le_self _ _) (by omega)) (by omega)
  rw [nat_mask1] at h
  exact h
theorem ones_rotI (n X : Int) (x0 : 0 ≤ X) (x1 : X < 4294967296) : ones 32 (rotI n X).toNat = ones 32 X.toNat := by
  unfold rotI
  rw [Int.toNat_natCast]
  exact ones_rot _ _ (by omega)
theorem ones_le (k x : Nat) : ones k x ≤ k := by
  induction k with
  | zero => simp [ones]
  | succ k ih => simp only [ones]; omega

set_option maxHeartbeats 2000000 in
theorem digestGroup_walk (w : World) (X : Int) (x0 : 0 ≤ X) (x1' : X ≤ 4294967295) (n : Int) (n0 : -9223372036854775808 ≤ n) (n1 : n ≤ 9223372036854775807) (m : Int) (m0 : -9223372036854775808 ≤ m) (m1 : m ≤ 9223372036854775807) :
    Calls Try.prog 5 #[.int .u32 X, .int .i64 n, .int .i64 m] w fun e w' => e = .returned (.bool true) ∧ Below w.heap.size w w' := by
  have x1 : X < 4294967296 := by omega
  clear x1'
  have a1 := and31 n
  have a2 := and31 m
  obtain ⟨r, hr⟩ : ∃ r, n % 32 = r := ⟨_, rfl⟩
  obtain ⟨s, hs⟩ : ∃ s, m % 32 = s := ⟨_, rfl⟩
  have r0 : 0 ≤ r := by omega
  have r1 : r < 32 := by omega
  have s0 : 0 ≤ s := by omega
  have s1 : s < 32 := by omega
  rw [hr] at a1
  rw [hs] at a2
  have Hrs := Lib.hid (And.intro hr hs)
  have hA := rotI_bd r X x0 x1
  have h1 : rotI s (rotI r X) = rotI (r + s) X := rotI_add _ _ X x0 x1
  have hB := rotI_bd s (rotI r X) hA.1 hA.2
  have ho : ones 32 (rotI s (rotI r X)).toNat = ones 32 X.toNat := by rw [ones_rotI _ _ hA.1 hA.2, ones_rotI _ _ x0 x1]
  have hz : rotI 32 X = X := rotI_zero _ X x0 x1 (by decide)
  have hz0 : rotI 0 X = X := rotI_zero _ X x0 x1 (by decide)
  obtain ⟨Y, hY⟩ : ∃ Y, rotI r X = Y := ⟨_, rfl⟩
  rw [hY] at hA h1 hB ho
  obtain ⟨Z, hZ⟩ : ∃ Z, rotI s Y = Z := ⟨_, rfl⟩
  rw [hZ] at hB h1 ho
  obtain ⟨y0, y1⟩ := hA
  obtain ⟨z0, z1⟩ := hB
  have Ho := Lib.hid ho
  have H1 : rotI (r + s) X = Z := h1.symm
  clear hr hs ho h1 n0 n1 m0 m1
  go_enter Try.func5, Try.ntmps5
  go_wp2_with (first
    | (go_at_call 20; refine (rotate_i _ _ _ (by assumption) (by assumption)).mono ?_; rintro e w' ⟨rfl, rfl⟩))
  have Hyz := Lib.hid (And.intro hY hZ)
  clear hY hZ a1 a2 hz hz0 H1
  go_loopw [8, 9] (fun ov iv wr => ∃ i : Nat, i ≤ 32 ∧ iv = .int .i64 i ∧ ov = .int .i64 ((ones i X.toNat : Int) - (ones i Z.toNat : Int)) ∧ ∃ n, wr = w.drewN n) (fun _ iv _ => 32 - (intOf iv).toNat)
  case atStart => exact ⟨0, by omega, rfl, rfl, 0, rfl⟩
  case round =>
    obtain ⟨i, hi, rfl, rfl, nd, rfl⟩ := hrel
    have hX := bit_at X x0 x1 i
    have hZ := bit_at Z z0 z1 i
    have hn : ∀ x, ones (i + 1) x = ones i x + x / 2 ^ i % 2 := fun x => rfl
    have l1 := ones_le i X.toNat
    have l2 := ones_le i Z.toNat
    obtain ⟨P, hP⟩ : ∃ P : Nat, X.toNat / 2 ^ i % 2 = P := ⟨_, rfl⟩
    obtain ⟨Q, hQ⟩ : ∃ P : Nat, Z.toNat / 2 ^ i % 2 = P := ⟨_, rfl⟩
    have p1 : P < 2 := by omega
    have q1 : Q < 2 := by omega
    rw [hP] at hX
    rw [hQ] at hZ
    have eO : ((ones i X.toNat : Int) - (ones i Z.toNat : Int)) + ((P : Int) - (Q : Int)) = (ones (i + 1) X.toNat : Int) - (ones (i + 1) Z.toNat : Int) := by
      rw [hn, hn, hP, hQ]; omega
    obtain ⟨O, hO⟩ : ∃ O : Int, (ones i X.toNat : Int) - (ones i Z.toNat : Int) = O := ⟨_, rfl⟩
    rw [hO] at eO ⊢
    have o0 : -32 ≤ O := by omega
    have o1 : O ≤ 32 := by omega
    obtain ⟨P', hP'⟩ : ∃ x : Int, (P : Int) = x := ⟨_, rfl⟩
    obtain ⟨Q', hQ'⟩ : ∃ x : Int, (Q : Int) = x := ⟨_, rfl⟩
    rw [hP'] at hX eO
    rw [hQ'] at hZ eO
    have p0 : 0 ≤ P' ∧ P' < 2 := by omega
    have q0 : 0 ≤ Q' ∧ Q' < 2 := by omega
    have HO := Lib.hid hO
    have He := Lib.hid eO
    obtain ⟨p0, p2⟩ := p0
    obtain ⟨q0, q2⟩ := q0
    have v1 : wrap64 P' = P' := IntWalk.wrap64_in _ (by omega)
    have v2 : wrap64 Q' = Q' := IntWalk.wrap64_in _ (by omega)
    have v3 : wrap64 (P' - Q') = P' - Q' := IntWalk.wrap64_in _ (by omega)
    have v4 : wrap64 (O + (P' - Q')) = O + (P' - Q') := IntWalk.wrap64_in _ (by omega)
    clear hP' hQ' hP hQ p1 q1 l1 l2 hn eO
    by_cases hlt : i < 32
    · clear hO
      go_wp2
      go_quiet (fail)
      go_wp2
      go_roundw
      case rel => exact ⟨i + 1, by omega, by go_num, by rw [← He.out], _, rfl⟩
      case measure => (simp [intOf]) <;> omega
    · have h32 : i = 32 := by omega
      have hO0 : O = 0 := by rw [← HO.out, h32, Ho.out]; omega
      obtain ⟨hY, hZ'⟩ := Hyz.out
      have H1 : rotI (r + s) X = Z := by rw [← hZ', ← hY, rotI_add r s X x0 x1]
      have hz : rotI 32 X = X := rotI_zero _ X x0 x1 (by decide)
      have hz0 : rotI 0 X = X := rotI_zero _ X x0 x1 (by decide)
      have a1 := and31 n
      have a2 := and31 m
      rw [Hrs.out.1] at a1
      rw [Hrs.out.2] at a2
      subst hO0
      clear hX hZ v1 v2 v3 v4 hY hZ' h32 hO
      go_wp2_with (first
        | (go_at_call 20; refine (rotate_i _ _ _ (by assumption) (by assumption)).mono ?_; rintro e w' ⟨rfl, rfl⟩)
        | (go_at_call 15; refine (alive2 _).mono ?_; rintro e w1 ⟨rfl, hF⟩))
      go_ret
      exact ⟨rfl, (((Fr.refl [] w).drewN nd).trans hF).below (Nat.le_refl _) (by simp)⟩
end Go.Proofs.Ytgeoldcddfmgnaa
