/- CookieIs: the plain laws (the walk is not typed yet). -/
import Derived.Test.YtgeoldcddfmgnaaLawC1
namespace Go.Proofs.Ytgeoldcddfmgnaa
open Go.RowKit
set_option linter.unusedVariables false

theorem be8_small (e : Int) (h0 : 0 ≤ e) (h1 : e < 4294967296) : be 8 e = [0, 0, 0, 0] ++ be 4 e := by
  have a0 : e / 256 / 256 / 256 / 256 / 256 / 256 / 256 % 256 = 0 := by omega
  have a1 : e / 256 / 256 / 256 / 256 / 256 / 256 % 256 = 0 := by omega
  have a2 : e / 256 / 256 / 256 / 256 / 256 % 256 = 0 := by omega
  have a3 : e / 256 / 256 / 256 / 256 % 256 = 0 := by omega
  simp [be, a0, a1, a2, a3]

/-- a whole array is loaded, its guard says yes -/
theorem wpList_load_yes {P : Program} {ops : Array Oper} {rest : List Oper} {op : Oper} {a : Act} {w : World} {Q : Exit → Act → World → Prop} (hw : Region.wanted op (yielded ops a.tmps) = true) (ty : TypeId) (x : Operand) (ho : op.op = .load ty x)
    (b T : Nat) (cs : Array Value) (d : TypeDesc) (hB : Blk w b cs T) (hx : a.eval x = .pointer (some ⟨b, 0, none⟩))
    (hu : P.underlying ty = some d) (hd : d.isRow = true) (hi : (P.info? ty).map (·.size) = some cs.size)
    (h : wpList P ops Q rest (a.put op.dst (.agg cs)) w) : wpList P ops Q (op :: rest) a w :=
  wpList_step fun K hK => by
    rw [if_pos hw]
    refine wp_load_mid ty x ho b 0 hx cs.toList d hB.rangeAt hu hd (by rw [Array.length_toList]; exact hi) (hK _ _ ?_)
    simpa using h
theorem md5_at (l : List UInt8) (D : List UInt8) (WD : Array Value) (hD : md5 l = D) (hW : arr8 D = WD) (hl : l.length ≤ 100000) (w : World) :
    Calls Try.prog 16 #[.string (B l)] w fun e w' => e = .returned (.agg WD) ∧ Fr [] w w' := by
  have := md5_any l w hl
  rw [hD, hW] at this; exact this
theorem text_at (D : List UInt8) (WD : Array Value) (hW : arr8 D = WD) (hl : D.length = 16) (w : World) :
    Calls Try.prog 18 #[.agg WD] w fun e w' => e = .returned (.string (B D)) ∧ Fr [] w w' := by
  have := text_any D w hl
  rw [hW] at this; exact this
theorem eqB_B (D E : List UInt8) : ((D == E) == eqB D E) = true := by
  unfold eqB
  by_cases h : D = E <;> simp [h]

set_option maxRecDepth 100000 in
set_option maxHeartbeats 4000000 in
theorem cookieIs_small (w : World) (s o : List UInt8) (m0 m1 m2 m3 m4 m5 n0 n1 n2 n3 n4 n5 : Int) (v : List UInt8) (t : Int) (h1 : ¬ (1000 : Int) < (s.length : Int) + o.length + v.length) (h2 : ¬ t < 0) (h3 : ¬ 1073741824 < t) :
    Calls Try.prog 14 #[.string (B s), .string (B o), .agg #[.int .u8 m0, .int .u8 m1, .int .u8 m2, .int .u8 m3, .int .u8 m4, .int .u8 m5], .agg #[.int .u8 n0, .int .u8 n1, .int .u8 n2, .int .u8 n3, .int .u8 n4, .int .u8 n5], .string (B v), .int .i64 t] w fun e w' => e = .returned (.bool true) ∧ Below w.heap.size w w' := by
  have ls : s.length ≤ 40000 := by omega
  have lo : o.length ≤ 40000 := by omega
  have lv : v.length ≤ 40000 := by omega
  have M := fun W => make_any s m0 m1 m2 m3 m4 m5 v t W (by omega) (by omega) ls lv
  have N := fun W => make_any o n0 n1 n2 n3 n4 n5 v t W (by omega) (by omega) lo lv
  have b8 := be8_small (t / 64) (by omega) (by omega)
  have q4 := be_length 4 (t / 64)
  have q5 := be_length 4 (v.length : Int)
  have hLm := cookL_length (t / 64) [m0, m1, m2, m3, m4, m5] v s
  have hLn := cookL_length (t / 64) [n0, n1, n2, n3, n4, n5] v o
  have d16 := md5_length (cookL (t / 64) [m0, m1, m2, m3, m4, m5] v s)
  have e16 := md5_length (cookL (t / 64) [n0, n1, n2, n3, n4, n5] v o)
  have x1 : cookL (t / 64) [m0, m1, m2, m3, m4, m5] v s = 0 :: 0 :: 0 :: 0 :: (be 4 (t / 64) ++ (bytesOf [m0, m1, m2, m3, m4, m5] ++ (be 4 (v.length : Int) ++ (v ++ s)))) := by
    unfold cookL; rw [b8]; simp only [List.cons_append, List.nil_append]
  have y1 : cookL (t / 64) [n0, n1, n2, n3, n4, n5] v o = 0 :: 0 :: 0 :: 0 :: (be 4 (t / 64) ++ (bytesOf [n0, n1, n2, n3, n4, n5] ++ (be 4 (v.length : Int) ++ (v ++ o)))) := by
    unfold cookL; rw [b8]; simp only [List.cons_append, List.nil_append]
  obtain ⟨D, hD⟩ : ∃ D, md5 (cookL (t / 64) [m0, m1, m2, m3, m4, m5] v s) = D := ⟨_, rfl⟩
  obtain ⟨E, hE⟩ : ∃ E, md5 (cookL (t / 64) [n0, n1, n2, n3, n4, n5] v o) = E := ⟨_, rfl⟩
  obtain ⟨WD, hWD⟩ : ∃ W, arr8 D = W := ⟨_, rfl⟩
  obtain ⟨WE, hWE⟩ : ∃ W, arr8 E = W := ⟨_, rfl⟩
  rw [hD] at d16 M
  rw [hE] at e16 N
  have sD : WD.size = 16 := by rw [← hWD, arr8_size, d16]
  have sE : WE.size = 16 := by rw [← hWE, arr8_size, e16]
  have oD : WD.all (·.oneCell') = true := by rw [← hWD]; exact arr8_one _
  have oE : WE.all (·.oneCell') = true := by rw [← hWE]; exact arr8_one _
  have heq : ∀ W : World, (Op.equalIn 10000 23 (.agg WD) (.agg WE)).run Try.prog W = .ok (eqB D E) W := fun W => by have := eq16 D E W d16 e16; rw [hWD, hWE] at this; exact this
  have hsame := eqB_B D E
  have X := md5_at _ D WD hD hWD (by rw [hLm]; simp; omega)
  have Y := md5_at _ E WE hE hWE (by rw [hLn]; simp; omega)
  rw [x1] at X
  rw [y1] at Y
  have TX := text_at D WD hWD d16
  have TY := text_at E WE hWE e16
  have X' := Lib.hid X
  have Y' := Lib.hid Y
  have TX' := Lib.hid TX
  have TY' := Lib.hid TY
  have heq' := Lib.hid heq
  have hsame' := Lib.hid hsame
  have sD' := Lib.hid sD
  have sE' := Lib.hid sE
  have oD' := Lib.hid oD
  have oE' := Lib.hid oE
  clear X Y TX TY heq hsame sD sE oD oE hD hE hWD hWE x1 y1 d16 e16 hLm hLn b8 q4 q5
  have P1 : ∀ W, _ := fun W => put_ok (t / 64) 4 W (by simp only [putOk, decide_eq_true_eq, show Int.toNat 4 = 4 from rfl, show (256 : Int) ^ 4 = 4294967296 from rfl]; omega)
  have P2 : ∀ W, _ := fun W => put_ok (v.length : Int) 4 W (by simp only [putOk, decide_eq_true_eq, show Int.toNat 4 = 4 from rfl, show (256 : Int) ^ 4 = 4294967296 from rfl]; omega)
  have E0 : ∀ W, _ := fun W => epoch_any t W (by omega) (by omega)
  have M' := Lib.hid M
  have N' := Lib.hid N
  have P1' := Lib.hid P1
  have P2' := Lib.hid P2
  have E0' := Lib.hid E0
  clear M N P1 P2 E0
  go_enter Try.func14, Try.ntmps14
  go_wp2_with fail
  (with_reducible refine (E0'.out _).mono ?_)
  rintro r w1 ⟨rfl, rfl⟩
  go_wp2_with fail
  (with_reducible refine (P1'.out _).mono ?_)
  rintro r w1 ⟨rfl, hF1⟩
  go_wp2_with fail
  (with_reducible refine (P2'.out _).mono ?_)
  rintro r w2 ⟨rfl, hF2⟩
  have hF0 : Fr [] w ((w.alloc (.cells #[.int .u8 m0, .int .u8 m1, .int .u8 m2, .int .u8 m3, .int .u8 m4, .int .u8 m5] 35)).alloc (.cells #[.int .u8 n0, .int .u8 n1, .int .u8 n2, .int .u8 n3, .int .u8 n4, .int .u8 n5] 35)) := ((Fr.refl _ _).alloc _).alloc _
  have hm0 : Blk ((w.alloc (.cells #[.int .u8 m0, .int .u8 m1, .int .u8 m2, .int .u8 m3, .int .u8 m4, .int .u8 m5] 35)).alloc (.cells #[.int .u8 n0, .int .u8 n1, .int .u8 n2, .int .u8 n3, .int .u8 n4, .int .u8 n5] 35)) w.heap.size #[.int .u8 m0, .int .u8 m1, .int .u8 m2, .int .u8 m3, .int .u8 m4, .int .u8 m5] 35 := (Blk.new _ _ _).alloc _
  have hn0 : Blk ((w.alloc (.cells #[.int .u8 m0, .int .u8 m1, .int .u8 m2, .int .u8 m3, .int .u8 m4, .int .u8 m5] 35)).alloc (.cells #[.int .u8 n0, .int .u8 n1, .int .u8 n2, .int .u8 n3, .int .u8 n4, .int .u8 n5] 35)) (w.heap.size + 1) #[.int .u8 n0, .int .u8 n1, .int .u8 n2, .int .u8 n3, .int .u8 n4, .int .u8 n5] 35 := by
    have := Blk.new (w.alloc (.cells #[.int .u8 m0, .int .u8 m1, .int .u8 m2, .int .u8 m3, .int .u8 m4, .int .u8 m5] 35)) #[.int .u8 n0, .int .u8 n1, .int .u8 n2, .int .u8 n3, .int .u8 n4, .int .u8 n5] 35
    simpa using this
  have hm := hF2.blk (hF1.blk hm0 (by simp)) (by simp)
  have hn := hF2.blk (hF1.blk hn0 (by simp)) (by simp)
  have hF := (hF0.trans hF1).trans hF2
  clear hF0 hm0 hn0 hF1 hF2 P1' P2' E0'
  have c0 := hm.c 0 _ rfl
  have c1 := hm.c 1 _ rfl
  have c2 := hm.c 2 _ rfl
  have c3 := hm.c 3 _ rfl
  have c4 := hm.c 4 _ rfl
  have c5 := hm.c 5 _ rfl
  go_wp2_with fail
  (with_reducible refine (M'.out _).mono ?_)
  rintro r w3 ⟨rfl, hF3⟩
  have hm := hF3.blk hm (by simp)
  have hn := hF3.blk hn (by simp)
  have hF := hF.trans hF3
  clear c0 c1 c2 c3 c4 c5 M' hF3
  have c0 := hn.c 0 _ rfl
  have c1 := hn.c 1 _ rfl
  have c2 := hn.c 2 _ rfl
  have c3 := hn.c 3 _ rfl
  have c4 := hn.c 4 _ rfl
  have c5 := hn.c 5 _ rfl
  go_wp2_with fail
  (with_reducible refine (N'.out _).mono ?_)
  rintro r w4 ⟨rfl, hF4⟩
  have hm := hF4.blk hm (by simp)
  have hn := hF4.blk hn (by simp)
  have hF := hF.trans hF4
  clear c0 c1 c2 c3 c4 c5 N' hF4
  have b4 := be_length 4 (t / 64)
  have b5 := be_length 4 (v.length : Int)
  have l6 : (bytesOf [m0, m1, m2, m3, m4, m5]).length = 6 := rfl
  have q1 : ¬ 9223372036854775807 < 18 + v.length := by omega
  have q2 : ¬ 9223372036854775807 < 18 + v.length + s.length := by omega
  have q3 : ¬ 9223372036854775807 < 18 + (v.length + s.length) := by omega
  have hsl := slMac w.heap.size w4
  have hcv := macStr6 m0 m1 m2 m3 m4 m5 hm
  go_wp2_with fail
  clear hsl hcv
  (with_reducible refine (X'.out _).mono ?_)
  rintro r w5 ⟨rfl, hF5⟩
  have hn := hF5.blk hn (by simp)
  have hF := hF.trans hF5
  clear X' hF5 hm
  have hnl := hn.lt
  go_wp2_with (refine wpList_store_blk rfl 23 (.tmp 19) (.tmp 78) rfl w5.heap.size 23 z16 WD ?k0 rfl rfl ?k1 ?k2 ?k3 ?_)
  case k0 => exact Blk.new _ _ _
  case k1 => rw [sD'.out]; rfl
  case k2 => rw [sD'.out]; exact info16b
  case k3 => exact oD'.out
  intro w6 hw6 hBx
  have hn : Blk w6 (w.heap.size + 1) #[.int .u8 n0, .int .u8 n1, .int .u8 n2, .int .u8 n3, .int .u8 n4, .int .u8 n5] 35 := by
    rw [hw6.out]; exact (hn.alloc _).setCells_other _ _ _ (by omega)
  have hF : Fr [] w w6 := by rw [hw6.out]; exact (hF.alloc _).setCells _ _ _ (Or.inl hF.size)
  have hsl := slMac (w.heap.size + 1) w6
  have hcv := macStr6 n0 n1 n2 n3 n4 n5 hn
  have l6n : (bytesOf [n0, n1, n2, n3, n4, n5]).length = 6 := rfl
  have q7 : ¬ 9223372036854775807 < 18 + v.length + o.length := by omega
  have q8 : ¬ 9223372036854775807 < 18 + (v.length + o.length) := by omega
  clear hw6 hnl
  go_wp2_with fail
  clear hsl hcv
  (with_reducible refine (Y'.out _).mono ?_)
  rintro r w7 ⟨rfl, hF7⟩
  have hF := hF.trans hF7
  have hBx := hF7.blk hBx (by simp)
  clear Y' hF7 hn
  have hnl := hBx.lt
  go_wp2_with (refine wpList_store_blk rfl 23 (.tmp 20) (.tmp 90) rfl w7.heap.size 23 z16 WE ?k7 rfl rfl ?k4 ?k5 ?k6 ?_)
  case k7 => exact Blk.new _ _ _
  case k4 => rw [sE'.out]; rfl
  case k5 => rw [sE'.out]; exact info16b
  case k6 => exact oE'.out
  intro w8 hw8 hBy
  have hBx : Blk w8 w5.heap.size WD 23 := by
    rw [hw8.out]; exact (hBx.alloc _).setCells_other _ _ _ (by omega)
  have hF : Fr [] w w8 := by rw [hw8.out]; exact (hF.alloc _).setCells _ _ _ (Or.inl hF.size)
  clear hw8 hnl
  go_wp2_with fail
  refine (alive6 _).mono ?_
  rintro r w9 ⟨rfl, hF9⟩
  have hF := hF.trans hF9
  have hBx := hF9.blk hBx (by simp)
  have hBy := hF9.blk hBy (by simp)
  clear hF9
  go_wp2_with (refine wpList_load_yes (by rfl) 23 (.tmp 19) rfl w5.heap.size 23 WD _ hBx rfl Try.underlying23 rfl (by rw [sD'.out]; exact info16b) ?_)
  (with_reducible refine (TX'.out _).mono ?_)
  rintro r w10 ⟨rfl, hF10⟩
  have hF := hF.trans hF10
  have hBx := hF10.blk hBx (by simp)
  have hBy := hF10.blk hBy (by simp)
  clear hF10 TX'
  go_wp2_with (refine wpList_load_yes (by rfl) 23 (.tmp 20) rfl w7.heap.size 23 WE _ hBy rfl Try.underlying23 rfl (by rw [sE'.out]; exact info16b) ?_)
  (with_reducible refine (TY'.out _).mono ?_)
  rintro r w11 ⟨rfl, hF11⟩
  have hF := hF.trans hF11
  have hBx := hF11.blk hBx (by simp)
  have hBy := hF11.blk hBy (by simp)
  clear hF11 TY'
  have heq := heq'.out w11
  have hsame := hsame'.out
  clear heq' hsame'
  go_wp2_with (first | (refine wpList_load_yes (by rfl) 23 (.tmp 19) rfl w5.heap.size 23 WD _ hBx rfl Try.underlying23 rfl (by rw [sD'.out]; exact info16b) ?_) | (refine wpList_load_yes (by rfl) 23 (.tmp 20) rfl w7.heap.size 23 WE _ hBy rfl Try.underlying23 rfl (by rw [sE'.out]; exact info16b) ?_))
  go_ret
  exact ⟨rfl, hF.below (Nat.le_refl _) (by simp)⟩

theorem cookieIs_big (w : World) (s o : List UInt8) (m0 m1 m2 m3 m4 m5 n0 n1 n2 n3 n4 n5 : Int) (v : List UInt8) (t : Int) (ls : s.length ≤ 140737488351232) (lo : o.length ≤ 140737488351232) (lv : v.length ≤ 140737488351232) (h1 : (1000 : Int) < (s.length : Int) + o.length + v.length ∨ ¬ (1000 : Int) < (s.length : Int) + o.length + v.length ∧ t < 0 ∨ ¬ (1000 : Int) < (s.length : Int) + o.length + v.length ∧ ¬ t < 0 ∧ 1073741824 < t) :
    Calls Try.prog 14 #[.string (B s), .string (B o), .agg #[.int .u8 m0, .int .u8 m1, .int .u8 m2, .int .u8 m3, .int .u8 m4, .int .u8 m5], .agg #[.int .u8 n0, .int .u8 n1, .int .u8 n2, .int .u8 n3, .int .u8 n4, .int .u8 n5], .string (B v), .int .i64 t] w fun e w' => e = .returned (.bool true) ∧ Below w.heap.size w w' := by
  rcases h1 with h1 | ⟨h1, h2⟩ | ⟨h1, h2, h3⟩
  all_goals
    go_enter Try.func14, Try.ntmps14
    go_wp2_with fail
    refine (alive6 _).mono ?_
    rintro e w1 ⟨rfl, hF⟩
    go_wp2
    go_ret
    exact ⟨rfl, ((((Fr.refl _ _).alloc _).alloc _).trans hF).below (Nat.le_refl _) (by simp)⟩
theorem cookieIs_walk (w : World) (s : ByteArray) (hs : s.size ≤ 140737488351232) (o : ByteArray) (ho : o.size ≤ 140737488351232) (m0 m1 m2 m3 m4 m5 n0 n1 n2 n3 n4 n5 : Int) (v : ByteArray) (hv : v.size ≤ 140737488351232) (t : Int) (t0 : -9223372036854775808 ≤ t) (t1 : t ≤ 9223372036854775807) :
    Calls Try.prog 14 #[.string s, .string o, .agg #[.int .u8 m0, .int .u8 m1, .int .u8 m2, .int .u8 m3, .int .u8 m4, .int .u8 m5], .agg #[.int .u8 n0, .int .u8 n1, .int .u8 n2, .int .u8 n3, .int .u8 n4, .int .u8 n5], .string v, .int .i64 t] w fun e w' => e = .returned (.bool true) ∧ Below w.heap.size w w' := by
  obtain ⟨s, rfl⟩ : ∃ l, s = B l := ⟨_, B_of s⟩
  obtain ⟨o, rfl⟩ : ∃ l, o = B l := ⟨_, B_of o⟩
  obtain ⟨v, rfl⟩ : ∃ l, v = B l := ⟨_, B_of v⟩
  rw [B_size] at hs ho hv
  by_cases h1 : (1000 : Int) < (s.length : Int) + o.length + v.length
  · exact cookieIs_big w s o _ _ _ _ _ _ _ _ _ _ _ _ v t hs ho hv (Or.inl h1)
  · by_cases h2 : t < 0
    · exact cookieIs_big w s o _ _ _ _ _ _ _ _ _ _ _ _ v t hs ho hv (Or.inr (Or.inl ⟨h1, h2⟩))
    · by_cases h3 : 1073741824 < t
      · exact cookieIs_big w s o _ _ _ _ _ _ _ _ _ _ _ _ v t hs ho hv (Or.inr (Or.inr ⟨h1, h2, h3⟩))
      · exact cookieIs_small w s o _ _ _ _ _ _ _ _ _ _ _ _ v t h1 h2 h3
end Go.Proofs.Ytgeoldcddfmgnaa
