/- WireBack, walked. -/
import Derived.Test.YtmdgilhjiooalaaBackLaw
import Derived.Test.YtmdgilhjiooalaaLawA
import Derived.Deep.DeepCutAuto
namespace Go.Proofs.Ytmdgilhjiooalaa
open Go.RowKit
set_option linter.unusedVariables false

theorem Blk.new1 (w : World) (o : Obj) (cs : Array Value) (T : Nat) : Blk ((w.alloc o).alloc (.cells cs T (0, 0))) (w.heap.size + 1) cs T := by
  have := Blk.new (w.alloc o) cs T
  rwa [World.size_alloc] at this
theorem fc3 {w : World} {g T : Nat} {a b c : Value} (h : Blk w g #[a, b, c] T) : w.cell? ⟨g, 0, none⟩ = some a ∧ w.cell? ⟨g, 1, none⟩ = some b ∧ w.cell? ⟨g, 2, none⟩ = some c := ⟨h.c 0 _ rfl, h.c 1 _ rfl, h.c 2 _ rfl⟩
theorem put_back (v n : Int) (b : List UInt8) (h : putE v n = 0) (hb : b.length ≤ 9000) :
    putL v n = be n.toNat v ∧ getE (b ++ (putL v n ++ b)) b.length n = 0 ∧ getR (b ++ (putL v n ++ b)) b.length n = v ∧ ((putL v n).length : Int) = n := by
  have hp : putOk v n = true := by
    cases hq : putOk v n with
    | true => rfl
    | false => unfold putE at h; rw [hq] at h; simp at h
  have hL : putL v n = be n.toNat v := by unfold putL; rw [hp]; rfl
  have hq : 1 ≤ n ∧ n ≤ 4 ∧ 0 ≤ v ∧ v < 256 ^ n.toNat := by simpa [putOk] using hp
  have hl : (putL v n).length = n.toNat := by rw [hL, be_length]
  have hg : getE (b ++ (putL v n ++ b)) b.length n = 0 := by
    unfold getE
    rw [if_neg (by omega), if_neg (by rw [List.length_append, List.length_append, hl]; omega)]
  refine ⟨hL, hg, ?_, by omega⟩
  unfold getR
  rw [if_pos hg, hL]
  exact getV_be n.toNat v b b hq.2.2.1 hq.2.2.2

theorem wireBack_big (w : World) (x0 x1 x2 x3 x4 x5 y0 y1 y2 y3 y4 y5 ty : Int) (fd : List UInt8) (fr tt : Int) (d : List UInt8) (p v n : Int) (b : List UInt8) (h : 9000 < fd.length + d.length + b.length) (h1 : fd.length ≤ 140737488351232) (h2 : d.length ≤ 140737488351232) (h3 : b.length ≤ 140737488351232) :
    Calls Try.prog 13 #[.agg #[.int .u8 x0, .int .u8 x1, .int .u8 x2, .int .u8 x3, .int .u8 x4, .int .u8 x5, .int .u8 y0, .int .u8 y1, .int .u8 y2, .int .u8 y3, .int .u8 y4, .int .u8 y5, .int .i64 ty, .string (B fd)], .agg #[.int .i64 fr, .int .i64 tt, .string (B d)], .int .i64 p, .int .i64 v, .int .i64 n, .string (B b)] w
      fun e w' => e = .returned (.bool true) ∧ Below w.heap.size w w' := by
  have i1 : (9000 : Int) < (fd.length : Int) + d.length + b.length := by omega
  have w1 : IntKind.i64.wrap ((fd.length : Int) + d.length) = (fd.length : Int) + d.length := IntWalk.i64_in _ (by omega)
  have w2 : IntKind.i64.wrap ((fd.length : Int) + d.length + b.length) = (fd.length : Int) + d.length + b.length := IntWalk.i64_in _ (by omega)
  clear h
  go_enter Try.func13, Try.ntmps13
  go_wp2_with fail
  refine (alive1 _).mono ?_
  rintro e w6 ⟨rfl, hF6⟩
  go_wp2
  go_ret
  exact ⟨rfl, ((((Fr.refl [] w).alloc _).alloc _).trans hF6).below (Nat.le_refl _) (by simp)⟩

set_option maxRecDepth 100000 in
set_option maxHeartbeats 8000000 in
theorem wireBack_small (w : World) (x0 x1 x2 x3 x4 x5 y0 y1 y2 y3 y4 y5 ty : Int) (fd : List UInt8) (fr tt : Int) (d : List UInt8) (p v n : Int) (v1 : v ≤ 9223372036854775807) (b : List UInt8) (h : fd.length + d.length + b.length ≤ 9000)
    (bx : Hid (∀ x, x ∈ [x0, x1, x2, x3, x4, x5, y0, y1, y2, y3, y4, y5] → 0 ≤ x ∧ x ≤ 255)) :
    Calls Try.prog 13 #[.agg #[.int .u8 x0, .int .u8 x1, .int .u8 x2, .int .u8 x3, .int .u8 x4, .int .u8 x5, .int .u8 y0, .int .u8 y1, .int .u8 y2, .int .u8 y3, .int .u8 y4, .int .u8 y5, .int .i64 ty, .string (B fd)], .agg #[.int .i64 fr, .int .i64 tt, .string (B d)], .int .i64 p, .int .i64 v, .int .i64 n, .string (B b)] w
      fun e w' => e = .returned (.bool true) ∧ Below w.heap.size w w' := by
  have q1 := fun a0 a1 a2 a3 a4 a5 w => macEq a0 a1 a2 a3 a4 a5 w
  have i1 : ¬ (9000 : Int) < (fd.length : Int) + d.length + b.length := by omega
  have w1 : IntKind.i64.wrap ((fd.length : Int) + d.length) = (fd.length : Int) + d.length := IntWalk.i64_in _ (by omega)
  have w2 : IntKind.i64.wrap ((fd.length : Int) + d.length + b.length) = (fd.length : Int) + d.length + b.length := IntWalk.i64_in _ (by omega)
  have lf : fd.length ≤ 140737488351232 := by omega
  have ld : d.length ≤ 140737488351232 := by omega
  have lb : b.length ≤ 9000 := by omega
  have lb2 : b.length ≤ 140737488351232 := by omega
  have Hv := Lib.hid v1
  clear v1
  obtain ⟨S1, hS1⟩ : ∃ S, putL v n = S := ⟨_, rfl⟩
  obtain ⟨E1, hE1⟩ : ∃ E, putE v n = E := ⟨_, rfl⟩
  obtain ⟨S2, hS2⟩ : ∃ S, ethL [x0, x1, x2, x3, x4, x5] [y0, y1, y2, y3, y4, y5] ty fd = S := ⟨_, rfl⟩
  obtain ⟨E2, hE2⟩ : ∃ E, ethE ty fd = E := ⟨_, rfl⟩
  obtain ⟨S3, hS3⟩ : ∃ S, ppL p b = S := ⟨_, rfl⟩
  obtain ⟨E3, hE3⟩ : ∃ E, ppE p b = E := ⟨_, rfl⟩
  obtain ⟨S4, hS4⟩ : ∃ S, graL fr tt d = S := ⟨_, rfl⟩
  obtain ⟨E4, hE4⟩ : ∃ E, graE fr tt d = E := ⟨_, rfl⟩
  have HS1 := Lib.hid hS1
  have HE1 := Lib.hid hE1
  have HS2 := Lib.hid hS2
  have HE2 := Lib.hid hE2
  have HS3 := Lib.hid hS3
  have HE3 := Lib.hid hE3
  have HS4 := Lib.hid hS4
  have HE4 := Lib.hid hE4
  clear hS1 hE1 hS2 hE2 hS3 hE3 hS4 hE4
  go_enter Try.func13, Try.ntmps13
  go_wp2_with fail
  refine (put_any v n _ Hv.out).mono ?_
  rw [HS1.out, HE1.out]
  rintro e w2 ⟨rfl, hF⟩
  have hBe := hF.blk ((Blk.new w #[.int .u8 x0, .int .u8 x1, .int .u8 x2, .int .u8 x3, .int .u8 x4, .int .u8 x5, .int .u8 y0, .int .u8 y1, .int .u8 y2, .int .u8 y3, .int .u8 y4, .int .u8 y5, .int .i64 ty, .string (B fd)] 43).alloc (.cells #[.int .i64 fr, .int .i64 tt, .string (B d)] 45)) (by simp)
  have hBd := hF.blk (Blk.new1 w (.cells #[.int .u8 x0, .int .u8 x1, .int .u8 x2, .int .u8 x3, .int .u8 x4, .int .u8 x5, .int .u8 y0, .int .u8 y1, .int .u8 y2, .int .u8 y3, .int .u8 y4, .int .u8 y5, .int .i64 ty, .string (B fd)] 43) #[.int .i64 fr, .int .i64 tt, .string (B d)] 45) (by simp)
  have hF0 := (((Fr.refl [] w).alloc _).alloc _).trans hF
  clear hF
  go_upto_if 47 with fail
  go_cut [] (fun wx => Blk wx w.heap.size #[.int .u8 x0, .int .u8 x1, .int .u8 x2, .int .u8 x3, .int .u8 x4, .int .u8 x5, .int .u8 y0, .int .u8 y1, .int .u8 y2, .int .u8 y3, .int .u8 y4, .int .u8 y5, .int .i64 ty, .string (B fd)] 43 ∧ Blk wx (w.heap.size + 1) #[.int .i64 fr, .int .i64 tt, .string (B d)] 45 ∧ Fr [] w wx)
  case first =>
    by_cases hE : E1 = 0
    · subst hE
      obtain ⟨hL, hg, hr, hlen⟩ := put_back v n b HE1.out lb
      have hS := HS1.out
      rw [hS] at hg hr hlen
      have hn1 : 1 ≤ n ∧ n ≤ 4 := by
        unfold getE at hg
        apply Classical.byContradiction
        intro hc
        rw [if_pos (Or.inl hc)] at hg
        omega
      obtain ⟨hn1, hn4⟩ := hn1
      have hl4 : S1.length ≤ 4 := by omega
      have hln : ((S1.length : Int) != n) = false := by rw [bne_eq_false_iff_eq]; exact hlen
      have hqa : ¬ 9223372036854775807 < b.length + S1.length := by omega
      have hqb : ¬ 9223372036854775807 < b.length + S1.length + b.length := by omega
      have hqc : ¬ 9223372036854775807 < b.length + (S1.length + b.length) := by omega
      have hll : (b ++ (S1 ++ b)).length ≤ 9223372036854775807 := by simp only [List.length_append]; omega
      have Hll := Lib.hid hll
      have Hg := Lib.hid hg
      have Hr := Lib.hid hr
      clear hL hS hg hr hlen hll
      go_wp2_with fail
      refine (get_any (b ++ (S1 ++ b)) b.length n _ Hll.out (by omega) (by omega)).mono ?_
      rw [Hg.out, Hr.out]
      rintro e w3 ⟨rfl, rfl⟩
      go_wp2
      go_meet
      exact ⟨hBe, hBd, hF0⟩
    · have hb : (E1 == 0) = false := by rw [beq_eq_false_iff_ne]; exact hE
      clear hE
      go_wp2
      go_meet
      exact ⟨hBe, hBd, hF0⟩
  case rest =>
    clear hBe hBd hF0
    obtain ⟨hBe, hBd, hF0⟩ := hcut
    have ke := fc14 hBe
    go_wp2_with fail
    refine (putether_any x0 x1 x2 x3 x4 x5 y0 y1 y2 y3 y4 y5 ty fd _ lf).mono ?_
    rw [HS2.out, HE2.out]
    rintro e w3 ⟨rfl, hF3⟩
    replace hBe := hF3.blk hBe (by simp)
    replace hBd := hF3.blk hBd (by simp)
    replace hF0 := hF0.trans hF3
    clear hF3 ke
    go_upto_if 79 with fail
    go_cut [] (fun wx => Blk wx w.heap.size #[.int .u8 x0, .int .u8 x1, .int .u8 x2, .int .u8 x3, .int .u8 x4, .int .u8 x5, .int .u8 y0, .int .u8 y1, .int .u8 y2, .int .u8 y3, .int .u8 y4, .int .u8 y5, .int .i64 ty, .string (B fd)] 43 ∧ Blk wx (w.heap.size + 1) #[.int .i64 fr, .int .i64 tt, .string (B d)] 45 ∧ Fr [] w wx)
    case first =>
      by_cases hE : E2 = 0
      · subst hE
        have hE := HE2.out
        obtain ⟨hg, hr⟩ := eth_back x0 x1 x2 x3 x4 x5 y0 y1 y2 y3 y4 y5 ty fd bx.out hE
        have hsl : (ethL [x0, x1, x2, x3, x4, x5] [y0, y1, y2, y3, y4, y5] ty fd).length ≤ 1000000 := by
          unfold ethL
          rw [if_pos hE]
          simp only [List.length_append, be_length]
          show 6 + (6 + (2 + fd.length)) ≤ _
          omega
        have hS := HS2.out
        rw [hS] at hg hr hsl
        have Hg := Lib.hid hg
        have Hr := Lib.hid hr
        clear hE hS hg hr
        go_wp2_with fail
        refine (getether_any S2 _ hsl).mono ?_
        rw [Hg.out, Hr.out]
        rintro e w4 ⟨rfl, hF4⟩
        replace hBe := hF4.blk hBe (by simp)
        replace hBd := hF4.blk hBd (by simp)
        replace hF0 := hF0.trans hF4
        have ke := fc14 hBe
        have kl := hBe.lt
        go_wp2
        go_meet
        exact ⟨hBe.alloc _, hBd.alloc _, hF0.alloc _⟩
      · have hb : (E2 == 0) = false := by rw [beq_eq_false_iff_ne]; exact hE
        clear hE
        go_wp2
        go_meet
        exact ⟨hBe, hBd, hF0⟩
    case rest =>
      clear hBe hBd hF0
      obtain ⟨hBe, hBd, hF0⟩ := hcut
      go_wp2_with fail
      refine (putppp_any p b _ lb2).mono ?_
      rw [HS3.out, HE3.out]
      rintro e w4 ⟨rfl, hF4⟩
      replace hBd := hF4.blk hBd (by simp)
      replace hF0 := hF0.trans hF4
      clear hF4 hBe
      go_upto_if 99 with fail
      go_cut [] (fun wx => Blk wx (w.heap.size + 1) #[.int .i64 fr, .int .i64 tt, .string (B d)] 45 ∧ Fr [] w wx)
      case first =>
        by_cases hE : E3 = 0
        · subst hE
          have hE := HE3.out
          obtain ⟨hg, hr, hr2⟩ := ppp_back p b hE
          have hsl : (ppL p b).length ≤ 1000000 := by
            unfold ppL
            rw [if_pos hE, List.length_append, be_length]
            omega
          have hS := HS3.out
          rw [hS] at hg hr hr2 hsl
          have Hg := Lib.hid hg
          have Hr := Lib.hid hr
          have Hr2 := Lib.hid hr2
          clear hE hS hg hr hr2
          go_wp2_with fail
          refine (getppp_any S3 _ hsl).mono ?_
          rw [Hg.out, Hr.out, Hr2.out]
          rintro e w5 ⟨rfl, hF5⟩
          go_wp2
          go_meet
          exact ⟨hF5.blk hBd (by simp), hF0.trans hF5⟩
        · have hb : (E3 == 0) = false := by rw [beq_eq_false_iff_ne]; exact hE
          clear hE
          go_wp2
          go_meet
          exact ⟨hBd, hF0⟩
      case rest =>
        clear hBd hF0
        obtain ⟨hBd, hF0⟩ := hcut
        have kd := fc3 hBd
        go_wp2_with fail
        refine (putgram_any fr tt d _ ld).mono ?_
        rw [HS4.out, HE4.out]
        rintro e w5 ⟨rfl, hF5⟩
        replace hBd := hF5.blk hBd (by simp)
        replace hF0 := hF0.trans hF5
        clear hF5 kd
        go_upto_if 124 with fail
        go_cut [] (fun wx => Fr [] w wx)
        case first =>
          by_cases hE : E4 = 0
          · subst hE
            have hE := HE4.out
            obtain ⟨hg, hr⟩ := gra_back fr tt d hE
            have hsl : (graL fr tt d).length ≤ 1000000 := by
              unfold graL
              rw [if_pos hE, sealL_length]
              simp only [List.length_append, be_length]
              omega
            have hS := HS4.out
            rw [hS] at hg hr hsl
            have Hg := Lib.hid hg
            have Hr := Lib.hid hr
            clear hE hS hg hr
            go_wp2_with fail
            refine (getgram_any S4 _ hsl).mono ?_
            rw [Hg.out, Hr.out]
            rintro e w6 ⟨rfl, hF6⟩
            replace hBd := hF6.blk hBd (by simp)
            have kd := fc3 hBd
            have kl := hBd.lt
            go_wp2
            go_meet
            exact (hF0.trans hF6).alloc _
          · have hb : (E4 == 0) = false := by rw [beq_eq_false_iff_ne]; exact hE
            clear hE
            go_wp2
            go_meet
            exact hF0
        case rest =>
          clear hBd hF0
          have hF0 := hcut
          obtain ⟨u1, u2⟩ := unh_hex b
          obtain ⟨s1, s2⟩ := uns_seal b
          have lh : (hexB b).length ≤ 1000000 := by rw [hexB_length]; omega
          have ls : (sealL b).length ≤ 1000000 := by rw [sealL_length]; omega
          have U1 := Lib.hid u1
          have U2 := Lib.hid u2
          have S1 := Lib.hid s1
          have S2 := Lib.hid s2
          clear u1 u2 s1 s2
          go_wp2_with fail
          refine (hex_any b _ (by omega)).mono ?_
          rintro e w6 ⟨rfl, hF6⟩
          go_wp2_with fail
          refine (unhex_any (hexB b) _ lh).mono ?_
          rw [U1.out, U2.out]
          rintro e w7 ⟨rfl, hF7⟩
          go_wp2_with fail
          refine (seal_any b _ (by omega)).mono ?_
          rintro e w8 ⟨rfl, hF8⟩
          go_wp2_with fail
          refine (unseal_any (sealL b) _ ls).mono ?_
          rw [S1.out, S2.out]
          rintro e w9 ⟨rfl, hF9⟩
          go_wp2_with fail
          refine (alive1 _).mono ?_
          rintro e w10 ⟨rfl, hF10⟩
          go_wp2
          go_ret
          exact ⟨rfl, (((((hF0.trans hF6).trans hF7).trans hF8).trans hF9).trans hF10).below (Nat.le_refl _) (by simp)⟩

theorem wf_u8 (x : Int) (h : (Lit.int .u8 x).wf = true) : 0 ≤ x ∧ x ≤ 255 := by simpa [Lit.wf, IntKind.min, IntKind.max, IntKind.signed, IntKind.bits] using h
theorem wireBack_walk (w : World) (x0 : Int) (hx0 : (Lit.int .u8 x0).wf = true) (x1 : Int) (hx1 : (Lit.int .u8 x1).wf = true) (x2 : Int) (hx2 : (Lit.int .u8 x2).wf = true) (x3 : Int) (hx3 : (Lit.int .u8 x3).wf = true) (x4 : Int) (hx4 : (Lit.int .u8 x4).wf = true) (x5 : Int) (hx5 : (Lit.int .u8 x5).wf = true) (y0 : Int) (hy0 : (Lit.int .u8 y0).wf = true) (y1 : Int) (hy1 : (Lit.int .u8 y1).wf = true) (y2 : Int) (hy2 : (Lit.int .u8 y2).wf = true) (y3 : Int) (hy3 : (Lit.int .u8 y3).wf = true) (y4 : Int) (hy4 : (Lit.int .u8 y4).wf = true) (y5 : Int) (hy5 : (Lit.int .u8 y5).wf = true) (ty : Int) (s : ByteArray) (hs : s.size ≤ 140737488351232) (fr tt : Int) (t : ByteArray) (ht : t.size ≤ 140737488351232) (p : Int) (p0 : -9223372036854775808 ≤ p) (p1 : p ≤ 9223372036854775807) (v : Int) (v0 : -9223372036854775808 ≤ v) (v1 : v ≤ 9223372036854775807) (n : Int) (n0 : -9223372036854775808 ≤ n) (n1 : n ≤ 9223372036854775807) (u : ByteArray) (hu : u.size ≤ 140737488351232) :
    Calls Try.prog 13 #[.agg #[.int .u8 x0, .int .u8 x1, .int .u8 x2, .int .u8 x3, .int .u8 x4, .int .u8 x5, .int .u8 y0, .int .u8 y1, .int .u8 y2, .int .u8 y3, .int .u8 y4, .int .u8 y5, .int .i64 ty, .string s], .agg #[.int .i64 fr, .int .i64 tt, .string t], .int .i64 p, .int .i64 v, .int .i64 n, .string u] w
      fun e w' => e = .returned (.bool true) ∧ Below w.heap.size w w' := by
  obtain ⟨fd, rfl⟩ : ∃ l, s = B l := ⟨_, B_of s⟩
  obtain ⟨d, rfl⟩ : ∃ l, t = B l := ⟨_, B_of t⟩
  obtain ⟨b, rfl⟩ : ∃ l, u = B l := ⟨_, B_of u⟩
  rw [B_size] at hs ht hu
  by_cases h : 9000 < fd.length + d.length + b.length
  · exact wireBack_big w x0 x1 x2 x3 x4 x5 y0 y1 y2 y3 y4 y5 ty fd fr tt d p v n b h hs ht hu
  · refine wireBack_small w x0 x1 x2 x3 x4 x5 y0 y1 y2 y3 y4 y5 ty fd fr tt d p v n v1 b (by omega) (Lib.hid ?_)
    intro x hx
    simp only [List.mem_cons, List.mem_nil_iff, or_false] at hx
    rcases hx with rfl | rfl | rfl | rfl | rfl | rfl | rfl | rfl | rfl | rfl | rfl | rfl
    · exact wf_u8 _ hx0
    · exact wf_u8 _ hx1
    · exact wf_u8 _ hx2
    · exact wf_u8 _ hx3
    · exact wf_u8 _ hx4
    · exact wf_u8 _ hx5
    · exact wf_u8 _ hy0
    · exact wf_u8 _ hy1
    · exact wf_u8 _ hy2
    · exact wf_u8 _ hy3
    · exact wf_u8 _ hy4
    · exact wf_u8 _ hy5
end Go.Proofs.Ytmdgilhjiooalaa
