/- WireFrames, walked. -/
import Derived.Test.YtmdgilhjiooalaaEtherA
namespace Go.Proofs.Ytmdgilhjiooalaa
open Go.RowKit
set_option linter.unusedVariables false

theorem Blk.new1 (w : World) (o : Obj) (cs : Array Value) (T : Nat) : Blk ((w.alloc o).alloc (.cells cs T (0, 0))) (w.heap.size + 1) cs T := by
  have := Blk.new (w.alloc o) cs T
  rwa [World.size_alloc] at this
theorem fc3 {w : World} {g T : Nat} {a b c : Value} (h : Blk w g #[a, b, c] T) : w.cell? ⟨g, 0, none⟩ = some a ∧ w.cell? ⟨g, 1, none⟩ = some b ∧ w.cell? ⟨g, 2, none⟩ = some c := ⟨h.c 0 _ rfl, h.c 1 _ rfl, h.c 2 _ rfl⟩

theorem wireFrames_big (w : World) (x0 x1 x2 x3 x4 x5 y0 y1 y2 y3 y4 y5 ty : Int) (fd : List UInt8) (fr tt : Int) (d : List UInt8) (p : Int) (b : List UInt8) (h : 9000 < fd.length + d.length + b.length) (h1 : fd.length ≤ 140737488351232) (h2 : d.length ≤ 140737488351232) (h3 : b.length ≤ 140737488351232) :
    Calls Try.prog 12 #[.agg #[.int .u8 x0, .int .u8 x1, .int .u8 x2, .int .u8 x3, .int .u8 x4, .int .u8 x5, .int .u8 y0, .int .u8 y1, .int .u8 y2, .int .u8 y3, .int .u8 y4, .int .u8 y5, .int .i64 ty, .string (B fd)], .agg #[.int .i64 fr, .int .i64 tt, .string (B d)], .int .i64 p, .string (B b)] w
      fun e w' => e = .returned (.bool true) ∧ Below w.heap.size w w' := by
  have i1 : (9000 : Int) < (fd.length : Int) + d.length + b.length := by omega
  have w1 : IntKind.i64.wrap ((fd.length : Int) + d.length) = (fd.length : Int) + d.length := IntWalk.i64_in _ (by omega)
  have w2 : IntKind.i64.wrap ((fd.length : Int) + d.length + b.length) = (fd.length : Int) + d.length + b.length := IntWalk.i64_in _ (by omega)
  clear h
  go_enter Try.func12, Try.ntmps12
  go_wp2_with fail
  refine (alive1 _).mono ?_
  rintro e w6 ⟨rfl, hF6⟩
  go_wp2
  go_ret
  exact ⟨rfl, ((((Fr.refl [] w).alloc _).alloc _).trans hF6).below (Nat.le_refl _) (by simp)⟩

set_option maxRecDepth 100000 in
set_option maxHeartbeats 8000000 in
theorem wireFrames_small (w : World) (x0 x1 x2 x3 x4 x5 y0 y1 y2 y3 y4 y5 ty : Int) (fd : List UInt8) (fr tt : Int) (d : List UInt8) (p : Int) (b : List UInt8) (h : fd.length + d.length + b.length ≤ 9000) :
    Calls Try.prog 12 #[.agg #[.int .u8 x0, .int .u8 x1, .int .u8 x2, .int .u8 x3, .int .u8 x4, .int .u8 x5, .int .u8 y0, .int .u8 y1, .int .u8 y2, .int .u8 y3, .int .u8 y4, .int .u8 y5, .int .i64 ty, .string (B fd)], .agg #[.int .i64 fr, .int .i64 tt, .string (B d)], .int .i64 p, .string (B b)] w
      fun e w' => e = .returned (.bool true) ∧ Below w.heap.size w w' := by
  have q1 := fun a0 a1 a2 a3 a4 a5 w => macEq a0 a1 a2 a3 a4 a5 w
  have i1 : ¬ (9000 : Int) < (fd.length : Int) + d.length + b.length := by omega
  have w1 : IntKind.i64.wrap ((fd.length : Int) + d.length) = (fd.length : Int) + d.length := IntWalk.i64_in _ (by omega)
  have w2 : IntKind.i64.wrap ((fd.length : Int) + d.length + b.length) = (fd.length : Int) + d.length + b.length := IntWalk.i64_in _ (by omega)
  have lf : fd.length ≤ 140737488351232 := by omega
  have ld : d.length ≤ 140737488351232 := by omega
  have lb : b.length ≤ 1000000 := by omega
  have lb2 : b.length ≤ 140737488351232 := by omega
  obtain ⟨g0, hg0⟩ : ∃ x, geB b 0 = x := ⟨_, rfl⟩
  obtain ⟨g1, hg1⟩ : ∃ x, geB b 1 = x := ⟨_, rfl⟩
  obtain ⟨g2, hg2⟩ : ∃ x, geB b 2 = x := ⟨_, rfl⟩
  obtain ⟨g3, hg3⟩ : ∃ x, geB b 3 = x := ⟨_, rfl⟩
  obtain ⟨g4, hg4⟩ : ∃ x, geB b 4 = x := ⟨_, rfl⟩
  obtain ⟨g5, hg5⟩ : ∃ x, geB b 5 = x := ⟨_, rfl⟩
  obtain ⟨g6, hg6⟩ : ∃ x, geB b 6 = x := ⟨_, rfl⟩
  obtain ⟨g7, hg7⟩ : ∃ x, geB b 7 = x := ⟨_, rfl⟩
  obtain ⟨g8, hg8⟩ : ∃ x, geB b 8 = x := ⟨_, rfl⟩
  obtain ⟨g9, hg9⟩ : ∃ x, geB b 9 = x := ⟨_, rfl⟩
  obtain ⟨g10, hg10⟩ : ∃ x, geB b 10 = x := ⟨_, rfl⟩
  obtain ⟨g11, hg11⟩ : ∃ x, geB b 11 = x := ⟨_, rfl⟩
  obtain ⟨gt, hgt⟩ : ∃ x, geT b = x := ⟨_, rfl⟩
  obtain ⟨gd, hgd⟩ : ∃ x, geD b = x := ⟨_, rfl⟩
  have hgV : geV b = .agg #[.int .u8 g0, .int .u8 g1, .int .u8 g2, .int .u8 g3, .int .u8 g4, .int .u8 g5, .int .u8 g6, .int .u8 g7, .int .u8 g8, .int .u8 g9, .int .u8 g10, .int .u8 g11, .int .i64 gt, .string (B gd)] := by unfold geV; rw [hg0, hg1, hg2, hg3, hg4, hg5, hg6, hg7, hg8, hg9, hg10, hg11, hgt, hgd]
  have HgV := Lib.hid hgV
  clear hgV hgt hgd hg0 hg1 hg2 hg3 hg4 hg5 hg6 hg7 hg8 hg9 hg10 hg11
  obtain ⟨gf, hgf⟩ : ∃ x, ggF b = x := ⟨_, rfl⟩
  obtain ⟨gO, hgo⟩ : ∃ x, ggT b = x := ⟨_, rfl⟩
  obtain ⟨gm, hgm⟩ : ∃ x, ggD b = x := ⟨_, rfl⟩
  have hmV : gmV b = .agg #[.int .i64 gf, .int .i64 gO, .string (B gm)] := by rw [gmV_eq, hgf, hgo, hgm]
  have HmV := Lib.hid hmV
  clear hmV hgf hgo hgm
  obtain ⟨EL, hEL⟩ : ∃ x, ethL [x0, x1, x2, x3, x4, x5] [y0, y1, y2, y3, y4, y5] ty fd = x := ⟨_, rfl⟩
  obtain ⟨EE, hEE⟩ : ∃ x, ethE ty fd = x := ⟨_, rfl⟩
  have HEL := Lib.hid hEL
  have HEE := Lib.hid hEE
  clear hEL hEE
  obtain ⟨PL, hPL⟩ : ∃ x, ppL p b = x := ⟨_, rfl⟩
  obtain ⟨PE, hPE⟩ : ∃ x, ppE p b = x := ⟨_, rfl⟩
  obtain ⟨qV, hqV⟩ : ∃ x, pppV b = x := ⟨_, rfl⟩
  obtain ⟨qL, hqL⟩ : ∃ x, pppL b = x := ⟨_, rfl⟩
  obtain ⟨qE, hqE⟩ : ∃ x, pppE b = x := ⟨_, rfl⟩
  obtain ⟨GL, hGL⟩ : ∃ x, graL fr tt d = x := ⟨_, rfl⟩
  obtain ⟨GE, hGE⟩ : ∃ x, graE fr tt d = x := ⟨_, rfl⟩
  obtain ⟨mE, hmE⟩ : ∃ x, gmE b = x := ⟨_, rfl⟩
  have HPL := Lib.hid hPL
  have HPE := Lib.hid hPE
  have HqV := Lib.hid hqV
  have HqL := Lib.hid hqL
  have HqE := Lib.hid hqE
  have HGL := Lib.hid hGL
  have HGE := Lib.hid hGE
  have HmE := Lib.hid hmE
  clear hPL hPE hqV hqL hqE hGL hGE hmE
  go_enter Try.func12, Try.ntmps12
  go_wp2_with fail
  refine (putether_any x0 x1 x2 x3 x4 x5 y0 y1 y2 y3 y4 y5 ty fd _ lf).mono ?_
  rw [HEL.out, HEE.out]
  rintro e w2 ⟨rfl, hF⟩
  have hBe := hF.blk ((Blk.new w #[.int .u8 x0, .int .u8 x1, .int .u8 x2, .int .u8 x3, .int .u8 x4, .int .u8 x5, .int .u8 y0, .int .u8 y1, .int .u8 y2, .int .u8 y3, .int .u8 y4, .int .u8 y5, .int .i64 ty, .string (B fd)] 43).alloc (.cells #[.int .i64 fr, .int .i64 tt, .string (B d)] 45)) (by simp)
  have hBd := hF.blk (Blk.new1 w (.cells #[.int .u8 x0, .int .u8 x1, .int .u8 x2, .int .u8 x3, .int .u8 x4, .int .u8 x5, .int .u8 y0, .int .u8 y1, .int .u8 y2, .int .u8 y3, .int .u8 y4, .int .u8 y5, .int .i64 ty, .string (B fd)] 43) #[.int .i64 fr, .int .i64 tt, .string (B d)] 45) (by simp)
  have hF0 := (((Fr.refl [] w).alloc _).alloc _).trans hF
  have ke := fc14 hBe
  clear hF
  go_wp2_with fail
  refine (rputether_any x0 x1 x2 x3 x4 x5 y0 y1 y2 y3 y4 y5 ty fd _ lf).mono ?_
  rw [HEL.out, HEE.out]
  rintro e w3 ⟨rfl, hF3⟩
  replace hBd := hF3.blk hBd (by simp)
  replace hF0 := hF0.trans hF3
  clear ke hBe hF3
  go_wp2_with fail
  refine (getether_any b _ lb).mono ?_
  rw [HgV.out]
  rintro e w4 ⟨rfl, hF4⟩
  replace hBd := (hF4.blk hBd (by simp)).alloc (.cells #[.int .u8 g0, .int .u8 g1, .int .u8 g2, .int .u8 g3, .int .u8 g4, .int .u8 g5, .int .u8 g6, .int .u8 g7, .int .u8 g8, .int .u8 g9, .int .u8 g10, .int .u8 g11, .int .i64 gt, .string (B gd)] 43)
  replace hF0 := (hF0.trans hF4).alloc (.cells #[.int .u8 g0, .int .u8 g1, .int .u8 g2, .int .u8 g3, .int .u8 g4, .int .u8 g5, .int .u8 g6, .int .u8 g7, .int .u8 g8, .int .u8 g9, .int .u8 g10, .int .u8 g11, .int .i64 gt, .string (B gd)] 43)
  clear hF4
  go_wp2_with fail
  refine (rgetether_any b _ lb).mono ?_
  rw [HgV.out]
  rintro e w5 ⟨rfl, hF5⟩
  replace hBd := (hF5.blk hBd (by simp)).alloc (.cells #[.int .u8 g0, .int .u8 g1, .int .u8 g2, .int .u8 g3, .int .u8 g4, .int .u8 g5, .int .u8 g6, .int .u8 g7, .int .u8 g8, .int .u8 g9, .int .u8 g10, .int .u8 g11, .int .i64 gt, .string (B gd)] 43)
  have hBx := hF5.blk (Blk.new w4 #[.int .u8 g0, .int .u8 g1, .int .u8 g2, .int .u8 g3, .int .u8 g4, .int .u8 g5, .int .u8 g6, .int .u8 g7, .int .u8 g8, .int .u8 g9, .int .u8 g10, .int .u8 g11, .int .i64 gt, .string (B gd)] 43) (by simp)
  replace hF0 := (hF0.trans hF5).alloc (.cells #[.int .u8 g0, .int .u8 g1, .int .u8 g2, .int .u8 g3, .int .u8 g4, .int .u8 g5, .int .u8 g6, .int .u8 g7, .int .u8 g8, .int .u8 g9, .int .u8 g10, .int .u8 g11, .int .i64 gt, .string (B gd)] 43)
  have kx := fc14 hBx
  have kl := hBx.lt
  clear hF5 hBx
  go_wp2_with fail
  refine (putppp_any p b _ lb2).mono ?_
  rw [HPL.out, HPE.out]
  rintro e w6 ⟨rfl, hF6⟩
  replace hBd := hF6.blk hBd (by simp)
  replace hF0 := hF0.trans hF6
  clear hF6 kx kl
  go_wp2_with fail
  refine (rputppp_any p b _ lb2).mono ?_
  rw [HPL.out, HPE.out]
  rintro e w7 ⟨rfl, hF7⟩
  replace hBd := hF7.blk hBd (by simp)
  replace hF0 := hF0.trans hF7
  clear hF7
  go_wp2_with fail
  refine (getppp_any b _ lb).mono ?_
  rw [HqV.out, HqL.out, HqE.out]
  rintro e w8 ⟨rfl, hF8⟩
  replace hBd := hF8.blk hBd (by simp)
  replace hF0 := hF0.trans hF8
  clear hF8
  go_wp2_with fail
  refine (rgetppp_any b _ lb).mono ?_
  rw [HqV.out, HqL.out, HqE.out]
  rintro e w9 ⟨rfl, hF9⟩
  replace hBd := hF9.blk hBd (by simp)
  replace hF0 := hF0.trans hF9
  clear hF9
  have kd := fc3 hBd
  go_wp2_with fail
  refine (putgram_any fr tt d _ ld).mono ?_
  rw [HGL.out, HGE.out]
  rintro e w10 ⟨rfl, hF10⟩
  replace hBd := hF10.blk hBd (by simp)
  replace hF0 := hF0.trans hF10
  clear hF10 kd
  have kd := fc3 hBd
  go_wp2_with fail
  refine (rputgram_any fr tt d _ ld).mono ?_
  rw [HGL.out, HGE.out]
  rintro e w11 ⟨rfl, hF11⟩
  replace hF0 := hF0.trans hF11
  clear hF11 kd hBd
  go_wp2_with fail
  refine (getgram_any b _ lb).mono ?_
  rw [HmV.out, HmE.out]
  rintro e w12 ⟨rfl, hF12⟩
  replace hF0 := (hF0.trans hF12).alloc (.cells #[.int .i64 gf, .int .i64 gO, .string (B gm)] 45)
  clear hF12
  go_wp2_with fail
  refine (rgetgram_any b _ lb).mono ?_
  rw [HmV.out, HmE.out]
  rintro e w13 ⟨rfl, hF13⟩
  have hBk := (hF13.blk (Blk.new w12 #[.int .i64 gf, .int .i64 gO, .string (B gm)] 45) (by simp)).alloc (.cells #[.int .i64 gf, .int .i64 gO, .string (B gm)] 45)
  have hBl := Blk.new w13 #[.int .i64 gf, .int .i64 gO, .string (B gm)] 45
  replace hF0 := (hF0.trans hF13).alloc (.cells #[.int .i64 gf, .int .i64 gO, .string (B gm)] 45)
  clear hF13
  go_wp2_with fail
  refine (alive1 _).mono ?_
  rintro e w14 ⟨rfl, hF14⟩
  have kk := fc3 (hF14.blk hBk (by simp))
  have kl := fc3 (hF14.blk hBl (by simp))
  clear hBk hBl
  go_wp2
  go_ret
  exact ⟨rfl, (hF0.trans hF14).below (Nat.le_refl _) (by simp)⟩

theorem wireFrames_walk (w : World) (x0 x1 x2 x3 x4 x5 y0 y1 y2 y3 y4 y5 ty : Int) (s : ByteArray) (hs : s.size ≤ 140737488351232) (fr tt : Int) (t : ByteArray) (ht : t.size ≤ 140737488351232) (p : Int) (p0 : -9223372036854775808 ≤ p) (p1 : p ≤ 9223372036854775807) (u : ByteArray) (hu : u.size ≤ 140737488351232) :
    Calls Try.prog 12 #[.agg #[.int .u8 x0, .int .u8 x1, .int .u8 x2, .int .u8 x3, .int .u8 x4, .int .u8 x5, .int .u8 y0, .int .u8 y1, .int .u8 y2, .int .u8 y3, .int .u8 y4, .int .u8 y5, .int .i64 ty, .string s], .agg #[.int .i64 fr, .int .i64 tt, .string t], .int .i64 p, .string u] w
      fun e w' => e = .returned (.bool true) ∧ Below w.heap.size w w' := by
  obtain ⟨fd, rfl⟩ : ∃ l, s = B l := ⟨_, B_of s⟩
  obtain ⟨d, rfl⟩ : ∃ l, t = B l := ⟨_, B_of t⟩
  obtain ⟨b, rfl⟩ : ∃ l, u = B l := ⟨_, B_of u⟩
  rw [B_size] at hs ht hu
  by_cases h : 9000 < fd.length + d.length + b.length
  · exact wireFrames_big w x0 x1 x2 x3 x4 x5 y0 y1 y2 y3 y4 y5 ty fd fr tt d p b h hs ht hu
  · exact wireFrames_small w x0 x1 x2 x3 x4 x5 y0 y1 y2 y3 y4 y5 ty fd fr tt d p b (by omega)
end Go.Proofs.Ytmdgilhjiooalaa
