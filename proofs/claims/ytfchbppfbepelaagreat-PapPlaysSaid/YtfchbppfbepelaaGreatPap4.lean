/- pap: Take, Serve, Answer, and the first call of the statements. -/
import Derived.Test.YtfchbppfbepelaaGreatPap3
namespace Go.Proofs.YtfchbppfbepelaaGreat
open Go.RowKit
set_option linter.unusedVariables false

section
variable {w : World} {g : Nat} {d : List UInt8} {r wt id t a : Int} {x y z : Bool}
theorem ptake_nil (c i : Int) (A : Option Addr) (n cap : Nat) (D : List UInt8) :
    Calls Tryz.prog 17 #[.pointer none, .agg #[.int .i64 c, .int .i64 i, .slice A n cap, .string (B D)]] w fun e w' => e = .returned (.tuple #[]) ∧ Fr [] w w' := by
  go_enter Tryz.func17, Tryz.ntmps17
  go_wp2_with fail
  go_quiet ((go_at_call 102; exact Calls.quiet_of_same (pnone_nil.mono fun e w' h => ⟨h.1, h.2.symm⟩)))
  go_wp2
  refine rvoid rfl rfl ⟨rfl, ((Fr.refl _ _).alloc _).drewN _⟩
/-- the world behind the packet's boxing: the client, the packet -/
theorem ptake_open (b : Bool) (hb : (wt == 0) = b) (c i : Int) (A : Option Addr) (n cap : Nat) (D : List UInt8) (hB : Blk w g (pcl d r wt id t a x y z) 202) : ∃ W, Hid (w.alloc (.cells #[.int .i64 c, .int .i64 i, .slice A n cap, .string (B D)] 56) = W) ∧ Fr [] w W ∧ Blk W g (pcl d r wt id t a x y z) 202 ∧
    (W.cell? ⟨w.heap.size, 0, none⟩ = some (.int .i64 c) ∧ W.cell? ⟨w.heap.size, 1, none⟩ = some (.int .i64 i)) ∧ Hid (∀ N, Calls Tryz.prog 102 #[.pointer (some ⟨g, 0, none⟩)] (W.drewN N) fun e w' => e = .returned (.bool b) ∧ w' = W.drewN N) := by
  have hN := Blk.new w #[.int .i64 c, .int .i64 i, .slice A n cap, .string (B D)] 56
  subst hb
  exact ⟨_, Lib.hid rfl, (Fr.refl _ _).alloc _, hB.alloc _, ⟨hN.c 0 _ rfl, hN.c 1 _ rfl⟩, Lib.hid (fun N => (pnone_any ((hB.alloc _).drewN N)).mono fun e w' h => ⟨h.1, h.2.symm⟩)⟩
theorem ptake_zero (c i : Int) (A : Option Addr) (n cap : Nat) (D : List UInt8) (hB : Blk w g (pcl d r 0 id t a x y z) 202) :
    Calls Tryz.prog 17 #[.pointer (some ⟨g, 0, none⟩), .agg #[.int .i64 c, .int .i64 i, .slice A n cap, .string (B D)]] w fun e w' => e = .returned (.tuple #[]) ∧ Fr [] w w' := by
  obtain ⟨W, hW, hF, hBW, ⟨p0, p1⟩, HN⟩ := ptake_open true rfl c i A n cap D hB
  go_enter Tryz.func17, Tryz.ntmps17
  go_wp2_with fail
  rw [hW.out]
  go_quiet ((go_at_call 102; exact Calls.quiet_of_same (HN.out _)))
  go_wp2
  refine rvoid rfl rfl ⟨rfl, hF.drewN _⟩
theorem ptake_idle (c i : Int) (A : Option Addr) (n cap : Nat) (D : List UInt8) (hw : (wt == 0) = false) (hB : Blk w g (pcl d r wt id t a false y z) 202) :
    Calls Tryz.prog 17 #[.pointer (some ⟨g, 0, none⟩), .agg #[.int .i64 c, .int .i64 i, .slice A n cap, .string (B D)]] w fun e w' => e = .returned (.tuple #[]) ∧ Fr [] w w' := by
  obtain ⟨W, hW, hF, hBW, ⟨p0, p1⟩, HN⟩ := ptake_open false hw c i A n cap D hB
  obtain ⟨c0, c1, c2, c3, c4, c5, c6, c7, c8⟩ := pcl_c hBW
  go_enter Tryz.func17, Tryz.ntmps17
  go_wp2_with fail
  rw [hW.out]
  go_quiet ((go_at_call 102; exact Calls.quiet_of_same (HN.out _)))
  go_wp2
  refine rvoid rfl rfl ⟨rfl, hF.drewN _⟩
theorem ptake_id (c i : Int) (A : Option Addr) (n cap : Nat) (D : List UInt8) (hw : (wt == 0) = false) (hi : (i != id) = true) (i0 : 0 ≤ id) (i1 : id < 256) (hB : Blk w g (pcl d r wt id t a true y z) 202) :
    Calls Tryz.prog 17 #[.pointer (some ⟨g, 0, none⟩), .agg #[.int .i64 c, .int .i64 i, .slice A n cap, .string (B D)]] w fun e w' => e = .returned (.tuple #[]) ∧ Fr [] w w' := by
  obtain ⟨W, hW, hF, hBW, ⟨p0, p1⟩, HN⟩ := ptake_open false hw c i A n cap D hB
  obtain ⟨c0, c1, c2, c3, c4, c5, c6, c7, c8⟩ := pcl_c hBW
  go_enter Tryz.func17, Tryz.ntmps17
  go_wp2_with fail
  rw [hW.out]
  go_quiet ((go_at_call 102; exact Calls.quiet_of_same (HN.out _)))
  go_wp2
  refine rvoid rfl rfl ⟨rfl, hF.drewN _⟩
theorem ptake_code (c i : Int) (A : Option Addr) (n cap : Nat) (D : List UInt8) (hw : (wt == 0) = false) (hi : (i != id) = false) (h2 : (c != 2) = true) (h3 : (c != 3) = true) (i0 : 0 ≤ id) (i1 : id < 256) (hB : Blk w g (pcl d r wt id t a true y z) 202) :
    Calls Tryz.prog 17 #[.pointer (some ⟨g, 0, none⟩), .agg #[.int .i64 c, .int .i64 i, .slice A n cap, .string (B D)]] w fun e w' => e = .returned (.tuple #[]) ∧ Fr [] w w' := by
  obtain ⟨W, hW, hF, hBW, ⟨p0, p1⟩, HN⟩ := ptake_open false hw c i A n cap D hB
  obtain ⟨c0, c1, c2, c3, c4, c5, c6, c7, c8⟩ := pcl_c hBW
  go_enter Tryz.func17, Tryz.ntmps17
  go_wp2_with fail
  rw [hW.out]
  go_quiet ((go_at_call 102; exact Calls.quiet_of_same (HN.out _)))
  go_wp2
  refine rvoid rfl rfl ⟨rfl, hF.drewN _⟩
theorem ptake_ack (i : Int) (A : Option Addr) (n cap : Nat) (D : List UInt8) (hw : (wt == 0) = false) (hi : (i != id) = false) (i0 : 0 ≤ id) (i1 : id < 256) (hB : Blk w g (pcl d r wt id t a true y z) 202) :
    Calls Tryz.prog 17 #[.pointer (some ⟨g, 0, none⟩), .agg #[.int .i64 2, .int .i64 i, .slice A n cap, .string (B D)]] w fun e w' => e = .returned (.tuple #[]) ∧ Blk w' g (pcl d r wt id t a false true true) 202 ∧ Fr [g] w w' := by
  obtain ⟨W, hW, hF, hBW, ⟨p0, p1⟩, HN⟩ := ptake_open false hw 2 i A n cap D hB
  obtain ⟨c0, c1, c2, c3, c4, c5, c6, c7, c8⟩ := pcl_c hBW
  go_enter Tryz.func17, Tryz.ntmps17
  go_wp2_with fail
  rw [hW.out]
  go_quiet ((go_at_call 102; exact Calls.quiet_of_same (HN.out _)))
  go_wp2_with fail
  refine (pend_any true (by exact hBW.drewN _)).mono ?_
  rintro e w1 ⟨rfl, hC, hF1⟩
  have hF2 := ((hF.mono (S' := [g]) (by simp)).drewN _).trans hF1
  clear c0 c1 c2 c3 c4 c5 c6 c7 c8 p0 p1
  go_wp2
  refine bodyPost_end (results_none rfl _ _ _) rfl ⟨rfl, hC, hF2⟩
theorem ptake_nak (i : Int) (A : Option Addr) (n cap : Nat) (D : List UInt8) (hw : (wt == 0) = false) (hi : (i != id) = false) (i0 : 0 ≤ id) (i1 : id < 256) (hB : Blk w g (pcl d r wt id t a true y z) 202) :
    Calls Tryz.prog 17 #[.pointer (some ⟨g, 0, none⟩), .agg #[.int .i64 3, .int .i64 i, .slice A n cap, .string (B D)]] w fun e w' => e = .returned (.tuple #[]) ∧ Blk w' g (pcl d r wt id t a false true false) 202 ∧ Fr [g] w w' := by
  obtain ⟨W, hW, hF, hBW, ⟨p0, p1⟩, HN⟩ := ptake_open false hw 3 i A n cap D hB
  obtain ⟨c0, c1, c2, c3, c4, c5, c6, c7, c8⟩ := pcl_c hBW
  go_enter Tryz.func17, Tryz.ntmps17
  go_wp2_with fail
  rw [hW.out]
  go_quiet ((go_at_call 102; exact Calls.quiet_of_same (HN.out _)))
  go_wp2_with fail
  refine (pend_any false (by exact hBW.drewN _)).mono ?_
  rintro e w1 ⟨rfl, hC, hF1⟩
  have hF2 := ((hF.mono (S' := [g]) (by simp)).drewN _).trans hF1
  clear c0 c1 c2 c3 c4 c5 c6 c7 c8 p0 p1
  go_wp2
  refine bodyPost_end (results_none rfl _ _ _) rfl ⟨rfl, hC, hF2⟩
theorem serve_no (c i : Int) (A : Option Addr) (n cap : Nat) (D : List UInt8) (h : (c != 1) = true ∨ (c != 1) = false ∧ 0 < n) :
    Calls Tryz.prog 21 #[.agg #[.int .i64 c, .int .i64 i, .slice A n cap, .string (B D)]] w fun e w' => e = .returned (.tuple #[.string (B []), .string (B []), .bool false]) ∧ Fr [] w w' := by
  rcases h with h | ⟨h, hn⟩
  · go_enter Tryz.func21, Tryz.ntmps21
    go_wp2
    go_ret3
    exact ⟨rfl, (Fr.refl _ _).alloc _⟩
  · have hn' : (0 : Int) < n := by omega
    go_enter Tryz.func21, Tryz.ntmps21
    go_wp2
    go_ret3
    exact ⟨rfl, (Fr.refl _ _).alloc _⟩
theorem serve_yes (i : Int) (A : Option Addr) (cap : Nat) (D : List UInt8) (hD : D.length ≤ 140737488351232) :
    Calls Tryz.prog 21 #[.agg #[.int .i64 1, .int .i64 i, .slice A 0 cap, .string (B D)]] w fun e w' => e = .returned (.tuple #[.string (B (greqN D)), .string (B (greqS D)), .bool (getE 2 D == 0)]) ∧ Fr [] w w' := by
  go_enter Tryz.func21, Tryz.ntmps21
  go_wp2_with fail
  refine (getReq_any D _ hD).mono ?_
  rintro e w1 ⟨rfl, hF⟩
  go_wp2
  go_ret3
  exact ⟨rfl, ((Fr.refl _ _).alloc _).trans hF⟩
theorem pkt_one (c i : Int) (A : Option Addr) (n cap : Nat) (D : List UInt8) : (pkt c i (.slice A n cap) D).all (·.oneCell') = true := by simp [pkt, Value.oneCell']
theorem answer_any (c i : Int) (A : Option Addr) (n cap : Nat) (D : List UInt8) (b : Bool) :
    Calls Tryz.prog 24 #[.agg #[.int .i64 c, .int .i64 i, .slice A n cap, .string (B D)], .bool b] w fun e w' => e = .returned (.agg (pkt (if b then 2 else 3) i (.slice none 0 0) (if b then [2, 111, 107] else [2, 110, 111]))) ∧ Fr [] w w' := by
  have s1 : sayL [111, 107] = [2, 111, 107] := by decide +kernel
  have s2 : sayL [110, 111] = [2, 110, 111] := by decide +kernel
  have k1 := (Blk.new w #[.int .i64 c, .int .i64 i, .slice A n cap, .string (B D)] 56).alloc (.cells #[.int .i64 0, .int .i64 0, .slice none 0 0, .string ⟨#[]⟩] 56)
  have k2 := Blk.new (w.alloc (.cells #[.int .i64 c, .int .i64 i, .slice A n cap, .string (B D)] 56)) #[.int .i64 0, .int .i64 0, .slice none 0 0, .string ⟨#[]⟩] 56
  have e1 : (w.alloc (.cells #[.int .i64 c, .int .i64 i, .slice A n cap, .string (B D)] 56)).heap.size = w.heap.size + 1 := by simp
  have hF0 : Fr [] w ((w.alloc (.cells #[.int .i64 c, .int .i64 i, .slice A n cap, .string (B D)] 56)).alloc (.cells #[.int .i64 0, .int .i64 0, .slice none 0 0, .string ⟨#[]⟩] 56)) := ((Fr.refl _ _).alloc _).alloc _
  rw [e1] at k2
  have K1 := Lib.hid k1
  have K2 := Lib.hid k2
  have HF0 := Lib.hid hF0
  clear k1 k2 e1 hF0
  cases b with
  | false =>
    have hP := fun W => putSay_any [110, 111] W (by decide)
    rw [s2] at hP
    have HP := Lib.hid hP
    clear hP s1 s2
    go_enter Tryz.func24, Tryz.ntmps24
    go_wp2_with fail
    refine (HP.out _).mono ?_
    rintro e w1 ⟨rfl, hF⟩
    have c1 : w1.cell? ⟨w.heap.size, 1, none⟩ = some (.int .i64 i) := (hF.blk K1.out (by simp)).c 1 _ rfl
    have j2 := hF.blk K2.out (by simp)
    have j2' := j2.lt
    go_wp2_with (refine wpList_store_blk rfl 56 (.tmp 4) (.tmp 19) rfl (w.heap.size + 1) 56 _ (pkt 3 i (.slice none 0 0) [2, 110, 111]) j2 rfl rfl rfl (by kernel_rfl) (pkt_one _ _ _ _ _ _) ?_; intro w2 hw2 hB2)
    refine ret_cell1 4 56 rfl (w.heap.size + 1) 56 _ _ hB2 rfl Tryz.underlying56 rfl (by kernel_rfl) rfl ⟨rfl, ?_⟩
    rw [hw2.out]
    exact (HF0.out.trans hF).setCells _ _ _ (Or.inl (by omega))
  | true =>
    have hP := fun W => putSay_any [111, 107] W (by decide)
    rw [s1] at hP
    have HP := Lib.hid hP
    clear hP s1 s2
    go_enter Tryz.func24, Tryz.ntmps24
    go_wp2_with fail
    refine (HP.out _).mono ?_
    rintro e w1 ⟨rfl, hF⟩
    have c1 : w1.cell? ⟨w.heap.size, 1, none⟩ = some (.int .i64 i) := (hF.blk K1.out (by simp)).c 1 _ rfl
    have j2 := hF.blk K2.out (by simp)
    have j2' := j2.lt
    go_wp2_with (refine wpList_store_blk rfl 56 (.tmp 4) (.tmp 19) rfl (w.heap.size + 1) 56 _ (pkt 2 i (.slice none 0 0) [2, 111, 107]) j2 rfl rfl rfl (by kernel_rfl) (pkt_one _ _ _ _ _ _) ?_; intro w2 hw2 hB2)
    refine ret_cell1 4 56 rfl (w.heap.size + 1) 56 _ _ hB2 rfl Tryz.underlying56 rfl (by kernel_rfl) rfl ⟨rfl, ?_⟩
    rw [hw2.out]
    exact (HF0.out.trans hF).setCells _ _ _ (Or.inl (by omega))
end

theorem fieldCode (c i : Int) (o s : Value) (W : World) : (Instr.field 56 (.agg #[.int .i64 c, .int .i64 i, o, s]) 0).run Tryz.prog W = .ok (.int .i64 c) W := by kernel_rfl
set_option maxRecDepth 100000 in
set_option maxHeartbeats 1000000 in
theorem alive13 (w : World) : Calls Tryz.prog 10 #[] w fun e w' => e = .returned (.bool true) ∧ Fr [] w w' := by
  have a1 : reqL [97] [98, 99] = [1, 97, 2, 98, 99] := by decide +kernel
  have a2 : reqE [97] [98, 99] = 0 := by decide +kernel
  have a3 : getE 2 [1, 97, 2, 98, 99] = 0 := by decide +kernel
  have a4 : greqN [1, 97, 2, 98, 99] = [97] := by decide +kernel
  have a5 : greqS [1, 97, 2, 98, 99] = [98, 99] := by decide +kernel
  have P := fun W => putReq_any [97] [98, 99] W (by decide) (by decide)
  have G := fun W => getReq_any [1, 97, 2, 98, 99] W (by decide)
  have N := fun W : World => pnew_ok (w := W) [97] [98, 99] (r := 2) (wt := 3) (by decide) (by decide) (by decide) (by decide) (by decide) (by decide)
  have S := fun W : World => serve_yes (w := W) 1 none 0 [1, 97, 2, 98, 99] (by decide)
  have A : ∀ W : World, Calls Tryz.prog 24 #[.agg #[.int .i64 1, .int .i64 1, .slice none 0 0, .string (B [1, 97, 2, 98, 99])], .bool true] W fun e w' => e = .returned (.agg #[.int .i64 2, .int .i64 1, .slice none 0 0, .string (B [2, 111, 107])]) ∧ Fr [] W w' := fun W : World => answer_any (w := W) 1 1 none 0 0 [1, 97, 2, 98, 99] true
  rw [a1, a2] at P
  rw [a3, a4, a5] at G S
  rw [a1] at N
  have P' := Lib.hid P
  have G' := Lib.hid G
  have N' := Lib.hid N
  have S' := Lib.hid S
  have A' := Lib.hid A
  clear a1 a2 a3 a4 a5 P G N S A
  go_enter Tryz.func10, Tryz.ntmps10
  go_wp2_with fail
  refine (P'.out _).mono ?_
  rintro e w1 ⟨rfl, hF1⟩
  go_wp2_with fail
  refine (G'.out _).mono ?_
  rintro e w2 ⟨rfl, hF2⟩
  go_wp2_with fail
  refine (N'.out _).mono ?_
  rintro e w3 ⟨g, rfl, hg, hC, hF3⟩
  go_wp2_with fail
  refine (pstart_any (by decide) (by decide) (by decide) hC).mono ?_
  rintro e w4 ⟨g', rfl, hg', hP, hC4, hF4⟩
  have hF : Fr [] w w4 := ((hF1.trans hF2).trans hF3).sub hF4 (fun x hx => by simp at hx; subst hx; right; have := hF1.size; have := hF2.size; omega)
  have c0 : w4.cell? ⟨g', 0, none⟩ = some (.int .i64 1) := hP.c 0 _ rfl
  have c1 : w4.cell? ⟨g', 1, none⟩ = some (.int .i64 1) := hP.c 1 _ rfl
  have c2 : w4.cell? ⟨g', 2, none⟩ = some (.slice none 0 0) := hP.c 2 _ rfl
  have c3 : w4.cell? ⟨g', 3, none⟩ = some (.string (B [1, 97, 2, 98, 99])) := hP.c 3 _ rfl
  clear hF1 hF2 hF3 hF4 hC hC4 hg hg'
  go_wp2_with fail
  refine (S'.out _).mono ?_
  rintro e w5 ⟨rfl, hF5⟩
  have hP5 := hF5.blk hP (by simp)
  have hF := hF.trans hF5
  clear c0 c1 c2 c3 hP hF5
  have c0 : w5.cell? ⟨g', 0, none⟩ = some (.int .i64 1) := hP5.c 0 _ rfl
  have c1 : w5.cell? ⟨g', 1, none⟩ = some (.int .i64 1) := hP5.c 1 _ rfl
  have c2 : w5.cell? ⟨g', 2, none⟩ = some (.slice none 0 0) := hP5.c 2 _ rfl
  have c3 : w5.cell? ⟨g', 3, none⟩ = some (.string (B [1, 97, 2, 98, 99])) := hP5.c 3 _ rfl
  go_wp2_with fail
  refine (A'.out _).mono ?_
  rintro e w6 ⟨rfl, hF6⟩
  have hfc := fieldCode 2 1 (.slice none 0 0) (.string (B [2, 111, 107])) w6
  go_wp2
  go_ret
  exact ⟨rfl, hF.trans hF6⟩
end Go.Proofs.YtfchbppfbepelaaGreat
