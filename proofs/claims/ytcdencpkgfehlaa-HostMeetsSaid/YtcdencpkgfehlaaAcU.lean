/- ac: a session is known, closed, told as gone; its data (printed by tools/gen_acu.py). -/
import Derived.Test.YtcdencpkgfehlaaAcJ
import Derived.Test.YtcdencpkgfehlaaAcI
import Derived.Test.YtcdencpkgfehlaaAcF
import Derived.Test.YtcdencpkgfehlaaAcN
namespace Go.Proofs.Ytcdencpkgfehlaa
open Go.RowKit Go.Maps
set_option linter.unusedVariables false
section
variable {w : World} {g : Nat} {c : Cn} {S : List Ses} {G : List Idk}
theorem CnIs.kept {w w' : World} {g : Nat} {c : Cn} {S : List Ses} {G : List Idk} {va : Value} {G' : List Idk} (h : CnIs w g c S G) (hF : Fr [g] w w') (hB : Blk w' g (cnC { c with gone := va }) 85) (hG : w'.ownsRow 0 61 7 va G'.length (G'.flatMap idL)) : CnIs w' g { c with gone := va } S G' :=
  ⟨hB, h.hM.fr hF (by simpa using Ne.symm (h.hM.not_blk h.st)), h.tM.fr hF (by simpa using Ne.symm (h.tM.not_blk h.st)), h.ne, fun s hs => hF.blk (h.ses s hs) (by
    have := (h.ses s hs).ne_type h.st (by decide)
    simpa using this), h.nd, h.num, h.nums, h.last, hG⟩
theorem CnIs.used1 {w w' : World} {g : Nat} {c : Cn} {s : Ses} {G : List Idk} (h : CnIs w g c [s] G) (hF : Fr [s.p] w w') (hB : Blk w' s.p (seC { s with used := true }) 63) : CnIs w' g c [{ s with used := true }] G :=
  have hs := h.ses s (by simp)
  ⟨hF.blk h.st (by have := h.st.ne_type hs (by decide); simpa using this), h.hM.fr hF (by simpa using Ne.symm (h.hM.not_blk hs)), h.tM.fr hF (by simpa using Ne.symm (h.tM.not_blk hs)), h.ne,
    (fun x hx => by
      obtain rfl : x = { s with used := true } := by simpa using hx
      exact hB), by simp, (fun x hx => by
      obtain rfl : x = { s with used := true } := by simpa using hx
      exact h.num s (by simp)), by simp, h.last, own_frS h.gn hF (fun q cur hq => by
      have := hq.ne_type hs (by decide)
      simpa using this)⟩
theorem find_ses (h : CnIs w g c S G) {s : Ses} (hs : s ∈ S) : look (S.map kv) (s.m, s.n) = some s.p := (look_some h.hM.nodup).2 (List.mem_map.2 ⟨s, hs, rfl⟩)
set_option maxRecDepth 100000 in
set_option maxHeartbeats 8000000 in
theorem known_ok (s : Ses) (hs : s ∈ S) (hid : IdOk (s.m, s.n)) (h : CnIs w g c S G) : Calls Try.prog 63 #[.pointer (some ⟨g, 0, none⟩), .agg (idC (s.m, s.n))] w fun e w' => e = .returned (.int .i64 0) ∧ Fr [] w w' := by
  have hl := find_ses h hs
  obtain ⟨id, hide⟩ : ∃ x, (s.m, s.n) = x := ⟨_, rfl⟩
  rw [hide] at hl hid ⊢
  obtain ⟨sp, hsp⟩ : ∃ x, s.p = x := ⟨_, rfl⟩
  rw [hsp] at hl
  clear hsp hide
  obtain ⟨⟨t1, t2, t3, t4, t5, t6⟩, n⟩ := id
  have hF := (Fr.refl [] w).alloc (.cells #[.int .u8 t1, .int .u8 t2, .int .u8 t3, .int .u8 t4, .int .u8 t5, .int .u8 t6, .int .i64 n] 61 (0, 0))
  have hN := Blk.new w #[.int .u8 t1, .int .u8 t2, .int .u8 t3, .int .u8 t4, .int .u8 t5, .int .u8 t6, .int .i64 n] 61
  obtain ⟨bid, hbid⟩ : ∃ q, w.heap.size = q := ⟨_, rfl⟩
  obtain ⟨W3, hW3⟩ : ∃ W, w.alloc (.cells #[.int .u8 t1, .int .u8 t2, .int .u8 t3, .int .u8 t4, .int .u8 t5, .int .u8 t6, .int .i64 n] 61 (0, 0)) = W := ⟨_, rfl⟩
  rw [hW3] at hF hN
  rw [hbid] at hN
  have h3 := h.fr0 hF
  have hlk : ∀ N, (Instr.lookup 81 (.map (some c.at_)) (.agg #[.int .u8 t1, .int .u8 t2, .int .u8 t3, .int .u8 t4, .int .u8 t5, .int .u8 t6, .int .i64 n]) false).run Try.prog (W3.drewN N) = .ok (.pointer (some ⟨sp, 0, none⟩)) (W3.drewN N) := fun N => by
    have := (h3.hM.fr ((Fr.refl [] W3).drewN N) (by simp)).lookup Try.underlying81 (zero_ses _) false (⟨t1, t2, t3, t4, t5, t6⟩, n) hid
    rw [hl] at this
    exact this
  have g10 : W3.cell? ⟨g, 10, none⟩ = some (.map (some c.at_)) := h3.st.c 10 _ rfl
  have q0 := hN.c 0 _ rfl
  have q1 := hN.c 1 _ rfl
  have q2 := hN.c 2 _ rfl
  have q3 := hN.c 3 _ rfl
  have q4 := hN.c 4 _ rfl
  have q5 := hN.c 5 _ rfl
  have q6 := hN.c 6 _ rfl
  have HF := Lib.hid hF
  have N0 := Lib.hid (cnone_any h3.st)
  unfold idC idL mcL
  simp only [List.cons_append, List.nil_append]
  clear hl hid h h3 hF hN
  go_enter Try.func63, Try.ntmps63
  go_wp2_with fail
  refine N0.out.mono ?_
  rintro e w1 ⟨rfl, rfl⟩
  go_wp2_with fail
  go_quiet (fail)
  go_wp2_with fail
  go_ret
  exact ⟨rfl, HF.out.drewN _⟩
set_option maxRecDepth 100000 in
set_option maxHeartbeats 8000000 in
theorem gone_ok (h : CnIs w g c S G) : Calls Try.prog 33 #[.pointer (some ⟨g, 0, none⟩)] w fun e w' => e = .returned c.gone ∧ CnIs w' g { c with gone := .slice none 0 0 } S [] ∧ w'.ownsRow 0 61 7 c.gone G.length (G.flatMap idL) ∧ Fr [g] w w' := by
  have N0 := Lib.hid (cnone_any h.st)
  have g13 : w.cell? ⟨g, 13, none⟩ = some c.gone := h.st.c 13 _ rfl
  have f13 := h.st.fz 13
  have HX : Hid (CnIs (w.setCell ⟨g, 13, none⟩ (.slice none 0 0)) g { c with gone := .slice none 0 0 } S [] ∧ (w.setCell ⟨g, 13, none⟩ (.slice none 0 0)).ownsRow 0 61 7 c.gone G.length (G.flatMap idL) ∧ Fr [g] w (w.setCell ⟨g, 13, none⟩ (.slice none 0 0))) := Lib.hid (by
    have hF := (Fr.refl [g] w).setCell (p := ⟨g, 13, none⟩) (by simp) (.slice none 0 0)
    have hB : Blk (w.setCell ⟨g, 13, none⟩ (.slice none 0 0)) g (cnC { c with gone := .slice none 0 0 }) 85 := by
      have := h.st.set 13 (.slice none 0 0)
      simpa [cnC] using this
    exact ⟨h.kept (va := .slice none 0 0) (G' := []) hF hB (World.ownsRow_nil _ _ _ _), own_frS h.gn hF (fun q cur hq => by
      have := hq.ne_type h.st (by decide)
      simpa using this), hF⟩)
  obtain ⟨gv, hgv⟩ : ∃ x, c.gone = x := ⟨_, rfl⟩
  rw [hgv] at g13 HX ⊢
  clear h hgv
  go_enter Try.func33, Try.ntmps33
  go_wp2_with fail
  refine N0.out.mono ?_
  rintro e w1 ⟨rfl, rfl⟩
  go_wp2_with fail
  go_ret
  exact ⟨rfl, HX.out⟩
def CloseP (w : World) (g : Nat) (c : Cn) (S : List Ses) (G : List Idk) (s : Ses) (e : Ending) (w' : World) : Prop := ∃ q d va, e = .returned (.tuple #[.slice (some ⟨q, 0, none⟩) 1 1, .int .i64 0]) ∧ w.heap.size ≤ q ∧ Blk w' q (ethC s.m c.m 34915 d) 35 ∧ CnIs w' g { c with gone := va } (dropS S (s.m, s.n)) (G ++ [(s.m, s.n)]) ∧ (∀ k, va.ownBlock = some k → c.gone.ownBlock = some k ∨ w.heap.size ≤ k) ∧ Fr (g :: c.at_ :: c.tk :: c.gone.ownBlock.toList) w w'
set_option maxRecDepth 100000 in
set_option maxHeartbeats 8000000 in
theorem close_ok (s : Ses) (hs : s ∈ S) (hid : IdOk (s.m, s.n)) (s0 : 0 ≤ s.n) (s1 : s.n ≤ 65535) (hGl : G.length ≤ 1000) (h : CnIs w g c S G) : Calls Try.prog 32 #[.pointer (some ⟨g, 0, none⟩), .agg (idC (s.m, s.n))] w (CloseP w g c S G s) := by
  have KN := Lib.hid fun W (hW : Fr [] w W) => known_ok s hs hid (h.fr0 hW)
  have DR := Lib.hid fun W (hW : Fr [] w W) => drop_yes s hs hid hGl (h.fr0 hW)
  have hgl := h.st.lt
  have HGB : Hid (∀ k, k ∈ g :: c.at_ :: c.tk :: c.gone.ownBlock.toList → k < w.heap.size) := Lib.hid fun k hk => by
    simp only [List.mem_cons] at hk
    rcases hk with rfl | rfl | rfl | hk
    · exact h.st.lt
    · exact h.hM.lt
    · exact h.tM.lt
    · obtain ⟨cur, hc⟩ := own_blk h.gn k (by simpa using hk)
      exact hc.lt
  have FRM := Lib.hid fun W va S' G' (hC : CnIs W g { c with gone := va } S' G') => cframe_any (w := W) (A := none) (cap := 0) (l := []) s.m 167 s.n (fun i t hi => by simp at hi) (by simp) (by simp) (by simp) (by unfold maxLen; omega) (by simp [tgsB]) (by decide) (by decide) s0 s1 hC.st
  have HFIN : Hid (∀ W1 W2 W3 va q d, Fr [] w W1 → CnIs W2 g { c with gone := va } (dropS S (s.m, s.n)) (G ++ [(s.m, s.n)]) → (∀ k, va.ownBlock = some k → c.gone.ownBlock = some k ∨ W1.heap.size ≤ k) → Fr (g :: c.at_ :: c.tk :: c.gone.ownBlock.toList) W1 W2 → W2.heap.size ≤ q → Blk W3 q (ethC s.m c.m 34915 d) 35 → Fr [] W2 W3 → CloseP w g c S G s (.returned (.tuple #[.slice (some ⟨q, 0, none⟩) 1 1, .int .i64 0])) W3) := Lib.hid fun W1 W2 W3 va q d h1 h2 h3 h4 h5 h6 h7 =>
    ⟨q, d, va, rfl, Nat.le_trans h1.size (Nat.le_trans h4.size h5), h6, h2.fr0 h7, fun k hk => (h3 k hk).imp id (Nat.le_trans h1.size), ((h1.mono (by simp)).trans h4).trans (h7.mono (by simp))⟩
  obtain ⟨P, hP⟩ : ∃ P, CloseP w g c S G s = P := ⟨_, rfl⟩
  rw [hP] at HFIN ⊢
  unfold DropP at DR
  unfold OneP at FRM
  clear hP h hs hid s0 s1 hGl
  obtain ⟨⟨t1, t2, t3, t4, t5, t6⟩, n, u, us, sp⟩ := s
  unfold idC idL at KN DR ⊢
  unfold mcL at KN DR FRM ⊢
  simp only [List.cons_append, List.nil_append] at KN DR FRM HFIN ⊢
  have hF := (Fr.refl [] w).alloc (.cells #[.int .u8 t1, .int .u8 t2, .int .u8 t3, .int .u8 t4, .int .u8 t5, .int .u8 t6, .int .i64 n] 61 (0, 0))
  have hN := Blk.new w #[.int .u8 t1, .int .u8 t2, .int .u8 t3, .int .u8 t4, .int .u8 t5, .int .u8 t6, .int .i64 n] 61
  obtain ⟨bid, hbid⟩ : ∃ q, w.heap.size = q := ⟨_, rfl⟩
  obtain ⟨W3, hW3⟩ : ∃ W, w.alloc (.cells #[.int .u8 t1, .int .u8 t2, .int .u8 t3, .int .u8 t4, .int .u8 t5, .int .u8 t6, .int .i64 n] 61 (0, 0)) = W := ⟨_, rfl⟩
  have hbn : bid ∉ g :: c.at_ :: c.tk :: c.gone.ownBlock.toList := fun hk => by have := HGB.out _ hk; omega
  rw [hW3] at hF hN
  rw [hbid] at hN
  have q0 := hN.c 0 _ rfl
  have q1 := hN.c 1 _ rfl
  have q2 := hN.c 2 _ rfl
  have q3 := hN.c 3 _ rfl
  have q4 := hN.c 4 _ rfl
  have q5 := hN.c 5 _ rfl
  have q6 := hN.c 6 _ rfl
  have HF := Lib.hid hF
  have HN := Lib.hid hN
  have HBN := Lib.hid hbn
  clear hF hN hbn
  go_enter Try.func32, Try.ntmps32
  go_wp2_with fail
  refine (KN.out _ HF.out).mono ?_
  rintro e w1 ⟨rfl, hF1⟩
  have HF1 := Lib.hid (HF.out.trans hF1)
  have HN1 := Lib.hid (hF1.blk HN.out (by simp))
  clear q0 q1 q2 q3 q4 q5 q6 hF1 KN HN HF hW3
  obtain ⟨q0, q1, q2, q3, q4, q5, q6⟩ : w1.cell? ⟨bid, 0, none⟩ = some (.int .u8 t1) ∧ w1.cell? ⟨bid, 1, none⟩ = some (.int .u8 t2) ∧ w1.cell? ⟨bid, 2, none⟩ = some (.int .u8 t3) ∧ w1.cell? ⟨bid, 3, none⟩ = some (.int .u8 t4) ∧ w1.cell? ⟨bid, 4, none⟩ = some (.int .u8 t5) ∧ w1.cell? ⟨bid, 5, none⟩ = some (.int .u8 t6) ∧ w1.cell? ⟨bid, 6, none⟩ = some (.int .i64 n) := ⟨HN1.out.c 0 _ rfl, HN1.out.c 1 _ rfl, HN1.out.c 2 _ rfl, HN1.out.c 3 _ rfl, HN1.out.c 4 _ rfl, HN1.out.c 5 _ rfl, HN1.out.c 6 _ rfl⟩
  go_wp2_with fail
  refine (DR.out _ HF1.out).mono ?_
  rintro e w2 ⟨va, rfl, hC, hva, hF2⟩
  have HN2 := Lib.hid (hF2.blk HN1.out HBN.out)
  have F2 := Lib.hid (FRM.out w2 va _ _ hC)
  have HFN := Lib.hid fun W q d => HFIN.out w1 w2 W va q d HF1.out hC hva hF2
  clear q0 q1 q2 q3 q4 q5 q6 hF2 DR FRM HFIN hC hva HN1
  obtain ⟨q0, q1, q2, q3, q4, q5, q6⟩ : w2.cell? ⟨bid, 0, none⟩ = some (.int .u8 t1) ∧ w2.cell? ⟨bid, 1, none⟩ = some (.int .u8 t2) ∧ w2.cell? ⟨bid, 2, none⟩ = some (.int .u8 t3) ∧ w2.cell? ⟨bid, 3, none⟩ = some (.int .u8 t4) ∧ w2.cell? ⟨bid, 4, none⟩ = some (.int .u8 t5) ∧ w2.cell? ⟨bid, 5, none⟩ = some (.int .u8 t6) ∧ w2.cell? ⟨bid, 6, none⟩ = some (.int .i64 n) := ⟨HN2.out.c 0 _ rfl, HN2.out.c 1 _ rfl, HN2.out.c 2 _ rfl, HN2.out.c 3 _ rfl, HN2.out.c 4 _ rfl, HN2.out.c 5 _ rfl, HN2.out.c 6 _ rfl⟩
  go_wp2_with fail
  refine F2.out.mono ?_
  rintro e w4 ⟨q, rfl, hq, hB, hF4⟩
  have HL := Lib.hid (HFN.out _ _ _ hq hB hF4)
  clear hq hB hF4 HFN F2
  go_wp2_with fail
  exact HL.out
set_option maxRecDepth 100000 in
set_option maxHeartbeats 8000000 in
theorem data_no (t : Mc) (nn : Int) (d : List UInt8) (hno : ∀ s, s ∈ S → kv s ≠ ((t, nn), s.p)) (hid : IdOk (t, nn)) (s0 : 0 ≤ nn) (s1 : nn ≤ 65535) (hd : d.length ≤ 1494) (h : CnIs w g c S G) :
    Calls Try.prog 31 #[.pointer (some ⟨g, 0, none⟩), .agg (ethC c.m t 34916 (discB 0 nn d))] w fun e w' => e = .returned (.tuple #[.agg #[.int .u8 0, .int .u8 0, .int .u8 0, .int .u8 0, .int .u8 0, .int .u8 0, .int .i64 0], .string ⟨#[]⟩, .bool false]) ∧ Fr [] w w' := by
  have hl : look (S.map kv) (t, nn) = none := look_none.2 fun p hp hpx => by
    obtain ⟨s, hs, rfl⟩ := List.mem_map.1 hp
    exact hno s hs (by unfold kv at hpx ⊢; rw [← hpx])
  have H := Lib.hid h
  have TG := Lib.hid fun W => tget_ok (w := W) 0 nn d (by decide) (by decide) s0 s1 hd
  have heq1 := fun W => eq_mac 9998 c.m c.m W
  rw [mcEq_self] at heq1
  obtain ⟨D, hD⟩ : ∃ x, discB 0 nn d = x := ⟨_, rfl⟩
  rw [hD] at TG ⊢
  clear hD
  have N0 := Lib.hid fun W (hW : Fr [] w W) => cnone_any (hW.blk h.st (by simp))
  have hcM : ∀ W, Fr [] w W → W.cell? ⟨g, 0, none⟩ = some (.int .u8 c.m.a) ∧ W.cell? ⟨g, 1, none⟩ = some (.int .u8 c.m.b) ∧ W.cell? ⟨g, 2, none⟩ = some (.int .u8 c.m.c) ∧ W.cell? ⟨g, 3, none⟩ = some (.int .u8 c.m.d) ∧ W.cell? ⟨g, 4, none⟩ = some (.int .u8 c.m.e) ∧ W.cell? ⟨g, 5, none⟩ = some (.int .u8 c.m.f) := fun W hW => by have hb := hW.blk h.st (by simp); exact ⟨hb.c 0 _ rfl, hb.c 1 _ rfl, hb.c 2 _ rfl, hb.c 3 _ rfl, hb.c 4 _ rfl, hb.c 5 _ rfl⟩
  have hcAt : ∀ W, Fr [] w W → W.cell? ⟨g, 10, none⟩ = some (.map (some c.at_)) := fun W hW => (hW.blk h.st (by simp)).c 10 _ rfl
  have hgl := h.st.lt
  have LK : Hid (∀ W, Fr [] w W → ∀ N, (Instr.lookup 81 (.map (some c.at_)) (.agg (idC (t, nn))) false).run Try.prog (W.drewN N) = .ok (.pointer none) (W.drewN N)) := Lib.hid fun W hW N => by
    have := ((h.fr0 hW).hM.fr ((Fr.refl [] W).drewN N) (by simp)).lookup Try.underlying81 (zero_ses _) false (t, nn) hid
    rw [hl] at this
    exact this
  clear h hno hl hd s0 s1 hid
  obtain ⟨n, hn⟩ : ∃ x, nn = x := ⟨_, rfl⟩
  rw [hn] at TG LK
  clear hn
  obtain ⟨t1, t2, t3, t4, t5, t6⟩ := t
  unfold idC idL mcL at LK
  simp only [List.cons_append, List.nil_append] at LK
  obtain ⟨cat, hcat⟩ : ∃ x, c.at_ = x := ⟨_, rfl⟩
  rw [hcat] at LK hcAt
  clear hcat
  obtain ⟨⟨m1, m2, m3, m4, m5, m6⟩, nmx, secx, svx, mostx, atx, tkx, lastx, gonex⟩ := c
  simp only at hcM
  have HCM := Lib.hid hcM
  have HCA := Lib.hid hcAt
  unfold mcL at heq1
  simp only at heq1
  unfold ethC
  simp only
  clear hcM hcAt
  have hF := ((Fr.refl [] w).alloc (.cells #[.int .u8 m1, .int .u8 m2, .int .u8 m3, .int .u8 m4, .int .u8 m5, .int .u8 m6, .int .u8 t1, .int .u8 t2, .int .u8 t3, .int .u8 t4, .int .u8 t5, .int .u8 t6, .int .i64 34916, .string (B D)] 35 (0, 0))).alloc (.cells #[.int .u8 0, .int .u8 0, .int .u8 0, .int .u8 0, .int .u8 0, .int .u8 0, .int .i64 0] 61 (0, 0))
  have hN := (Blk.new w #[.int .u8 m1, .int .u8 m2, .int .u8 m3, .int .u8 m4, .int .u8 m5, .int .u8 m6, .int .u8 t1, .int .u8 t2, .int .u8 t3, .int .u8 t4, .int .u8 t5, .int .u8 t6, .int .i64 34916, .string (B D)] 35).alloc (.cells #[.int .u8 0, .int .u8 0, .int .u8 0, .int .u8 0, .int .u8 0, .int .u8 0, .int .i64 0] 61 (0, 0))
  have hR := Blk.new (w.alloc (.cells #[.int .u8 m1, .int .u8 m2, .int .u8 m3, .int .u8 m4, .int .u8 m5, .int .u8 m6, .int .u8 t1, .int .u8 t2, .int .u8 t3, .int .u8 t4, .int .u8 t5, .int .u8 t6, .int .i64 34916, .string (B D)] 35 (0, 0))) #[.int .u8 0, .int .u8 0, .int .u8 0, .int .u8 0, .int .u8 0, .int .u8 0, .int .i64 0] 61
  rw [show (w.alloc (.cells #[.int .u8 m1, .int .u8 m2, .int .u8 m3, .int .u8 m4, .int .u8 m5, .int .u8 m6, .int .u8 t1, .int .u8 t2, .int .u8 t3, .int .u8 t4, .int .u8 t5, .int .u8 t6, .int .i64 34916, .string (B D)] 35 (0, 0))).heap.size = w.heap.size + 1 by simp] at hR
  go_enter Try.func31, Try.ntmps31
  go_wp2_with fail
  obtain ⟨q, hq⟩ : ∃ q, w.heap.size = q := ⟨_, rfl⟩
  rw [hq] at hN hR ⊢
  obtain ⟨qr, hqr⟩ : ∃ x, q + 1 = x := ⟨_, rfl⟩
  rw [hqr] at hR ⊢
  obtain ⟨W3, hW3⟩ : ∃ W, (w.alloc (.cells #[.int .u8 m1, .int .u8 m2, .int .u8 m3, .int .u8 m4, .int .u8 m5, .int .u8 m6, .int .u8 t1, .int .u8 t2, .int .u8 t3, .int .u8 t4, .int .u8 t5, .int .u8 t6, .int .i64 34916, .string (B D)] 35 (0, 0))).alloc (.cells #[.int .u8 0, .int .u8 0, .int .u8 0, .int .u8 0, .int .u8 0, .int .u8 0, .int .i64 0] 61 (0, 0)) = W := ⟨_, rfl⟩
  rw [hW3] at hN hF hR ⊢
  have HWR : Hid (w.heap.size ≤ qr) := Lib.hid (by omega)
  have HRL : Hid (qr < W3.heap.size) := Lib.hid hR.lt
  have HF3 := Lib.hid hF
  have HR3 := Lib.hid hR
  have HX : Hid (∀ W, Fr [] W3 W → (fun W => (W.cell? ⟨q, 0, none⟩ = some (.int .u8 m1) ∧ W.cell? ⟨q, 1, none⟩ = some (.int .u8 m2) ∧ W.cell? ⟨q, 2, none⟩ = some (.int .u8 m3) ∧ W.cell? ⟨q, 3, none⟩ = some (.int .u8 m4) ∧ W.cell? ⟨q, 4, none⟩ = some (.int .u8 m5) ∧ W.cell? ⟨q, 5, none⟩ = some (.int .u8 m6) ∧ W.cell? ⟨q, 6, none⟩ = some (.int .u8 t1) ∧ W.cell? ⟨q, 7, none⟩ = some (.int .u8 t2) ∧ W.cell? ⟨q, 8, none⟩ = some (.int .u8 t3) ∧ W.cell? ⟨q, 9, none⟩ = some (.int .u8 t4) ∧ W.cell? ⟨q, 10, none⟩ = some (.int .u8 t5) ∧ W.cell? ⟨q, 11, none⟩ = some (.int .u8 t6) ∧ W.cell? ⟨q, 12, none⟩ = some (.int .i64 34916) ∧ W.cell? ⟨q, 13, none⟩ = some (.string (B D)) ∧ W.cell? ⟨g, 0, none⟩ = some (.int .u8 m1) ∧ W.cell? ⟨g, 1, none⟩ = some (.int .u8 m2) ∧ W.cell? ⟨g, 2, none⟩ = some (.int .u8 m3) ∧ W.cell? ⟨g, 3, none⟩ = some (.int .u8 m4) ∧ W.cell? ⟨g, 4, none⟩ = some (.int .u8 m5) ∧ W.cell? ⟨g, 5, none⟩ = some (.int .u8 m6)) ∧ Fr [] W3 W) W) := Lib.hid fun W hW => by
    have hb := hW.blk hN (by simp)
    have hm := HCM.out W (HF3.out.trans hW)
    exact ⟨⟨hb.c 0 _ rfl, hb.c 1 _ rfl, hb.c 2 _ rfl, hb.c 3 _ rfl, hb.c 4 _ rfl, hb.c 5 _ rfl, hb.c 6 _ rfl, hb.c 7 _ rfl, hb.c 8 _ rfl, hb.c 9 _ rfl, hb.c 10 _ rfl, hb.c 11 _ rfl, hb.c 12 _ rfl, hb.c 13 _ rfl, hm⟩, hW⟩
  have hG0 := HX.out _ (Fr.refl [] W3).drew
  dsimp only at hG0
  have N2 := Lib.hid fun W (hW : Fr [] W3 W) => N0.out W (HF3.out.trans hW)
  clear hq hqr hW3 hN hF hR N0
  go_region_held3 (fun W => (W.cell? ⟨q, 0, none⟩ = some (.int .u8 m1) ∧ W.cell? ⟨q, 1, none⟩ = some (.int .u8 m2) ∧ W.cell? ⟨q, 2, none⟩ = some (.int .u8 m3) ∧ W.cell? ⟨q, 3, none⟩ = some (.int .u8 m4) ∧ W.cell? ⟨q, 4, none⟩ = some (.int .u8 m5) ∧ W.cell? ⟨q, 5, none⟩ = some (.int .u8 m6) ∧ W.cell? ⟨q, 6, none⟩ = some (.int .u8 t1) ∧ W.cell? ⟨q, 7, none⟩ = some (.int .u8 t2) ∧ W.cell? ⟨q, 8, none⟩ = some (.int .u8 t3) ∧ W.cell? ⟨q, 9, none⟩ = some (.int .u8 t4) ∧ W.cell? ⟨q, 10, none⟩ = some (.int .u8 t5) ∧ W.cell? ⟨q, 11, none⟩ = some (.int .u8 t6) ∧ W.cell? ⟨q, 12, none⟩ = some (.int .i64 34916) ∧ W.cell? ⟨q, 13, none⟩ = some (.string (B D)) ∧ W.cell? ⟨g, 0, none⟩ = some (.int .u8 m1) ∧ W.cell? ⟨g, 1, none⟩ = some (.int .u8 m2) ∧ W.cell? ⟨g, 2, none⟩ = some (.int .u8 m3) ∧ W.cell? ⟨g, 3, none⟩ = some (.int .u8 m4) ∧ W.cell? ⟨g, 4, none⟩ = some (.int .u8 m5) ∧ W.cell? ⟨g, 5, none⟩ = some (.int .u8 m6)) ∧ Fr [] W3 W)
    (first | exact hG0 | assumption)
    (first | (go_at_call 48; refine (N2.out _ (And.right (by assumption))).mono ?_; rintro e w1 ⟨rfl, rfl⟩))
  all_goals
    have hS4 := hG0
    obtain ⟨V4, hV4⟩ : ∃ V, W3.drew = V := ⟨_, rfl⟩
    rw [hV4] at hS4 ⊢
    obtain ⟨⟨a0, a1, a2, a3, a4, a5, a6, a7, a8, a9, a10, a11, a12, a13, g0, g1, g2, g3, g4, g5⟩, hF4⟩ := hS4
    clear hG0 hV4 N2
    go_wp2_with fail
    refine (TG.out _).mono ?_
    rintro e w5 ⟨rfl, hF5⟩
    have hF45 := hF4.trans hF5
    have hF5a := hF45.alloc (.cells #[.int .i64 0, .int .i64 n, .string (B d)] 72 (0, 0))
    have hD5 := Blk.new w5 #[.int .i64 0, .int .i64 n, .string (B d)] 72
    obtain ⟨qd, hqd⟩ : ∃ x, w5.heap.size = x := ⟨_, rfl⟩
    obtain ⟨W5, hW5⟩ : ∃ x, w5.alloc (.cells #[.int .i64 0, .int .i64 n, .string (B d)] 72 (0, 0)) = x := ⟨_, rfl⟩
    rw [hW5] at hF5a hD5
    rw [hqd] at hD5
    have hX5 := HX.out _ hF5a
    (try dsimp only at hX5)
    clear a0 a1 a2 a3 a4 a5 a6 a7 a8 a9 a10 a11 a12 a13 g0 g1 g2 g3 g4 g5
    obtain ⟨⟨a0, a1, a2, a3, a4, a5, a6, a7, a8, a9, a10, a11, a12, a13, g0, g1, g2, g3, g4, g5⟩, hF5'⟩ := hX5
    have hF6 := hF5a.alloc (.cells #[.int .u8 t1, .int .u8 t2, .int .u8 t3, .int .u8 t4, .int .u8 t5, .int .u8 t6, .int .i64 n] 61 (0, 0))
    have hD6 := hD5.alloc (.cells #[.int .u8 t1, .int .u8 t2, .int .u8 t3, .int .u8 t4, .int .u8 t5, .int .u8 t6, .int .i64 n] 61 (0, 0))
    have hI6 := Blk.new W5 #[.int .u8 t1, .int .u8 t2, .int .u8 t3, .int .u8 t4, .int .u8 t5, .int .u8 t6, .int .i64 n] 61
    obtain ⟨qi, hqi⟩ : ∃ x, W5.heap.size = x := ⟨_, rfl⟩
    obtain ⟨W6, hW6⟩ : ∃ x, W5.alloc (.cells #[.int .u8 t1, .int .u8 t2, .int .u8 t3, .int .u8 t4, .int .u8 t5, .int .u8 t6, .int .i64 n] 61 (0, 0)) = x := ⟨_, rfl⟩
    rw [hW6] at hF6 hD6 hI6
    rw [hqi] at hI6
    have d1' : W5.cell? ⟨qd, 1, none⟩ = some (.int .i64 n) := hD5.c 1 _ rfl
    go_wp2_with fail
    have g10 := HCA.out _ (HF3.out.trans hF6)
    have hlk := LK.out W6 (HF3.out.trans hF6)
    obtain ⟨d0, d1, d2⟩ : W6.cell? ⟨qd, 0, none⟩ = some (.int .i64 0) ∧ W6.cell? ⟨qd, 1, none⟩ = some (.int .i64 n) ∧ W6.cell? ⟨qd, 2, none⟩ = some (.string (B d)) := ⟨hD6.c 0 _ rfl, hD6.c 1 _ rfl, hD6.c 2 _ rfl⟩
    obtain ⟨q0, q1, q2, q3, q4, q5, q6⟩ : W6.cell? ⟨qi, 0, none⟩ = some (.int .u8 t1) ∧ W6.cell? ⟨qi, 1, none⟩ = some (.int .u8 t2) ∧ W6.cell? ⟨qi, 2, none⟩ = some (.int .u8 t3) ∧ W6.cell? ⟨qi, 3, none⟩ = some (.int .u8 t4) ∧ W6.cell? ⟨qi, 4, none⟩ = some (.int .u8 t5) ∧ W6.cell? ⟨qi, 5, none⟩ = some (.int .u8 t6) ∧ W6.cell? ⟨qi, 6, none⟩ = some (.int .i64 n) := ⟨hI6.c 0 _ rfl, hI6.c 1 _ rfl, hI6.c 2 _ rfl, hI6.c 3 _ rfl, hI6.c 4 _ rfl, hI6.c 5 _ rfl, hI6.c 6 _ rfl⟩
    have HQD : Hid (W3.heap.size ≤ qd ∧ W3.heap.size ≤ qi) := Lib.hid (by have := hF45.size; have := hF5a.size; omega)
    have HF6 := Lib.hid hF6
    have HD6 := Lib.hid hD6
    have HI6 := Lib.hid hI6
    clear hF5 hF5' hqd hqi hW6 hW5 TG hF4 hF45 hF5a hF6 hD5 hD6 hI6 d1' a0 a1 a2 a3 a4 a5 a6 a7 a8 a9 a10 a11 a12 a13 g0 g1 g2 g3 g4 g5 HX
    go_quiet (fail)
    have HR6 := Lib.hid (HF6.out.blk HR3.out (by simp))
    have HFW6 := Lib.hid (HF3.out.trans HF6.out)
    clear d1 d2 q0 q1 q2 q3 q4 q5 q6 g10 hlk
    go_wp2_with (refine wpList_store_blk rfl 61 _ _ rfl qr 61 _ #[.int .u8 0, .int .u8 0, .int .u8 0, .int .u8 0, .int .u8 0, .int .u8 0, .int .i64 0] (((Fr.refl [] W6).drewN _).blk HR6.out (by simp)) rfl rfl rfl (by kernel_rfl) (by simp [Value.oneCell']) ?_)
    intro w8 hw8 hN8
    have hF8 : Fr [] w w8 := by
      rw [hw8.out]
      exact (HFW6.out.drewN _).setCells qr 0 _ (Or.inl HWR.out)
    clear hw8
    go_wp2_with fail
    exact ret_cellF 4 5 6 61 rfl qr 61 _ _ hN8 rfl Try.underlying61 rfl (by kernel_rfl) rfl ⟨rfl, hF8⟩
set_option maxRecDepth 100000 in
set_option maxHeartbeats 8000000 in
theorem data_yes (s : Ses) (d : List UInt8) (hid : IdOk (s.m, s.n)) (s0 : 0 ≤ s.n) (s1 : s.n ≤ 65535) (hd : d.length ≤ 1494) (h : CnIs w g c [s] G) :
    Calls Try.prog 31 #[.pointer (some ⟨g, 0, none⟩), .agg (ethC c.m s.m 34916 (discB 0 s.n d))] w fun e w' => e = .returned (.tuple #[.agg (idC (s.m, s.n)), .string (B d), .bool true]) ∧ CnIs w' g c [{ s with used := true }] G ∧ Fr [s.p] w w' := by
  have hl := find_ses h (s := s) (by simp)
  have hses := h.ses s (by simp)
  have HSL : Hid (s.p < w.heap.size) := Lib.hid hses.lt
  have HU : Hid (∀ B, Fr [s.p] w B → Blk B s.p (seC { s with used := true }) 63 → CnIs B g c [{ s with used := true }] G ∧ Fr [s.p] w B) := Lib.hid fun B h2 h3 => ⟨h.used1 h2 h3, h2⟩
  have HSB := Lib.hid fun W (hW : Fr [] w W) => hW.blk hses (by simp)
  obtain ⟨P, hP⟩ : ∃ P : World → Prop, (fun w' => CnIs w' g c [{ s with used := true }] G ∧ Fr [s.p] w w') = P := ⟨_, rfl⟩
  have hPe : ∀ W, (CnIs W g c [{ s with used := true }] G ∧ Fr [s.p] w W) = P W := fun W => by rw [← hP]
  simp only [hPe] at HU ⊢
  clear hP hPe
  obtain ⟨nn, hnn⟩ : ∃ x, s.n = x := ⟨_, rfl⟩
  rw [hnn] at hid s0 s1 hl ⊢
  have H := Lib.hid h
  have TG := Lib.hid fun W => tget_ok (w := W) 0 nn d (by decide) (by decide) s0 s1 hd
  have heq1 := fun W => eq_mac 9998 c.m c.m W
  rw [mcEq_self] at heq1
  obtain ⟨D, hD⟩ : ∃ x, discB 0 nn d = x := ⟨_, rfl⟩
  rw [hD] at TG ⊢
  clear hD
  have N0 := Lib.hid fun W (hW : Fr [] w W) => cnone_any (hW.blk h.st (by simp))
  have hcM : ∀ W, Fr [] w W → W.cell? ⟨g, 0, none⟩ = some (.int .u8 c.m.a) ∧ W.cell? ⟨g, 1, none⟩ = some (.int .u8 c.m.b) ∧ W.cell? ⟨g, 2, none⟩ = some (.int .u8 c.m.c) ∧ W.cell? ⟨g, 3, none⟩ = some (.int .u8 c.m.d) ∧ W.cell? ⟨g, 4, none⟩ = some (.int .u8 c.m.e) ∧ W.cell? ⟨g, 5, none⟩ = some (.int .u8 c.m.f) := fun W hW => by have hb := hW.blk h.st (by simp); exact ⟨hb.c 0 _ rfl, hb.c 1 _ rfl, hb.c 2 _ rfl, hb.c 3 _ rfl, hb.c 4 _ rfl, hb.c 5 _ rfl⟩
  have hcAt : ∀ W, Fr [] w W → W.cell? ⟨g, 10, none⟩ = some (.map (some c.at_)) := fun W hW => (hW.blk h.st (by simp)).c 10 _ rfl
  have hgl := h.st.lt
  have LK : Hid (∀ W, Fr [] w W → ∀ N, (Instr.lookup 81 (.map (some c.at_)) (.agg (idC (s.m, nn))) false).run Try.prog (W.drewN N) = .ok (.pointer (some ⟨s.p, 0, none⟩)) (W.drewN N)) := Lib.hid fun W hW N => by
    have := ((h.fr0 hW).hM.fr ((Fr.refl [] W).drewN N) (by simp)).lookup Try.underlying81 (zero_ses _) false (s.m, nn) hid
    rw [hl] at this
    exact this
  clear h hl hd s0 s1 hid H
  obtain ⟨t, n, u, us, sp⟩ := s
  simp only at hnn
  subst hnn
  obtain ⟨t1, t2, t3, t4, t5, t6⟩ := t
  unfold seC seL at HU HSB hses
  unfold mcL at HU HSB hses
  unfold idC idL at LK ⊢
  unfold mcL at LK ⊢
  simp only [List.cons_append, List.nil_append] at LK HU HSB HSL hses ⊢
  obtain ⟨cat, hcat⟩ : ∃ x, c.at_ = x := ⟨_, rfl⟩
  rw [hcat] at LK hcAt
  clear hcat
  obtain ⟨⟨m1, m2, m3, m4, m5, m6⟩, nmx, secx, svx, mostx, atx, tkx, lastx, gonex⟩ := c
  simp only at hcM
  have HCM := Lib.hid hcM
  have HCA := Lib.hid hcAt
  unfold mcL at heq1
  simp only at heq1
  unfold ethC
  simp only
  clear hcM hcAt
  have hF := ((Fr.refl [] w).alloc (.cells #[.int .u8 m1, .int .u8 m2, .int .u8 m3, .int .u8 m4, .int .u8 m5, .int .u8 m6, .int .u8 t1, .int .u8 t2, .int .u8 t3, .int .u8 t4, .int .u8 t5, .int .u8 t6, .int .i64 34916, .string (B D)] 35 (0, 0))).alloc (.cells #[.int .u8 0, .int .u8 0, .int .u8 0, .int .u8 0, .int .u8 0, .int .u8 0, .int .i64 0] 61 (0, 0))
  have hN := (Blk.new w #[.int .u8 m1, .int .u8 m2, .int .u8 m3, .int .u8 m4, .int .u8 m5, .int .u8 m6, .int .u8 t1, .int .u8 t2, .int .u8 t3, .int .u8 t4, .int .u8 t5, .int .u8 t6, .int .i64 34916, .string (B D)] 35).alloc (.cells #[.int .u8 0, .int .u8 0, .int .u8 0, .int .u8 0, .int .u8 0, .int .u8 0, .int .i64 0] 61 (0, 0))
  have hR := Blk.new (w.alloc (.cells #[.int .u8 m1, .int .u8 m2, .int .u8 m3, .int .u8 m4, .int .u8 m5, .int .u8 m6, .int .u8 t1, .int .u8 t2, .int .u8 t3, .int .u8 t4, .int .u8 t5, .int .u8 t6, .int .i64 34916, .string (B D)] 35 (0, 0))) #[.int .u8 0, .int .u8 0, .int .u8 0, .int .u8 0, .int .u8 0, .int .u8 0, .int .i64 0] 61
  rw [show (w.alloc (.cells #[.int .u8 m1, .int .u8 m2, .int .u8 m3, .int .u8 m4, .int .u8 m5, .int .u8 m6, .int .u8 t1, .int .u8 t2, .int .u8 t3, .int .u8 t4, .int .u8 t5, .int .u8 t6, .int .i64 34916, .string (B D)] 35 (0, 0))).heap.size = w.heap.size + 1 by simp] at hR
  go_enter Try.func31, Try.ntmps31
  go_wp2_with fail
  obtain ⟨q, hq⟩ : ∃ q, w.heap.size = q := ⟨_, rfl⟩
  rw [hq] at hN hR ⊢
  obtain ⟨qr, hqr⟩ : ∃ x, q + 1 = x := ⟨_, rfl⟩
  rw [hqr] at hR ⊢
  obtain ⟨W3, hW3⟩ : ∃ W, (w.alloc (.cells #[.int .u8 m1, .int .u8 m2, .int .u8 m3, .int .u8 m4, .int .u8 m5, .int .u8 m6, .int .u8 t1, .int .u8 t2, .int .u8 t3, .int .u8 t4, .int .u8 t5, .int .u8 t6, .int .i64 34916, .string (B D)] 35 (0, 0))).alloc (.cells #[.int .u8 0, .int .u8 0, .int .u8 0, .int .u8 0, .int .u8 0, .int .u8 0, .int .i64 0] 61 (0, 0)) = W := ⟨_, rfl⟩
  rw [hW3] at hN hF hR ⊢
  have HWR : Hid (w.heap.size ≤ qr) := Lib.hid (by omega)
  have HRL : Hid (qr < W3.heap.size) := Lib.hid hR.lt
  have HF3 := Lib.hid hF
  have HR3 := Lib.hid hR
  have HX : Hid (∀ W, Fr [] W3 W → (fun W => (W.cell? ⟨q, 0, none⟩ = some (.int .u8 m1) ∧ W.cell? ⟨q, 1, none⟩ = some (.int .u8 m2) ∧ W.cell? ⟨q, 2, none⟩ = some (.int .u8 m3) ∧ W.cell? ⟨q, 3, none⟩ = some (.int .u8 m4) ∧ W.cell? ⟨q, 4, none⟩ = some (.int .u8 m5) ∧ W.cell? ⟨q, 5, none⟩ = some (.int .u8 m6) ∧ W.cell? ⟨q, 6, none⟩ = some (.int .u8 t1) ∧ W.cell? ⟨q, 7, none⟩ = some (.int .u8 t2) ∧ W.cell? ⟨q, 8, none⟩ = some (.int .u8 t3) ∧ W.cell? ⟨q, 9, none⟩ = some (.int .u8 t4) ∧ W.cell? ⟨q, 10, none⟩ = some (.int .u8 t5) ∧ W.cell? ⟨q, 11, none⟩ = some (.int .u8 t6) ∧ W.cell? ⟨q, 12, none⟩ = some (.int .i64 34916) ∧ W.cell? ⟨q, 13, none⟩ = some (.string (B D)) ∧ W.cell? ⟨g, 0, none⟩ = some (.int .u8 m1) ∧ W.cell? ⟨g, 1, none⟩ = some (.int .u8 m2) ∧ W.cell? ⟨g, 2, none⟩ = some (.int .u8 m3) ∧ W.cell? ⟨g, 3, none⟩ = some (.int .u8 m4) ∧ W.cell? ⟨g, 4, none⟩ = some (.int .u8 m5) ∧ W.cell? ⟨g, 5, none⟩ = some (.int .u8 m6)) ∧ Fr [] W3 W) W) := Lib.hid fun W hW => by
    have hb := hW.blk hN (by simp)
    have hm := HCM.out W (HF3.out.trans hW)
    exact ⟨⟨hb.c 0 _ rfl, hb.c 1 _ rfl, hb.c 2 _ rfl, hb.c 3 _ rfl, hb.c 4 _ rfl, hb.c 5 _ rfl, hb.c 6 _ rfl, hb.c 7 _ rfl, hb.c 8 _ rfl, hb.c 9 _ rfl, hb.c 10 _ rfl, hb.c 11 _ rfl, hb.c 12 _ rfl, hb.c 13 _ rfl, hm⟩, hW⟩
  have hG0 := HX.out _ (Fr.refl [] W3).drew
  dsimp only at hG0
  have N2 := Lib.hid fun W (hW : Fr [] W3 W) => N0.out W (HF3.out.trans hW)
  clear hq hqr hW3 hN hF hR N0
  go_region_held3 (fun W => (W.cell? ⟨q, 0, none⟩ = some (.int .u8 m1) ∧ W.cell? ⟨q, 1, none⟩ = some (.int .u8 m2) ∧ W.cell? ⟨q, 2, none⟩ = some (.int .u8 m3) ∧ W.cell? ⟨q, 3, none⟩ = some (.int .u8 m4) ∧ W.cell? ⟨q, 4, none⟩ = some (.int .u8 m5) ∧ W.cell? ⟨q, 5, none⟩ = some (.int .u8 m6) ∧ W.cell? ⟨q, 6, none⟩ = some (.int .u8 t1) ∧ W.cell? ⟨q, 7, none⟩ = some (.int .u8 t2) ∧ W.cell? ⟨q, 8, none⟩ = some (.int .u8 t3) ∧ W.cell? ⟨q, 9, none⟩ = some (.int .u8 t4) ∧ W.cell? ⟨q, 10, none⟩ = some (.int .u8 t5) ∧ W.cell? ⟨q, 11, none⟩ = some (.int .u8 t6) ∧ W.cell? ⟨q, 12, none⟩ = some (.int .i64 34916) ∧ W.cell? ⟨q, 13, none⟩ = some (.string (B D)) ∧ W.cell? ⟨g, 0, none⟩ = some (.int .u8 m1) ∧ W.cell? ⟨g, 1, none⟩ = some (.int .u8 m2) ∧ W.cell? ⟨g, 2, none⟩ = some (.int .u8 m3) ∧ W.cell? ⟨g, 3, none⟩ = some (.int .u8 m4) ∧ W.cell? ⟨g, 4, none⟩ = some (.int .u8 m5) ∧ W.cell? ⟨g, 5, none⟩ = some (.int .u8 m6)) ∧ Fr [] W3 W)
    (first | exact hG0 | assumption)
    (first | (go_at_call 48; refine (N2.out _ (And.right (by assumption))).mono ?_; rintro e w1 ⟨rfl, rfl⟩))
  all_goals
    have hS4 := hG0
    obtain ⟨V4, hV4⟩ : ∃ V, W3.drew = V := ⟨_, rfl⟩
    rw [hV4] at hS4 ⊢
    obtain ⟨⟨a0, a1, a2, a3, a4, a5, a6, a7, a8, a9, a10, a11, a12, a13, g0, g1, g2, g3, g4, g5⟩, hF4⟩ := hS4
    clear hG0 hV4 N2
    go_wp2_with fail
    refine (TG.out _).mono ?_
    rintro e w5 ⟨rfl, hF5⟩
    have hF45 := hF4.trans hF5
    have hF5a := hF45.alloc (.cells #[.int .i64 0, .int .i64 n, .string (B d)] 72 (0, 0))
    have hD5 := Blk.new w5 #[.int .i64 0, .int .i64 n, .string (B d)] 72
    obtain ⟨qd, hqd⟩ : ∃ x, w5.heap.size = x := ⟨_, rfl⟩
    obtain ⟨W5, hW5⟩ : ∃ x, w5.alloc (.cells #[.int .i64 0, .int .i64 n, .string (B d)] 72 (0, 0)) = x := ⟨_, rfl⟩
    rw [hW5] at hF5a hD5
    rw [hqd] at hD5
    have hX5 := HX.out _ hF5a
    (try dsimp only at hX5)
    clear a0 a1 a2 a3 a4 a5 a6 a7 a8 a9 a10 a11 a12 a13 g0 g1 g2 g3 g4 g5
    obtain ⟨⟨a0, a1, a2, a3, a4, a5, a6, a7, a8, a9, a10, a11, a12, a13, g0, g1, g2, g3, g4, g5⟩, hF5'⟩ := hX5
    have hF6 := hF5a.alloc (.cells #[.int .u8 t1, .int .u8 t2, .int .u8 t3, .int .u8 t4, .int .u8 t5, .int .u8 t6, .int .i64 n] 61 (0, 0))
    have hD6 := hD5.alloc (.cells #[.int .u8 t1, .int .u8 t2, .int .u8 t3, .int .u8 t4, .int .u8 t5, .int .u8 t6, .int .i64 n] 61 (0, 0))
    have hI6 := Blk.new W5 #[.int .u8 t1, .int .u8 t2, .int .u8 t3, .int .u8 t4, .int .u8 t5, .int .u8 t6, .int .i64 n] 61
    obtain ⟨qi, hqi⟩ : ∃ x, W5.heap.size = x := ⟨_, rfl⟩
    obtain ⟨W6, hW6⟩ : ∃ x, W5.alloc (.cells #[.int .u8 t1, .int .u8 t2, .int .u8 t3, .int .u8 t4, .int .u8 t5, .int .u8 t6, .int .i64 n] 61 (0, 0)) = x := ⟨_, rfl⟩
    rw [hW6] at hF6 hD6 hI6
    rw [hqi] at hI6
    have d1' : W5.cell? ⟨qd, 1, none⟩ = some (.int .i64 n) := hD5.c 1 _ rfl
    go_wp2_with fail
    have g10 := HCA.out _ (HF3.out.trans hF6)
    have hlk := LK.out W6 (HF3.out.trans hF6)
    obtain ⟨d0, d1, d2⟩ : W6.cell? ⟨qd, 0, none⟩ = some (.int .i64 0) ∧ W6.cell? ⟨qd, 1, none⟩ = some (.int .i64 n) ∧ W6.cell? ⟨qd, 2, none⟩ = some (.string (B d)) := ⟨hD6.c 0 _ rfl, hD6.c 1 _ rfl, hD6.c 2 _ rfl⟩
    obtain ⟨q0, q1, q2, q3, q4, q5, q6⟩ : W6.cell? ⟨qi, 0, none⟩ = some (.int .u8 t1) ∧ W6.cell? ⟨qi, 1, none⟩ = some (.int .u8 t2) ∧ W6.cell? ⟨qi, 2, none⟩ = some (.int .u8 t3) ∧ W6.cell? ⟨qi, 3, none⟩ = some (.int .u8 t4) ∧ W6.cell? ⟨qi, 4, none⟩ = some (.int .u8 t5) ∧ W6.cell? ⟨qi, 5, none⟩ = some (.int .u8 t6) ∧ W6.cell? ⟨qi, 6, none⟩ = some (.int .i64 n) := ⟨hI6.c 0 _ rfl, hI6.c 1 _ rfl, hI6.c 2 _ rfl, hI6.c 3 _ rfl, hI6.c 4 _ rfl, hI6.c 5 _ rfl, hI6.c 6 _ rfl⟩
    have HQD : Hid (W3.heap.size ≤ qd ∧ W3.heap.size ≤ qi) := Lib.hid (by have := hF45.size; have := hF5a.size; omega)
    have HF6 := Lib.hid hF6
    have HD6 := Lib.hid hD6
    have HI6 := Lib.hid hI6
    clear hF5 hF5' hqd hqi hW6 hW5 TG hF4 hF45 hF5a hF6 hD5 hD6 hI6 d1' a0 a1 a2 a3 a4 a5 a6 a7 a8 a9 a10 a11 a12 a13 g0 g1 g2 g3 g4 g5 HX
    go_quiet (fail)
    obtain ⟨V7, hV7⟩ : ∃ x, W6.drewN nq = x := ⟨_, rfl⟩
    rw [hV7]
    have hF7 : Fr [] W6 V7 := by rw [← hV7]; exact (Fr.refl [] W6).drewN _
    have hFw7 := (HF3.out.trans HF6.out).trans hF7
    have hS7 := HSB.out V7 hFw7
    have f8 := hS7.fz 8
    have c8 : V7.cell? ⟨sp, 8, none⟩ = some (.bool us) := hS7.c 8 _ rfl
    have hFs : Fr [sp] V7 (V7.setCell ⟨sp, 8, none⟩ (.bool true)) := (Fr.refl [sp] V7).setCell (p := ⟨sp, 8, none⟩) (by simp) _
    have hBs : Blk (V7.setCell ⟨sp, 8, none⟩ (.bool true)) sp #[.int .u8 t1, .int .u8 t2, .int .u8 t3, .int .u8 t4, .int .u8 t5, .int .u8 t6, .int .i64 n, .string (B u), .bool true] 63 := by have := hS7.set 8 (.bool true); simpa using this
    obtain ⟨WB, hWB⟩ : ∃ W, V7.setCell ⟨sp, 8, none⟩ (.bool true) = W := ⟨_, rfl⟩
    rw [hWB] at hFs hBs
    have hdn : qd ∉ [sp] ∧ qi ∉ [sp] ∧ qr ∉ [sp] ∧ qd ∉ [qr] ∧ qi ∉ [qr] ∧ sp ∉ [qr] := by
      have h1 := HSL.out
      have h2 := HWR.out
      have h3 := HRL.out
      have h4 := HQD.out
      simp
      omega
    have hD7 := hF7.blk HD6.out (by simp)
    have e0 : V7.cell? ⟨qd, 0, none⟩ = some (.int .i64 0) := hD7.c 0 _ rfl
    have hD8 := hFs.blk hD7 hdn.1
    have hI8 := hFs.blk (hF7.blk HI6.out (by simp)) hdn.2.1
    have HR := Lib.hid (hFs.blk ((HF6.out.trans hF7).blk HR3.out (by simp)) hdn.2.2.1)
    have HX9 : Hid (∀ W, Fr [qr] WB W → (fun W => (W.cell? ⟨qi, 0, none⟩ = some (.int .u8 t1) ∧ W.cell? ⟨qi, 1, none⟩ = some (.int .u8 t2) ∧ W.cell? ⟨qi, 2, none⟩ = some (.int .u8 t3) ∧ W.cell? ⟨qi, 3, none⟩ = some (.int .u8 t4) ∧ W.cell? ⟨qi, 4, none⟩ = some (.int .u8 t5) ∧ W.cell? ⟨qi, 5, none⟩ = some (.int .u8 t6) ∧ W.cell? ⟨qi, 6, none⟩ = some (.int .i64 n) ∧ W.cell? ⟨qd, 2, none⟩ = some (.string (B d))) ∧ Fr [qr] WB W) W) := Lib.hid fun W hW => by
      have a := hW.blk hI8 hdn.2.2.2.2.1
      exact ⟨⟨a.c 0 _ rfl, a.c 1 _ rfl, a.c 2 _ rfl, a.c 3 _ rfl, a.c 4 _ rfl, a.c 5 _ rfl, a.c 6 _ rfl, (hW.blk hD8 hdn.2.2.2.1).c 2 _ rfl⟩, hW⟩
    have HFIN : Hid (∀ V, Fr [qr] WB V → P V) := Lib.hid fun V hV => by
      refine HU.out V (((hFw7.mono (by simp)).trans hFs).sub hV fun x hx => ?_) (hV.blk hBs hdn.2.2.2.2.2)
      simp at hx
      right
      have := HWR.out
      omega
    clear d0 d1 d2 q0 q1 q2 q3 q4 q5 q6 g10 hlk hV7 hF7 hFw7 hS7 hFs hBs hdn hD7 hD8 hI8 HU HSB HF3 HF6 HD6 HI6 HR3
    go_wp2_with fail
    refine wp_region_held_drew (S := (fun W => (W.cell? ⟨qi, 0, none⟩ = some (.int .u8 t1) ∧ W.cell? ⟨qi, 1, none⟩ = some (.int .u8 t2) ∧ W.cell? ⟨qi, 2, none⟩ = some (.int .u8 t3) ∧ W.cell? ⟨qi, 3, none⟩ = some (.int .u8 t4) ∧ W.cell? ⟨qi, 4, none⟩ = some (.int .u8 t5) ∧ W.cell? ⟨qi, 5, none⟩ = some (.int .u8 t6) ∧ W.cell? ⟨qi, 6, none⟩ = some (.int .i64 n) ∧ W.cell? ⟨qd, 2, none⟩ = some (.string (B d))) ∧ Fr [qr] WB W)) (by kernel_rfl) ?_ (fun hHeld => ?_)
    · (try dsimp only); exact HX9.out _ (Fr.refl _ WB).drew
    refine take_yes 0 60 rfl rfl (by kernel_rfl) (by kernel_rfl) (by kernel_rfl) (fun _ _ _ h => h) (by rfl) (by assumption) (v := ?_) ?_ ?_
    rotate_left
    · intro w hSw; (try dsimp only at hSw); go_simp; (try with_reducible rfl)
    try simp only [Act.put, List.setIfInBounds_toArray, List.set_cons_zero, List.set_cons_succ]
    refine take_yes 1 61 rfl rfl (by kernel_rfl) (by kernel_rfl) (by kernel_rfl) (fun _ _ _ h => h) (by rfl) (by assumption) (v := ?_) ?_ ?_
    rotate_left
    · intro w hSw; (try dsimp only at hSw); go_simp; (try with_reducible rfl)
    try simp only [Act.put, List.setIfInBounds_toArray, List.set_cons_zero, List.set_cons_succ]
    refine take_yes 2 62 rfl rfl (by kernel_rfl) (by kernel_rfl) (by kernel_rfl) (fun _ _ _ h => h) (by rfl) (by assumption) (v := ?_) ?_ ?_
    rotate_left
    · intro w hSw; (try dsimp only at hSw); go_simp; (try with_reducible rfl)
    try simp only [Act.put, List.setIfInBounds_toArray, List.set_cons_zero, List.set_cons_succ]
    refine wpAnyH_ready (rs := [3]) (by kernel_rfl) (by simp) ?_
    refine AllReadyH.cons (o := _) rfl (fun K hK => ?_) AllReadyH.nil
    rw [if_pos (by rfl)]
    refine wp_store_mid 61 (.tmp 4) (.tmp 60) rfl qr 0 #[.int .u8 t1, .int .u8 t2, .int .u8 t3, .int .u8 t4, .int .u8 t5, .int .u8 t6, .int .i64 n] rfl rfl (HR.out.drew.there _ (by exact Nat.le_refl _)) (by kernel_rfl) (by simp [Value.oneCell']) ?_
    have hE4 := HR.out.drew.setCells #[.int .u8 t1, .int .u8 t2, .int .u8 t3, .int .u8 t4, .int .u8 t5, .int .u8 t6, .int .i64 n] rfl
    have hF4 : Fr [qr] WB (WB.drew.setCells qr 0 (#[.int .u8 t1, .int .u8 t2, .int .u8 t3, .int .u8 t4, .int .u8 t5, .int .u8 t6, .int .i64 n] : Array Value).toList) := ((Fr.refl [qr] WB).drew).setCells _ _ _ (Or.inr (by simp))
    obtain ⟨v4, hv4⟩ : ∃ V, WB.drew.setCells qr 0 (#[.int .u8 t1, .int .u8 t2, .int .u8 t3, .int .u8 t4, .int .u8 t5, .int .u8 t6, .int .i64 n] : Array Value).toList = V := ⟨_, rfl⟩
    rw [hv4] at hE4 hF4 ⊢
    refine hK.out _ _ ?_ (fun hHeld1 => ?_)
    · (try dsimp only); exact HX9.out _ hF4
    clear hK K
    clear hHeld
    have hHeld := hHeld1
    try simp only [Act.put, List.setIfInBounds_toArray, List.set_cons_zero, List.set_cons_succ]
    refine take_yes 4 5 rfl rfl (by kernel_rfl) (by kernel_rfl) (by kernel_rfl) (fun _ _ _ h => h) (by rfl) (by assumption) (v := ?_) ?_ ?_
    rotate_left
    · intro w hSw; (try dsimp only at hSw); go_simp; (try with_reducible rfl)
    try simp only [Act.put, List.setIfInBounds_toArray, List.set_cons_zero, List.set_cons_succ]
    refine take_yes 5 6 rfl rfl (by kernel_rfl) (by kernel_rfl) (by kernel_rfl) (fun _ _ _ h => h) (by rfl) (by assumption) (v := ?_) ?_ ?_
    rotate_left
    · intro w hSw; (try dsimp only at hSw); go_simp; (try with_reducible rfl)
    try simp only [Act.put, List.setIfInBounds_toArray, List.set_cons_zero, List.set_cons_succ]
    refine wpAnyH_done (by kernel_rfl) ?_ _
    have HE4 := Lib.hid hE4
    have HFIN2 := Lib.hid (HFIN.out v4 hF4)
    clear hE4 hF4 hv4 hHeld hHeld1 HX9 HR HFIN
    go_wp2_with fail
    exact ret_cellF 4 5 6 61 rfl qr 61 _ _ HE4.out rfl Try.underlying61 rfl (by kernel_rfl) rfl ⟨rfl, HFIN2.out⟩

end
end Go.Proofs.Ytcdencpkgfehlaa
