/- The state taken on by a block. -/
import Derived.Test.YtfchbppfbepelaaGreatTab
import Derived.Test.YtfchbppfbepelaaGreatMix
import Derived.Test.YtfchbppfbepelaaGreatWords
import Derived.Deep.RegionHeld3
namespace Go.Proofs.YtfchbppfbepelaaGreat
open Go.RowKit
set_option linter.unusedVariables false

def stC (s : St) : Array Value := #[.int .u32 (s.a : Int), .int .u32 (s.b : Int), .int .u32 (s.c : Int), .int .u32 (s.d : Int)]
/-- what a region of a step holds -/
def OnS (w0 : World) (h : Nat) (S W Z : Array Value) (i : Nat) (v : Value) (w1 : World) : Prop :=
  w1.cell? ⟨h + 1, i, none⟩ = some v ∧ Blk w1 h S 410 ∧ Blk w1 (h + 1) W 412 ∧ Blk w1 (h + 2) Z 410 ∧ Fr [] w0 w1
theorem OnS.mk {w0 w1 : World} {h : Nat} {S W Z : Array Value} {i : Nat} {v : Value} (hv : Hid (W[i]? = some v)) (a : Blk w1 h S 410) (b : Blk w1 (h + 1) W 412) (c : Blk w1 (h + 2) Z 410) (d : Fr [] w0 w1) : OnS w0 h S W Z i v w1 :=
  ⟨b.c i v hv.out, a, b, c, d⟩
theorem OnS.call {w0 w1 w2 : World} {h : Nat} {S W Z : Array Value} {i : Nat} {v : Value} (hv : Hid (W[i]? = some v)) (k : OnS w0 h S W Z i v w1) (f : Fr [] w1 w2) : OnS w0 h S W Z i v w2 :=
  OnS.mk hv (f.blk k.2.1 (by simp)) (f.blk k.2.2.1 (by simp)) (f.blk k.2.2.2.1 (by simp)) (k.2.2.2.2.trans f)
theorem info4 : (Tryz.prog.info? 410).map (·.size) = some 4 := by kernel_rfl
theorem wrap32_bd (y : Int) : 0 ≤ IntKind.u32.wrap y ∧ IntKind.u32.wrap y < 4294967296 := by rw [IntKind.wrap_u32]; omega

theorem Blk.new1 (w : World) (o : Obj) (cs : Array Value) (T : Nat) : Blk ((w.alloc o).alloc (.cells cs T (0, 0))) (w.heap.size + 1) cs T := by
  have := Blk.new (w.alloc o) cs T
  rwa [World.size_alloc] at this
theorem Blk.new2 (w : World) (o o' : Obj) (cs : Array Value) (T : Nat) : Blk (((w.alloc o).alloc o').alloc (.cells cs T (0, 0))) (w.heap.size + 1 + 1) cs T := by
  have := Blk.new ((w.alloc o).alloc o') cs T
  rwa [World.size_alloc, World.size_alloc] at this
theorem arr32_get (ws : List Nat) (j : Nat) (hj : j < ws.length) : (arr32 ws)[j]? = some (.int .u32 (ws.getD j 0 : Nat)) := by
  simp [arr32, List.getD, List.getElem?_eq_getElem hj]
theorem step_val (ws : List Nat) (k : Nat) (t : St) (ok : t.Ok) (A B C D V : Int) (hA : (t.a : Int) = A) (hB : (t.b : Int) = B) (hC : (t.c : Int) = C) (hD : (t.d : Int) = D) (hV : ((ws.getD (mixK k) 0 : Nat) : Int) = V) :
    (B + rotI (turnOf k : Nat) ((((A + mixI k B C D) % 4294967296 + (tabL.getD k 0 : Nat)) % 4294967296 + V) % 4294967296)) % 4294967296 = ((stepB ws k t : Nat) : Int) := by
  have ht : turnOf k < 32 := by
    unfold turnOf
    have : ∀ j, turnL.getD j 0 < 32 := fun j => by
      by_cases h : j < 16
      · have : ∀ j : Fin 16, turnL.getD j.1 0 < 32 := by decide
        exact this ⟨j, h⟩
      · have e : turnL.getD j 0 = 0 := by
          rw [List.getD, List.getElem?_eq_none (by show 16 ≤ j; omega)]; rfl
        omega
    exact this _
  have hm : mixI k B C D = (mixF k t.b t.c t.d : Nat) := by
    unfold mixI; rw [← hB, ← hC, ← hD, Int.toNat_natCast, Int.toNat_natCast, Int.toNat_natCast]
  unfold stepB rotI
  rw [hm, ← hV, ← hA, ← hB]
  have e1 : (((turnOf k : Nat) : Int) % 32).toNat = turnOf k := by omega
  have e2 : ((((t.a : Int) + (mixF k t.b t.c t.d : Nat)) % 4294967296 + (tabL.getD k 0 : Nat)) % 4294967296 + (ws.getD (mixK k) 0 : Nat)) % 4294967296 = ((t.a + mixF k t.b t.c t.d + tabL.getD k 0 + ws.getD (mixK k) 0) % 4294967296 : Nat) := by omega
  rw [e1, e2, Int.toNat_natCast]
  omega

set_option maxRecDepth 100000 in
set_option maxHeartbeats 2000000 in
theorem on_any (s : St) (ws : List Nat) (w : World) (hs : s.Ok) (hw : ws.length = 16) (hw32 : ∀ j, ws.getD j 0 < 4294967296) :
    Calls Tryz.prog 320 #[.agg (stC s), .agg (arr32 ws)] w fun e w' => e = .returned (.agg (stC (onS s ws))) ∧ Fr [] w w' := by
  obtain ⟨W, hW⟩ : ∃ W, W = arr32 ws := ⟨_, rfl⟩
  rw [← hW]
  have HW := Lib.hid hW
  have Hs := Lib.hid hs
  have Hw := Lib.hid hw
  have H32 := Lib.hid hw32
  clear hW hs hw hw32
  obtain ⟨A0, a0⟩ : ∃ x : Int, (s.a : Int) = x := ⟨_, rfl⟩
  obtain ⟨B0, b0⟩ : ∃ x : Int, (s.b : Int) = x := ⟨_, rfl⟩
  obtain ⟨C0, c0⟩ : ∃ x : Int, (s.c : Int) = x := ⟨_, rfl⟩
  obtain ⟨D0, d0⟩ : ∃ x : Int, (s.d : Int) = x := ⟨_, rfl⟩
  have es : stC s = #[.int .u32 A0, .int .u32 B0, .int .u32 C0, .int .u32 D0] := by unfold stC; rw [a0, b0, c0, d0]
  rw [es]
  have Hab := Lib.hid (And.intro a0 (And.intro b0 (And.intro c0 d0)))
  clear es a0 b0 c0 d0
  go_enter Tryz.func320, Tryz.ntmps320
  go_wp2
  go_region
  all_goals go_wp2
  have hz : ∃ Z : Array Value, Z = #[.int .u32 0, .int .u32 0, .int .u32 0, .int .u32 0] := ⟨_, rfl⟩
  obtain ⟨Z, hZ⟩ := hz
  obtain ⟨S, hS0⟩ : ∃ S : Array Value, S = #[.int .u32 A0, .int .u32 B0, .int .u32 C0, .int .u32 D0] := ⟨_, rfl⟩
  go_loopw [5, 6, 7, 8, 20] (fun a b c d i wr => ∃ k : Nat, k ≤ 64 ∧ i = .int .i64 k ∧ a = .int .u32 ((stepsS ws s k).a : Nat) ∧ b = .int .u32 ((stepsS ws s k).b : Nat) ∧ c = .int .u32 ((stepsS ws s k).c : Nat) ∧ d = .int .u32 ((stepsS ws s k).d : Nat) ∧
    Blk wr w.heap.size S 410 ∧ Blk wr (w.heap.size + 1) W 412 ∧ Blk wr (w.heap.size + 1 + 1) Z 410 ∧ Fr [] w wr) (fun _ _ _ _ i _ => 64 - (intOf i).toNat)
  case atStart =>
    obtain ⟨a0, b0, c0, d0⟩ := Hab.out
    rw [← hZ, ← hS0, ← a0, ← b0, ← c0, ← d0]
    exact ⟨0, by omega, rfl, rfl, rfl, rfl, rfl, ((Blk.new _ _ _).alloc _).alloc _, (Blk.new1 _ _ _ _).alloc _, Blk.new2 _ _ _ _ _, ((((Fr.refl _ _).alloc _).alloc _).alloc _).drew⟩
  case round =>
    obtain ⟨k, hk, rfl, rfl, rfl, rfl, rfl, hS, hB, hZ', hF⟩ := hrel
    have HZ := Lib.hid hZ
    have HS0 := Lib.hid hS0
    clear hZ hS0
    have ok := stepsS_ok ws Hs.out k
    obtain ⟨t, ht⟩ : ∃ t, stepsS ws s k = t := ⟨_, rfl⟩
    have hnext : stepsS ws s (k + 1) = stepS ws k t := by rw [← ht]; rfl
    rw [ht] at ok ⊢
    have Hn := Lib.hid hnext
    have Ht := Lib.hid ht
    clear hnext ht
    obtain ⟨oa, ob, oc, od⟩ := ok
    obtain ⟨A, hA⟩ : ∃ x : Int, (t.a : Int) = x := ⟨_, rfl⟩
    obtain ⟨B', hB'⟩ : ∃ x : Int, (t.b : Int) = x := ⟨_, rfl⟩
    obtain ⟨C, hC⟩ : ∃ x : Int, (t.c : Int) = x := ⟨_, rfl⟩
    obtain ⟨D, hD⟩ : ∃ x : Int, (t.d : Int) = x := ⟨_, rfl⟩
    have A0' : 0 ≤ A := by omega
    have A1 : A < 4294967296 := by omega
    have B0' : 0 ≤ B' := by omega
    have B1 : B' < 4294967296 := by omega
    have C0' : 0 ≤ C := by omega
    have C1 : C < 4294967296 := by omega
    have D0' : 0 ≤ D := by omega
    have D1 : D < 4294967296 := by omega
    have Hok := Lib.hid (show t.Ok from ⟨oa, ob, oc, od⟩)
    rw [hA, hB', hC, hD]
    have HA := Lib.hid hA
    have HB := Lib.hid hB'
    have HC := Lib.hid hC
    have HD := Lib.hid hD
    clear hA hB' hC hD oa ob oc od
    by_cases hlt : k < 64
    · obtain ⟨F, hFm⟩ : ∃ x : Int, mixI k B' C D = x := ⟨_, rfl⟩
      have hF0 := mixI_bd k B' C D B0' B1 C0' C1 D0' D1
      obtain ⟨q, hq⟩ : ∃ x : Nat, mixK k = x := ⟨_, rfl⟩
      have hq16 := mixK_lt k
      obtain ⟨V, hV⟩ : ∃ x : Int, ((ws.getD (mixK k) 0 : Nat) : Int) = x := ⟨_, rfl⟩
      have hWq := arr32_get ws (mixK k) (by rw [Hw.out]; exact hq16)
      have HV := Lib.hid hV
      rw [← HW.out, hV, hq] at hWq
      rw [hq] at hq16
      rw [hFm] at hF0
      obtain ⟨F0, F1⟩ := hF0
      have Hq := Lib.hid hq
      have HWq := Lib.hid hWq
      have HFm := Lib.hid hFm
      clear hWq hV hq hFm
      have q0 : (0 : Int) ≤ q := by omega
      have q1 : (q : Int) < 16 := by omega
      go_wp2_with fail
      refine (mix_any k B' C D _ hlt B0' B1 C0' C1 D0' D1).mono ?_
      rw [HFm.out, Hq.out]
      rintro e w1 ⟨rfl, rfl⟩
      go_wp2_with fail
      have hG : OnS w w.heap.size S W Z q (.int .u32 V) wr.drew := OnS.mk HWq hS.drew hB.drew hZ'.drew hF.drew
      go_region_held3 (fun w' => w'.cell? ⟨w.heap.size + 1, q, none⟩ = some (.int .u32 V) ∧ Blk w' w.heap.size S 410 ∧ Blk w' (w.heap.size + 1) W 412 ∧ Blk w' (w.heap.size + 1 + 1) Z 410 ∧ Fr [] w w')
        (first | exact hG | assumption | exact OnS.call HWq (by assumption) (by assumption))
        (first
          | (go_at_call 351; refine (table_any k _ hlt).mono ?_; rintro e w3 ⟨rfl, hF3⟩)
          | (go_at_call 352; refine (dturn_any k _ hlt).mono ?_; rintro e w3 ⟨rfl, hF3⟩)
          | (go_at_call 350; refine (rotate_i _ _ _ (wrap32_bd _).1 (wrap32_bd _).2).mono ?_; rintro e w3 ⟨rfl, rfl⟩))
      all_goals go_wp2
      all_goals
        go_roundw
        case rel =>
          go_split_ands
          refine ⟨k + 1, by omega, by go_num, ?_, ?_, ?_, ?_, by assumption, by assumption, by assumption, by assumption⟩
          · rw [Hn.out, ← HD.out]; rfl
          · rw [Hn.out]
            show _ = Value.int .u32 ((stepB ws k t : Nat) : Int)
            rw [← step_val ws k t Hok.out A B' C D V HA.out HB.out HC.out HD.out HV.out, HFm.out]
            simp only [IntKind.wrap_u32]
            rfl
          · rw [Hn.out, ← HB.out]; rfl
          · rw [Hn.out, ← HC.out]; rfl
        case measure => (simp [intOf]) <;> omega
    · have : k = 64 := by omega
      subst this
      have s0 := hS.c 0 (.int .u32 A0) (by rw [HS0.out]; rfl)
      have s1 := hS.c 1 (.int .u32 B0) (by rw [HS0.out]; rfl)
      have s2 := hS.c 2 (.int .u32 C0) (by rw [HS0.out]; rfl)
      have s3 := hS.c 3 (.int .u32 D0) (by rw [HS0.out]; rfl)
      have zs : Z.size = 4 := by rw [HZ.out]; rfl
      go_wp2_with (refine wpList_store_blk rfl 410 (.tmp 4) (.tmp 66) rfl (w.heap.size + 1 + 1) 410 Z _ hZ' rfl rfl ?_ ?_ ?_ ?_)
      · rw [zs]; rfl
      · exact info4
      · simp [Value.oneCell']
      intro w' hw' hB'
      go_wp2
      refine ret_cell1 4 410 rfl (w.heap.size + 1 + 1) 410 _ _ hB' rfl Tryz.underlying410 rfl info4 rfl ⟨?_, ?_⟩
      · obtain ⟨a0, b0, c0, d0⟩ := Hab.out
        have ea : (A0 + A) % 4294967296 = ((onS s ws).a : Nat) := by show _ = (((s.a + (stepsS ws s 64).a) % 4294967296 : Nat) : Int); rw [Ht.out, ← a0, ← HA.out]; omega
        have eb : (B0 + B') % 4294967296 = ((onS s ws).b : Nat) := by show _ = (((s.b + (stepsS ws s 64).b) % 4294967296 : Nat) : Int); rw [Ht.out, ← b0, ← HB.out]; omega
        have ec : (C0 + C) % 4294967296 = ((onS s ws).c : Nat) := by show _ = (((s.c + (stepsS ws s 64).c) % 4294967296 : Nat) : Int); rw [Ht.out, ← c0, ← HC.out]; omega
        have ed : (D0 + D) % 4294967296 = ((onS s ws).d : Nat) := by show _ = (((s.d + (stepsS ws s 64).d) % 4294967296 : Nat) : Int); rw [Ht.out, ← d0, ← HD.out]; omega
        unfold stC
        rw [ea, eb, ec, ed]
      rw [hw'.out]
      exact hF.setCells _ _ _ (Or.inl (by omega))
end Go.Proofs.YtfchbppfbepelaaGreat
