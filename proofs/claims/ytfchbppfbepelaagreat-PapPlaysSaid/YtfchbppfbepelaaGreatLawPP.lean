/- PapPlays (printed by tools/gen_papplays.py). -/
import Derived.Test.YtfchbppfbepelaaGreatPapRow
import Derived.Test.YtfchbppfbepelaaGreatBkSent
import Derived.Test.YtfchbppfbepelaaGreatDPap
import Derived.OpenShut
import Derived.WideShapes
import Derived.Below
import Derived.Deep.DeepCutAuto
import Derived.Deep.CutBlock
namespace Go.Proofs.YtfchbppfbepelaaGreat
open Go.ChangeShapes Go.WideShapes Go.ChangeAt Go.RowKit Go.Deep
set_option linter.unusedVariables false
/-- what a round of PapPlays finds -/
structure PPs (w0 : World) (b g h : Nat) (n s1 : List UInt8) (r wt : Int) (st : PS) (kp : List (Bl (Int × Int × List UInt8))) (w : World) : Prop where
  ok : st.ok r wt
  bk : BkS w0.heap.size w b kp
  cl : Blk w g (pclS (reqL n s1) r wt st) 202
  dc : Blk w h (dclS n s1 r wt st) 68
  fr : Fr [] w0 w
  hg : w0.heap.size ≤ g
  hh : w0.heap.size ≤ h
section
variable {w0 w : World} {b g h : Nat} {n s1 : List UInt8} {r wt : Int} {st : PS} {kp : List (Bl (Int × Int × List UInt8))}
theorem PPs.fr0 (H : PPs w0 b g h n s1 r wt st kp w) {w' : World} (hF : Fr [] w w') : PPs w0 b g h n s1 r wt st kp w' :=
  ⟨H.ok, H.bk.fr0 hF, hF.blk H.cl (by simp), hF.blk H.dc (by simp), H.fr.trans hF, H.hg, H.hh⟩
theorem PPs.gh (H : PPs w0 b g h n s1 r wt st kp w) : g ≠ h := H.cl.neT H.dc (by decide)
/-- behind the switch: both answers, the packet -/
def PCut (w0 : World) (b g h : Nat) (n s1 : List UInt8) (r wt : Int) (nP : Nat) (pc : Array Value) (av bv : Value) (wx : World) : Prop :=
  ∃ st kp out A1 c1 A2 c2 base, av = .slice A1 (List.length out) c1 ∧ bv = .slice A2 (List.length out) c2 ∧ PkO base wx (.slice A1 out.length c1) out ∧ PkO base wx (.slice A2 out.length c2) out ∧ out.length ≤ 1 ∧ PPs w0 b g h n s1 r wt st kp wx ∧
    (∀ u, u ∈ kp → ∀ q, Value.ownBlock (Bl.v u) = some q → q < base) ∧ Blk wx nP pc 56 ∧ w0.heap.size ≤ base
theorem PPs.step {st' : PS} (H : PPs w0 b g h n s1 r wt st kp w) (ok' : st'.ok r wt) {w1 w2 : World} {av bv : Value} {out : List (Int × Int × List UInt8)} (hl : out.length ≤ 1) (h1 : PkO w.heap.size w1 av out) (c1 : Blk w1 g (pclS (reqL n s1) r wt st') 202) (f1 : Fr [g] w w1)
    (h2 : PkO w1.heap.size w2 bv out) (c2 : Blk w2 h (dclS n s1 r wt st') 68) (f2 : Fr [h] w1 w2) {nP : Nat} {pc : Array Value} (hP : Blk w nP pc 56) : PCut w0 b g h n s1 r wt nP pc av bv w2 := by
  obtain ⟨A1, d1, rfl⟩ := rown_slice h1
  obtain ⟨A2, d2, rfl⟩ := rown_slice h2
  have hgh := H.gh
  have d1' := f1.blk H.dc (show h ∉ [g] by simp; exact fun e => hgh e.symm)
  have hlt := H.dc.lt
  refine ⟨st', kp, out, A1, d1, A2, d2, w.heap.size, rfl, rfl, h1.fr f2 (fun q hq => ?_), rown_base h2 f1.size, hl, ⟨ok', ?_, f2.blk c1 (by simp; exact hgh), c2, ?_, H.hg, H.hh⟩, H.bk.lt, f2.blk (f1.blk hP ?_) ?_, H.fr.size⟩
  · have := own_new h1 q hq
    simp
    omega
  · have k1 := H.bk.fr f1 (fun q hq cur T hc => by
      simp at hq
      subst hq
      exact ⟨fun e => hc.neT H.cl (by rw [e]; decide) rfl, fun e => hc.neT H.cl (by rw [e]; decide) rfl, fun e => hc.neT H.cl (by rw [e]; decide) rfl, fun e => hc.neT H.cl (by rw [e]; decide) rfl, fun e => hc.neT H.cl (by rw [e]; decide) rfl⟩)
    exact k1.fr f2 (fun q hq cur T hc => by
      simp at hq
      subst hq
      exact ⟨fun e => hc.neT d1' (by rw [e]; decide) rfl, fun e => hc.neT d1' (by rw [e]; decide) rfl, fun e => hc.neT d1' (by rw [e]; decide) rfl, fun e => hc.neT d1' (by rw [e]; decide) rfl, fun e => hc.neT d1' (by rw [e]; decide) rfl⟩)
  · exact (H.fr.sub f1 (fun x hx => by simp at hx; subst hx; exact Or.inr H.hg)).sub f2 (fun x hx => by simp at hx; subst hx; exact Or.inr H.hh)
  · simp
    intro e
    subst e
    exact hP.neT H.cl (by decide) rfl
  · simp
    intro e
    subst e
    exact hP.neT H.dc (by decide) rfl
theorem PPs.sent {w' : World} {kp' : List (Bl (Int × Int × List UInt8))} (H : PPs w0 b g h n s1 r wt st kp w) (hb : BkS w0.heap.size w' b kp') (hF : FrT w0.heap.size w w') : PPs w0 b g h n s1 r wt st kp' w' :=
  ⟨H.ok, hb, hF.blk H.cl (by decide) (by decide) (by decide), hF.blk H.dc (by decide) (by decide) (by decide), hF.fr H.fr (Nat.le_refl _), H.hg, H.hh⟩
theorem pk_two {W : World} {q : Nat} {C1 C2 i : Int} {T1 T2 : List UInt8} (hB : Blk W q #[.int .i64 C1, .int .i64 i, .slice none 0 0, .string (B T1), .int .i64 C2, .int .i64 i, .slice none 0 0, .string (B T2)] 56) : RAt W (some ⟨q, 0, none⟩) 4 pkF [(C1, i, T1), (C2, i, T2)] :=
  RAt.of_own pkF_len (cap := 2) (e := 56) (base := 0) ⟨rfl, .inr ⟨q, 2, _, rfl, Nat.zero_le _, hB, Nat.le_refl 2, by unfold maxLen; omega, rfl, rfl⟩⟩
end
theorem str_ne_self (x : List UInt8) : (B x != B x) = false := by
  have : (B x == B x) = true := by
    show ((B x).data == (B x).data) = true
    rw [beq_iff_eq]
  unfold bne
  rw [this]
  rfl
def PLoop (w0 : World) (b g h : Nat) (n s1 : List UInt8) (r wt : Int) (wr : World) : Prop := ∃ st kp, PPs w0 b g h n s1 r wt st kp wr
theorem outL_le (b : Bool) (i : Int) (d : List UInt8) : (outL b i d).length ≤ 1 := by unfold outL; split <;> simp
theorem papNewE {n s : List UInt8} {r wt : Int} (h : newE n s r wt = 0) : n.length ≤ 60 ∧ s.length ≤ 60 ∧ 0 ≤ r ∧ r ≤ 10 ∧ 1 ≤ wt ∧ wt ≤ 100 := by
  unfold newE at h
  by_cases h1 : n.length ≤ 60 ∧ s.length ≤ 60
  · rw [if_pos h1] at h
    by_cases h2 : 0 ≤ r ∧ r ≤ 10 ∧ 1 ≤ wt ∧ wt ≤ 100
    · exact ⟨h1.1, h1.2, h2⟩
    · rw [if_neg h2] at h; exact absurd h (by decide)
  · rw [if_neg h1] at h; exact absurd h (by decide)
set_option maxRecDepth 100000 in
set_option maxHeartbeats 40000000 in
theorem papPlays_walk (w : World) (n : ByteArray) (hn : n.size ≤ 140737488351232) (s : ByteArray) (hs : s.size ≤ 140737488351232) (r : Int) (r0 : -9223372036854775808 ≤ r) (r1 : r ≤ 9223372036854775807) (wt : Int) (w0 : -9223372036854775808 ≤ wt) (w1 : wt ≤ 9223372036854775807) (a : Option Addr) (len cap : Nat) (l : List POp) (hR : RowsAt w a len cap 5 popL PopOk l) :
    Calls Tryz.prog 3 #[.string n, .string s, .int .i64 r, .int .i64 wt, .slice a len cap] w fun e w' => e = .returned (.bool true) ∧ Below w.heap.size w w' := by
  obtain ⟨n, rfl⟩ : ∃ l, n = B l := ⟨_, B_of n⟩
  obtain ⟨s, rfl⟩ : ∃ l, s = B l := ⟨_, B_of s⟩
  rw [B_size] at hn hs
  have AL := Lib.hid fun W => alive13 W
  have HR := Lib.hid hR
  have hlm : len ≤ maxLen := Nat.le_trans hR.2.1 hR.2.2.1
  unfold maxLen at hlm
  have SH := Lib.hid (short13 hR)
  have NB := Lib.hid fun (W : World) (h : newE n s r wt ≠ 0) => pnew_bad (w := W) n s (by omega) (by omega) h
  have DB := Lib.hid fun (W : World) (h : newE n s r wt ≠ 0) => dNew_bad (w := W) n s (by omega) (by omega) h
  clear hR
  go_enter Tryz.func3, Tryz.ntmps3
  go_wp2_with fail
  refine SH.out.mono ?_
  rintro e w2 ⟨b0, rfl, hb0, hF2⟩
  clear SH
  cases b0 with
  | false =>
    clear hb0
    go_wp2_with fail
    refine (AL.out _).mono ?_
    rintro e w3 ⟨rfl, hF3⟩
    go_wp2_with fail
    go_ret
    exact ⟨rfl, (hF2.trans hF3).below (Nat.le_refl _) (by simp)⟩
  | true =>
    obtain ⟨hl200, hsz⟩ := hb0 rfl
    have HSZ := Lib.hid hsz
    clear hb0 hsz
    by_cases h300 : (300 : Int) < (n.length : Int) + s.length
    · go_wp2_with fail
      refine (AL.out _).mono ?_
      rintro e w3 ⟨rfl, hF3⟩
      go_wp2_with fail
      go_ret
      exact ⟨rfl, (hF2.trans hF3).below (Nat.le_refl _) (by simp)⟩
    · by_cases hE : newE n s r wt = 0
      · obtain ⟨hn6, hs6, r0', r1', wt0, wt1⟩ := papNewE hE
        have NW := Lib.hid fun (W : World) => pnew_ok (w := W) n s hn6 hs6 r0' r1' wt0 wt1
        have DW := Lib.hid fun (W : World) => dNew_ok (w := W) n s hn6 hs6 r0' r1' wt0 wt1
        have HC := Lib.hid (And.intro hn6 (And.intro hs6 (And.intro r0' (And.intro r1' (And.intro wt0 wt1)))))
        clear NB DB hE hn6 hs6 r0' r1' wt0 wt1 hn hs r0 r1 w0 w1
        go_wp2_with fail
        refine (NW.out _).mono ?_
        rintro e w3 ⟨g, rfl, hg, hC, hF3⟩
        have H3 := Lib.hid (And.intro hg (And.intro hC hF3))
        clear hg hC hF3 NW
        go_wp2_with fail
        refine (DW.out _).mono ?_
        rintro e w4 ⟨h, rfl, hh, hD, hF4⟩
        have HPP : Hid (PLoop w w4.heap.size g h n s r wt (w4.alloc (.cells #[.slice none 0 0, .slice none 0 0, .slice none 0 0, .slice none 0 0, .slice none 0 0, .slice none 0 0, .slice none 0 0, .slice none 0 0, .slice none 0 0, .slice none 0 0, .slice none 0 0, .slice none 0 0, .slice none 0 0, .slice none 0 0, .slice none 0 0, .slice none 0 0, .slice none 0 0, .slice none 0 0, .slice none 0 0, .slice none 0 0, .slice none 0 0, .slice none 0 0, .slice none 0 0, .slice none 0 0, .slice none 0 0, .slice none 0 0, .slice none 0 0, .slice none 0 0, .slice none 0 0, .slice none 0 0, .slice none 0 0, .slice none 0 0, .slice none 0 0, .slice none 0 0, .slice none 0 0, .slice none 0 0] 52 (0, 0)))) := Lib.hid (by
          obtain ⟨hg, hC, hF3⟩ := H3.out
          have z2 := hF2.size
          have z3 := hF3.size
          have z4 := hF4.size
          have hF : Fr [] w w4 := (hF2.trans hF3).trans hF4
          have hB := BkS.new w4
          obtain ⟨⟨Fb, ko, h1, h2, h3, h4, h5, h6⟩, h7, h8⟩ := hB
          have hC4 := hF4.blk hC (by simp)
          refine ⟨⟨0, 0, 0, false, false, false⟩, [], ⟨by decide, by decide, by decide, by decide, by decide, by decide, (fun h => by cases h), (fun h => by cases h)⟩, ⟨⟨Fb, ko, h1, h2, h3, h4, h5, fun q hq => ?_⟩, by omega, by simp⟩, hC4.alloc _, hD.alloc _, hF.alloc _, by omega, by omega⟩
          exact Nat.le_trans (by omega) (h6 q hq))
        clear hh hD hF4 DW H3 hF2
        go_wp2_with (refine wpList_build1 rfl 52 #[] rfl #[.slice none 0 0, .slice none 0 0, .slice none 0 0, .slice none 0 0, .slice none 0 0, .slice none 0 0, .slice none 0 0, .slice none 0 0, .slice none 0 0, .slice none 0 0, .slice none 0 0, .slice none 0 0, .slice none 0 0, .slice none 0 0, .slice none 0 0, .slice none 0 0, .slice none 0 0, .slice none 0 0, .slice none 0 0, .slice none 0 0, .slice none 0 0, .slice none 0 0, .slice none 0 0, .slice none 0 0, .slice none 0 0, .slice none 0 0, .slice none 0 0, .slice none 0 0, .slice none 0 0, .slice none 0 0, .slice none 0 0, .slice none 0 0, .slice none 0 0, .slice none 0 0, .slice none 0 0, .slice none 0 0] (fun W => by kernel_rfl) ?_)
        go_loopw [16] (fun iv wr => ∃ j : Nat, j ≤ len ∧ iv = .int .i64 j ∧ PLoop w w4.heap.size g h n s r wt wr) (fun iv _ => len - (intOf iv).toNat)
        case atStart => exact ⟨0, Nat.zero_le _, rfl, HPP.out⟩
        case round =>
          clear HPP
          obtain ⟨j, hj, rfl, st, kp, hPP⟩ := hrel
          have HPP := Lib.hid hPP
          clear hPP
          by_cases hjl : j < len
          · obtain ⟨bb, off, ⟨kd, c, i, A, m, cp, D⟩, rfl, hbb, hx, hV, hcell⟩ := HR.out.at_ j hjl
            have hl := hcell wr HPP.out.fr
            have hl2 := hcell _ (HPP.out.fr.alloc (.cells #[.int .i64 c, .int .i64 i, .slice A m cp, .string (B D)] 56 (0, 0)))
            have hD1 : D.length ≤ 1000 := HSZ.out j _ hx
            have HD := Lib.hid hD1
            obtain ⟨y1, y2, y3, y4⟩ : wr.cell? ⟨bb, off + j * 5 + 1, none⟩ = some (.int .i64 c) ∧ wr.cell? ⟨bb, off + j * 5 + 2, none⟩ = some (.int .i64 i) ∧ wr.cell? ⟨bb, off + j * 5 + 3, none⟩ = some (.slice A m cp) ∧ wr.cell? ⟨bb, off + j * 5 + 4, none⟩ = some (.string (B D)) := ⟨hl 1 _ rfl, hl 2 _ rfl, hl 3 _ rfl, hl 4 _ rfl⟩
            have hNO := Blk.new wr #[.int .i64 c, .int .i64 i, .slice A m cp, .string (B D)] 56
            have hFO := (Fr.refl [] wr).alloc (.cells #[.int .i64 c, .int .i64 i, .slice A m cp, .string (B D)] 56 (0, 0))
            have y0 := hl2 0 _ rfl
            obtain ⟨nP, hnP⟩ : ∃ n, wr.heap.size = n := ⟨_, rfl⟩
            obtain ⟨W3, hW3⟩ : ∃ V, wr.alloc (.cells #[.int .i64 c, .int .i64 i, .slice A m cp, .string (B D)] 56 (0, 0)) = V := ⟨_, rfl⟩
            rw [hnP] at hNO
            rw [hW3] at hNO hFO y0
            simp only [Nat.add_zero] at y0
            have z0 := hNO.c 0 _ rfl
            have z1 := hNO.c 1 _ rfl
            have z2 := hNO.c 2 _ rfl
            have z3 := hNO.c 3 _ rfl
            (try simp only at z0 z1 z2 z3)
            have HNO := Lib.hid hNO
            have HP3 := Lib.hid (HPP.out.fr0 hFO)
            clear hcell hx hbb hl hl2 hV hNO hFO HPP hD1
            go_upto_block 2 with fail
            clear hnP hW3
            go_cut [17, 18] (fun av bv wx => PCut w w4.heap.size g h n s r wt nP #[.int .i64 c, .int .i64 i, .slice A m cp, .string (B D)] av bv wx)
            case first =>
              clear y1 y2 y3 y4
              by_cases hk1 : kd = 1
              · have hd1 : (kd == 1) = true := by simpa using hk1
                have U1 := Lib.hid (uStart HP3.out.ok HC.out.2.2.2.2.1 HP3.out.cl)
                have U2 := Lib.hid fun (W : World) (hB : Blk W h (dclS n s r wt st) 68) => dStart HC.out.1 HC.out.2.1 HP3.out.ok hB
                clear hk1 y0 z0 z1 z2 z3
                go_wp2_with fail
                refine U1.out.mono ?_
                rintro e w5 ⟨v5, rfl, hO1, hC1, hG1⟩
                have U3 := Lib.hid (U2.out w5 (hG1.blk HP3.out.dc (by simp; exact fun e => HP3.out.gh e.symm)))
                have HG := Lib.hid (And.intro hO1 (And.intro hC1 hG1))
                clear hO1 hC1 hG1 U1 U2
                go_wp2_with fail
                refine U3.out.mono ?_
                rintro e w6 ⟨v6, rfl, hO2, hC2, hG2⟩
                have HE := Lib.hid (HP3.out.step (HP3.out.ok.start HC.out.2.2.2.2.1) (out := [(1, st.start.id, reqL n s)]) (Nat.le_refl 1) HG.out.1 HG.out.2.1 HG.out.2.2 hO2 hC2 hG2 HNO.out)
                clear hO2 hC2 hG2 HG U3
                go_wp2_with fail
                go_meet
                exact HE.out
              · have hd1 : (kd == 1) = false := by simpa using hk1
                by_cases hk2 : kd = 2
                · have hd2 : (kd == 2) = true := by simpa using hk2
                  have U1 := Lib.hid (uTick HP3.out.ok HC.out.2.2.2.2.1 HP3.out.cl)
                  have U2 := Lib.hid fun (W : World) (hB : Blk W h (dclS n s r wt st) 68) => dTick HC.out.1 HC.out.2.1 HP3.out.ok hB
                  clear hk1 hk2 y0 z0 z1 z2 z3
                  go_wp2_with fail
                  refine U1.out.mono ?_
                  rintro e w5 ⟨v5, rfl, hO1, hC1, hG1⟩
                  have U3 := Lib.hid (U2.out w5 (hG1.blk HP3.out.dc (by simp; exact fun e => HP3.out.gh e.symm)))
                  have HG := Lib.hid (And.intro hO1 (And.intro hC1 hG1))
                  clear hO1 hC1 hG1 U1 U2
                  go_wp2_with fail
                  refine U3.out.mono ?_
                  rintro e w6 ⟨v6, rfl, hO2, hC2, hG2⟩
                  have HE := Lib.hid (HP3.out.step (HP3.out.ok.tick HC.out.2.2.2.2.1 HC.out.2.2.2.2.2 HC.out.2.2.2.1) (outL_le _ _ _) HG.out.1 HG.out.2.1 HG.out.2.2 hO2 hC2 hG2 HNO.out)
                  clear hO2 hC2 hG2 HG U3
                  go_wp2_with fail
                  go_meet
                  exact HE.out
                · have hd2 : (kd == 2) = false := by simpa using hk2
                  have U1 := Lib.hid (uTake HP3.out.ok HC.out.2.2.2.2.1 c i A m cp D HP3.out.cl)
                  have U2 := Lib.hid fun (W : World) (hB : Blk W h (dclS n s r wt st) 68) => dTake HP3.out.ok c i A m cp D hB
                  clear hk1 hk2
                  go_wp2_with fail
                  refine U1.out.mono ?_
                  rintro e w5 ⟨rfl, hC1, hG1⟩
                  have U3 := Lib.hid (U2.out w5 (hG1.blk HP3.out.dc (by simp; exact fun e => HP3.out.gh e.symm)))
                  have hN5 := hG1.blk HNO.out (by simp; intro e; subst e; exact HNO.out.neT HP3.out.cl (by decide) rfl)
                  clear z0 z1 z2 z3 y0
                  have z0 := hN5.c 0 _ rfl
                  have z1 := hN5.c 1 _ rfl
                  have z2 := hN5.c 2 _ rfl
                  have z3 := hN5.c 3 _ rfl
                  (try simp only at z0 z1 z2 z3)
                  have HG := Lib.hid (And.intro hC1 hG1)
                  clear hC1 hG1 U1 U2 hN5
                  go_wp2_with fail
                  refine U3.out.mono ?_
                  rintro e w6 ⟨rfl, hC2, hG2⟩
                  have HE := Lib.hid (HP3.out.step (HP3.out.ok.take c i) (out := []) (Nat.zero_le 1) (PkO.nil _ _) HG.out.1 HG.out.2 (PkO.nil _ _) hC2 hG2 HNO.out)
                  clear hC2 hG2 HG U3 z0 z1 z2 z3
                  go_wp2_with fail
                  go_meet
                  exact HE.out
            case rest =>
              clear HP3 HNO z0 z1 z2 z3 y0 y1 y2 y3 y4
              obtain ⟨st, kp, out, A1, c1, A2, c2, base, rfl, rfl, hO1, hO2, hol, hP, hlt, hN, hb0⟩ := hcut
              have SN := Lib.hid (hP.bk.sent hP.fr.size A1 c1 out (rown_base hO1 (Nat.zero_le _)) (by omega) (fun u hu q hq e => by have := hlt u hu q hq; have := own_new hO1 q e; omega) (fun q hq => Nat.le_trans hb0 (own_new hO1 q hq)))
              have HP := Lib.hid hP
              have HO := Lib.hid (And.intro hO1 (And.intro hO2 (And.intro hol hN)))
              clear hO1 hO2 hol hP hlt hN hb0
              go_wp2_with fail
              refine SN.out.mono ?_
              rintro e w5 ⟨rfl, ⟨kp', hK5, _⟩, hT5⟩
              have HP5 := Lib.hid (HP.out.sent hK5 hT5)
              have HO5 := Lib.hid (And.intro (hT5.row HO.out.1 (by decide) (by decide) (by decide)) (And.intro (hT5.row HO.out.2.1 (by decide) (by decide) (by decide)) (hT5.blk HO.out.2.2.2 (by decide) (by decide) (by decide))))
              have HOL := Lib.hid HO.out.2.2.1
              clear hK5 hT5 HP HO SN
              obtain ⟨id, t, a, x, y, z⟩ := st
              have DN := Lib.hid (pdone_any (by have := HC.out.2.2.2.2.1; rw [beq_eq_false_iff_ne]; omega) HP5.out.cl)
              go_wp2_with fail
              refine DN.out.mono ?_
              rintro e w6 ⟨rfl, hF6⟩
              have HF6 := Lib.hid hF6
              have hN6 := hF6.blk HO5.out.2.2 (by simp)
              have z0 := hN6.c 0 _ rfl
              have z1 := hN6.c 1 _ rfl
              have z2 := hN6.c 2 _ rfl
              have z3 := hN6.c 3 _ rfl
              (try simp only at z0 z1 z2 z3)
              have SV := Lib.hid fun (W : World) => uServe (w := W) c i A m cp D (by have := HD.out; omega)
              have DS := Lib.hid fun (W : World) => dServe (w := W) c i A m cp D (by have := HD.out; omega)
              obtain ⟨sn, hsn⟩ : ∃ X, srvN c m D = X := ⟨_, rfl⟩
              obtain ⟨ss, hss⟩ : ∃ X, srvS c m D = X := ⟨_, rfl⟩
              obtain ⟨sb, hsb⟩ : ∃ X, srvB c m D = X := ⟨_, rfl⟩
              rw [hsn, hss, hsb] at SV DS
              clear hF6 hN6 DN hsn hss hsb
              go_wp2_with fail
              refine (SV.out _).mono ?_
              rintro e w7 ⟨rfl, hF7⟩
              have HF7 := Lib.hid (HF6.out.trans hF7)
              have hN7 := HF7.out.blk HO5.out.2.2 (by simp)
              clear z0 z1 z2 z3 hF7 SV HF6
              have z0 := hN7.c 0 _ rfl
              have z1 := hN7.c 1 _ rfl
              have z2 := hN7.c 2 _ rfl
              have z3 := hN7.c 3 _ rfl
              (try simp only at z0 z1 z2 z3)
              clear hN7
              go_wp2_with fail
              refine (DS.out _).mono ?_
              rintro e W7 ⟨rfl, hF8⟩
              clear z0 z1 z2 z3
              have HF8 := Lib.hid (HF7.out.trans hF8)
              have HP7 := Lib.hid (HP5.out.fr0 HF8.out)
              have SA := Lib.hid fun (W : World) (hW : Fr [] W7 W) => pk_same (w := W) out A1 A2 c1 c2 ((RAt.of_own pkF_len (rown_base (rown_frS HO5.out.1 (HF8.out.trans hW) (fun _ _ => List.not_mem_nil)) (Nat.zero_le _)))) ((RAt.of_own pkF_len (rown_base (rown_frS HO5.out.2.1 (HF8.out.trans hW) (fun _ _ => List.not_mem_nil)) (Nat.zero_le _)))) (by have := HOL.out; omega)
              obtain ⟨C1, hC1⟩ : ∃ X : Int, (if z then 2 else 3) = X := ⟨_, rfl⟩
              obtain ⟨C2, hC2⟩ : ∃ X : Int, (if !z then 2 else 3) = X := ⟨_, rfl⟩
              obtain ⟨T1, hT1⟩ : ∃ X : List UInt8, (if z then [2, 111, 107] else [2, 110, 111]) = X := ⟨_, rfl⟩
              obtain ⟨T2, hT2⟩ : ∃ X : List UInt8, (if !z then [2, 111, 107] else [2, 110, 111]) = X := ⟨_, rfl⟩
              have AN1 : Hid (∀ W : World, Calls Tryz.prog 24 #[.agg #[.int .i64 c, .int .i64 i, .slice A m cp, .string (B D)], .bool z] W fun e w' => e = .returned (.agg #[.int .i64 C1, .int .i64 i, .slice none 0 0, .string (B T1)]) ∧ Fr [] W w') := Lib.hid fun W => by
                have := answer_any (w := W) c i A m cp D z
                rw [hC1, hT1] at this
                exact this
              have AN2 : Hid (∀ W : World, Calls Tryz.prog 24 #[.agg #[.int .i64 c, .int .i64 i, .slice A m cp, .string (B D)], .bool (!z)] W fun e w' => e = .returned (.agg #[.int .i64 C2, .int .i64 i, .slice none 0 0, .string (B T2)]) ∧ Fr [] W w') := Lib.hid fun W => by
                have := answer_any (w := W) c i A m cp D (!z)
                rw [hC2, hT2] at this
                exact this
              have DN1 : Hid (∀ W : World, Calls Tryz.prog 25 #[.agg #[.int .i64 c, .int .i64 i, .slice A m cp, .string (B D)], .bool z] W fun e w' => e = .returned (.agg #[.int .i64 C1, .int .i64 i, .slice none 0 0, .string (B T1)]) ∧ Fr [] W w') := Lib.hid fun W => by
                have := dAnswer (w := W) c i A m cp D z
                rw [hC1, hT1] at this
                exact this
              have DN2 : Hid (∀ W : World, Calls Tryz.prog 25 #[.agg #[.int .i64 c, .int .i64 i, .slice A m cp, .string (B D)], .bool (!z)] W fun e w' => e = .returned (.agg #[.int .i64 C2, .int .i64 i, .slice none 0 0, .string (B T2)]) ∧ Fr [] W w') := Lib.hid fun W => by
                have := dAnswer (w := W) c i A m cp D (!z)
                rw [hC2, hT2] at this
                exact this
              have HX : Hid (∀ W, Fr [] W7 W → (fun W => (W.cell? ⟨h, 8, none⟩ = some (.bool y) ∧ W.cell? ⟨h, 9, none⟩ = some (.bool z) ∧ W.cell? ⟨nP, 0, none⟩ = some (.int .i64 c) ∧ W.cell? ⟨nP, 1, none⟩ = some (.int .i64 i) ∧ W.cell? ⟨nP, 2, none⟩ = some (.slice A m cp) ∧ W.cell? ⟨nP, 3, none⟩ = some (.string (B D))) ∧ Fr [] W7 W) W) := Lib.hid fun W hW => by
                have k1 := hW.blk HP7.out.dc (by simp)
                have k2 := (HF8.out.trans hW).blk HO5.out.2.2 (by simp)
                exact ⟨⟨k1.c 8 _ rfl, k1.c 9 _ rfl, k2.c 0 _ rfl, k2.c 1 _ rfl, k2.c 2 _ rfl, k2.c 3 _ rfl⟩, hW⟩
              have hyy : (y != y) = false := by simp
              have hzz : (z != z) = false := by simp
              have hq1 : (B sn != B sn) = false := str_ne_self sn
              have hq2 : (B ss != B ss) = false := str_ne_self ss
              have hq3 : (sb != sb) = false := by simp
              clear hC1 hC2 hT1 hT2 hF8 HP5 HO5 HOL HF7 HF8 DS
              go_wp2_with fail
              refine wp_region_held_drew (S := (fun W => (W.cell? ⟨h, 8, none⟩ = some (.bool y) ∧ W.cell? ⟨h, 9, none⟩ = some (.bool z) ∧ W.cell? ⟨nP, 0, none⟩ = some (.int .i64 c) ∧ W.cell? ⟨nP, 1, none⟩ = some (.int .i64 i) ∧ W.cell? ⟨nP, 2, none⟩ = some (.slice A m cp) ∧ W.cell? ⟨nP, 3, none⟩ = some (.string (B D))) ∧ Fr [] W7 W)) (by kernel_rfl) ?_ (fun hHeld => ?_)
              · (try dsimp only); exact HX.out _ (Fr.refl [] W7).drew
              have hZ := (Fr.refl [] W7).drew
              obtain ⟨v0, hv⟩ : ∃ X, W7.drew = X := ⟨_, rfl⟩
              rw [hv] at hHeld hZ ⊢
              clear hv
              refine take_yes 0 125 rfl rfl (by kernel_rfl) (by kernel_rfl) (by kernel_rfl) (fun _ _ _ h => h) (by rfl) (by assumption) (v := ?_) ?_ ?_
              rotate_left
              · intro w hSw; (try dsimp only at hSw); go_simp; (try with_reducible rfl)
              try simp only [Act.put, List.setIfInBounds_toArray, List.set_cons_zero, List.set_cons_succ]
              refine take_yes 1 126 rfl rfl (by kernel_rfl) (by kernel_rfl) (by kernel_rfl) (fun _ _ _ h => h) (by rfl) (by assumption) (v := ?_) ?_ ?_
              rotate_left
              · intro w hSw; (try dsimp only at hSw); go_simp; (try with_reducible rfl)
              try simp only [Act.put, List.setIfInBounds_toArray, List.set_cons_zero, List.set_cons_succ]
              refine wpAnyH_ready (rs := [2]) (by kernel_rfl) (by simp) ?_
              refine AllReadyH.cons (o := _) rfl (fun K hK => ?_) AllReadyH.nil
              go_simp
              refine (SA.out _ hZ).mono ?_
              rintro e v1 ⟨rfl, hFx⟩
              (try go_wp2_with fail)
              replace hZ := hZ.trans hFx
              clear hFx
              refine hK.out _ _ ?_ (fun hHeld0 => ?_)
              · (try dsimp only); exact HX.out _ hZ
              clear hK K
              try simp only [Act.put, List.setIfInBounds_toArray, List.set_cons_zero, List.set_cons_succ]
              refine take_yes 3 128 rfl rfl (by kernel_rfl) (by kernel_rfl) (by kernel_rfl) (fun _ _ _ h => h) (by rfl) (by assumption) (v := ?_) ?_ ?_
              rotate_left
              · intro w hSw; (try dsimp only at hSw); go_simp; (try with_reducible rfl)
              try simp only [Act.put, List.setIfInBounds_toArray, List.set_cons_zero, List.set_cons_succ]
              refine take_yes 4 129 rfl rfl (by kernel_rfl) (by kernel_rfl) (by kernel_rfl) (fun _ _ _ h => h) (by rfl) (by assumption) (v := ?_) ?_ ?_
              rotate_left
              · intro w hSw; (try dsimp only at hSw); go_simp; (try with_reducible rfl)
              try simp only [Act.put, List.setIfInBounds_toArray, List.set_cons_zero, List.set_cons_succ]
              refine take_yes 5 130 rfl rfl (by kernel_rfl) (by kernel_rfl) (by kernel_rfl) (fun _ _ _ h => h) (by rfl) (by assumption) (v := ?_) ?_ ?_
              rotate_left
              · intro w hSw; (try dsimp only at hSw); go_simp; (try with_reducible rfl)
              try simp only [Act.put, List.setIfInBounds_toArray, List.set_cons_zero, List.set_cons_succ]
              refine take_yes 6 131 rfl rfl (by kernel_rfl) (by kernel_rfl) (by kernel_rfl) (fun _ _ _ h => h) (by rfl) (by assumption) (v := ?_) ?_ ?_
              rotate_left
              · intro w hSw; (try dsimp only at hSw); go_simp; (try with_reducible rfl)
              try simp only [Act.put, List.setIfInBounds_toArray, List.set_cons_zero, List.set_cons_succ]
              refine take_yes 7 132 rfl rfl (by kernel_rfl) (by kernel_rfl) (by kernel_rfl) (fun _ _ _ h => h) (by rfl) (by assumption) (v := ?_) ?_ ?_
              rotate_left
              · intro w hSw; (try dsimp only at hSw); go_simp; (try with_reducible rfl)
              try simp only [Act.put, List.setIfInBounds_toArray, List.set_cons_zero, List.set_cons_succ]
              refine take_yes 8 133 rfl rfl (by kernel_rfl) (by kernel_rfl) (by kernel_rfl) (fun _ _ _ h => h) (by rfl) (by assumption) (v := ?_) ?_ ?_
              rotate_left
              · intro w hSw; (try dsimp only at hSw); go_simp; (try with_reducible rfl)
              try simp only [Act.put, List.setIfInBounds_toArray, List.set_cons_zero, List.set_cons_succ]
              refine take_yes 9 134 rfl rfl (by kernel_rfl) (by kernel_rfl) (by kernel_rfl) (fun _ _ _ h => h) (by rfl) (by assumption) (v := ?_) ?_ ?_
              rotate_left
              · intro w hSw; (try dsimp only at hSw); go_simp; (try with_reducible rfl)
              try simp only [Act.put, List.setIfInBounds_toArray, List.set_cons_zero, List.set_cons_succ]
              refine take_yes 10 135 rfl rfl (by kernel_rfl) (by kernel_rfl) (by kernel_rfl) (fun _ _ _ h => h) (by rfl) (by assumption) (v := ?_) ?_ ?_
              rotate_left
              · intro w hSw; (try dsimp only at hSw); go_simp; (try with_reducible rfl)
              try simp only [Act.put, List.setIfInBounds_toArray, List.set_cons_zero, List.set_cons_succ]
              refine take_yes 11 136 rfl rfl (by kernel_rfl) (by kernel_rfl) (by kernel_rfl) (fun _ _ _ h => h) (by rfl) (by assumption) (v := ?_) ?_ ?_
              rotate_left
              · intro w hSw; (try dsimp only at hSw); go_simp; (try with_reducible rfl)
              try simp only [Act.put, List.setIfInBounds_toArray, List.set_cons_zero, List.set_cons_succ]
              refine take_yes 12 137 rfl rfl (by kernel_rfl) (by kernel_rfl) (by kernel_rfl) (fun _ _ _ h => h) (by rfl) (by assumption) (v := ?_) ?_ ?_
              rotate_left
              · intro w hSw; (try dsimp only at hSw); go_simp; (try with_reducible rfl)
              try simp only [Act.put, List.setIfInBounds_toArray, List.set_cons_zero, List.set_cons_succ]
              refine take_yes 13 138 rfl rfl (by kernel_rfl) (by kernel_rfl) (by kernel_rfl) (fun _ _ _ h => h) (by rfl) (by assumption) (v := ?_) ?_ ?_
              rotate_left
              · intro w hSw; (try dsimp only at hSw); go_simp; (try with_reducible rfl)
              try simp only [Act.put, List.setIfInBounds_toArray, List.set_cons_zero, List.set_cons_succ]
              refine take_yes 14 139 rfl rfl (by kernel_rfl) (by kernel_rfl) (by kernel_rfl) (fun _ _ _ h => h) (by rfl) (by assumption) (v := ?_) ?_ ?_
              rotate_left
              · intro w hSw; (try dsimp only at hSw); go_simp; (try with_reducible rfl)
              try simp only [Act.put, List.setIfInBounds_toArray, List.set_cons_zero, List.set_cons_succ]
              refine take_yes 15 140 rfl rfl (by kernel_rfl) (by kernel_rfl) (by kernel_rfl) (fun _ _ _ h => h) (by rfl) (by assumption) (v := ?_) ?_ ?_
              rotate_left
              · intro w hSw; (try dsimp only at hSw); go_simp; (try with_reducible rfl)
              try simp only [Act.put, List.setIfInBounds_toArray, List.set_cons_zero, List.set_cons_succ]
              refine take_yes 16 141 rfl rfl (by kernel_rfl) (by kernel_rfl) (by kernel_rfl) (fun _ _ _ h => h) (by rfl) (by assumption) (v := ?_) ?_ ?_
              rotate_left
              · intro w hSw; (try dsimp only at hSw); go_simp; (try with_reducible rfl)
              try simp only [Act.put, List.setIfInBounds_toArray, List.set_cons_zero, List.set_cons_succ]
              refine take_yes 17 142 rfl rfl (by kernel_rfl) (by kernel_rfl) (by kernel_rfl) (fun _ _ _ h => h) (by rfl) (by assumption) (v := ?_) ?_ ?_
              rotate_left
              · intro w hSw; (try dsimp only at hSw); go_simp; (try with_reducible rfl)
              try simp only [Act.put, List.setIfInBounds_toArray, List.set_cons_zero, List.set_cons_succ]
              refine take_yes 18 143 rfl rfl (by kernel_rfl) (by kernel_rfl) (by kernel_rfl) (fun _ _ _ h => h) (by rfl) (by assumption) (v := ?_) ?_ ?_
              rotate_left
              · intro w hSw; (try dsimp only at hSw); go_simp; (try with_reducible rfl)
              try simp only [Act.put, List.setIfInBounds_toArray, List.set_cons_zero, List.set_cons_succ]
              refine take_yes 19 144 rfl rfl (by kernel_rfl) (by kernel_rfl) (by kernel_rfl) (fun _ _ _ h => h) (by rfl) (by assumption) (v := ?_) ?_ ?_
              rotate_left
              · intro w hSw; (try dsimp only at hSw); go_simp; (try with_reducible rfl)
              try simp only [Act.put, List.setIfInBounds_toArray, List.set_cons_zero, List.set_cons_succ]
              refine take_yes 20 145 rfl rfl (by kernel_rfl) (by kernel_rfl) (by kernel_rfl) (fun _ _ _ h => h) (by rfl) (by assumption) (v := ?_) ?_ ?_
              rotate_left
              · intro w hSw; (try dsimp only at hSw); go_simp; (try with_reducible rfl)
              try simp only [Act.put, List.setIfInBounds_toArray, List.set_cons_zero, List.set_cons_succ]
              refine take_yes 21 146 rfl rfl (by kernel_rfl) (by kernel_rfl) (by kernel_rfl) (fun _ _ _ h => h) (by rfl) (by assumption) (v := ?_) ?_ ?_
              rotate_left
              · intro w hSw; (try dsimp only at hSw); go_simp; (try with_reducible rfl)
              try simp only [Act.put, List.setIfInBounds_toArray, List.set_cons_zero, List.set_cons_succ]
              refine take_yes 22 147 rfl rfl (by kernel_rfl) (by kernel_rfl) (by kernel_rfl) (fun _ _ _ h => h) (by rfl) (by assumption) (v := ?_) ?_ ?_
              rotate_left
              · intro w hSw; (try dsimp only at hSw); go_simp; (try with_reducible rfl)
              try simp only [Act.put, List.setIfInBounds_toArray, List.set_cons_zero, List.set_cons_succ]
              refine take_yes 23 148 rfl rfl (by kernel_rfl) (by kernel_rfl) (by kernel_rfl) (fun _ _ _ h => h) (by rfl) (by assumption) (v := ?_) ?_ ?_
              rotate_left
              · intro w hSw; (try dsimp only at hSw); go_simp; (try with_reducible rfl)
              try simp only [Act.put, List.setIfInBounds_toArray, List.set_cons_zero, List.set_cons_succ]
              refine take_yes 24 149 rfl rfl (by kernel_rfl) (by kernel_rfl) (by kernel_rfl) (fun _ _ _ h => h) (by rfl) (by assumption) (v := ?_) ?_ ?_
              rotate_left
              · intro w hSw; (try dsimp only at hSw); go_simp; (try with_reducible rfl)
              try simp only [Act.put, List.setIfInBounds_toArray, List.set_cons_zero, List.set_cons_succ]
              refine take_yes 25 150 rfl rfl (by kernel_rfl) (by kernel_rfl) (by kernel_rfl) (fun _ _ _ h => h) (by rfl) (by assumption) (v := ?_) ?_ ?_
              rotate_left
              · intro w hSw; (try dsimp only at hSw); go_simp; (try with_reducible rfl)
              try simp only [Act.put, List.setIfInBounds_toArray, List.set_cons_zero, List.set_cons_succ]
              refine take_yes 26 151 rfl rfl (by kernel_rfl) (by kernel_rfl) (by kernel_rfl) (fun _ _ _ h => h) (by rfl) (by assumption) (v := ?_) ?_ ?_
              rotate_left
              · intro w hSw; (try dsimp only at hSw); go_simp; (try with_reducible rfl)
              try simp only [Act.put, List.setIfInBounds_toArray, List.set_cons_zero, List.set_cons_succ]
              refine take_yes 27 152 rfl rfl (by kernel_rfl) (by kernel_rfl) (by kernel_rfl) (fun _ _ _ h => h) (by rfl) (by assumption) (v := ?_) ?_ ?_
              rotate_left
              · intro w hSw; (try dsimp only at hSw); go_simp; (try with_reducible rfl)
              try simp only [Act.put, List.setIfInBounds_toArray, List.set_cons_zero, List.set_cons_succ]
              refine take_yes 28 153 rfl rfl (by kernel_rfl) (by kernel_rfl) (by kernel_rfl) (fun _ _ _ h => h) (by rfl) (by assumption) (v := ?_) ?_ ?_
              rotate_left
              · intro w hSw; (try dsimp only at hSw); go_simp; (try with_reducible rfl)
              try simp only [Act.put, List.setIfInBounds_toArray, List.set_cons_zero, List.set_cons_succ]
              refine take_yes 29 154 rfl rfl (by kernel_rfl) (by kernel_rfl) (by kernel_rfl) (fun _ _ _ h => h) (by rfl) (by assumption) (v := ?_) ?_ ?_
              rotate_left
              · intro w hSw; (try dsimp only at hSw); go_simp; (try with_reducible rfl)
              try simp only [Act.put, List.setIfInBounds_toArray, List.set_cons_zero, List.set_cons_succ]
              refine take_yes 30 155 rfl rfl (by kernel_rfl) (by kernel_rfl) (by kernel_rfl) (fun _ _ _ h => h) (by rfl) (by assumption) (v := ?_) ?_ ?_
              rotate_left
              · intro w hSw; (try dsimp only at hSw); go_simp; (try with_reducible rfl)
              try simp only [Act.put, List.setIfInBounds_toArray, List.set_cons_zero, List.set_cons_succ]
              refine take_yes 31 156 rfl rfl (by kernel_rfl) (by kernel_rfl) (by kernel_rfl) (fun _ _ _ h => h) (by rfl) (by assumption) (v := ?_) ?_ ?_
              rotate_left
              · intro w hSw; (try dsimp only at hSw); go_simp; (try with_reducible rfl)
              try simp only [Act.put, List.setIfInBounds_toArray, List.set_cons_zero, List.set_cons_succ]
              refine take_yes 32 157 rfl rfl (by kernel_rfl) (by kernel_rfl) (by kernel_rfl) (fun _ _ _ h => h) (by rfl) (by assumption) (v := ?_) ?_ ?_
              rotate_left
              · intro w hSw; (try dsimp only at hSw); go_simp; (try with_reducible rfl)
              try simp only [Act.put, List.setIfInBounds_toArray, List.set_cons_zero, List.set_cons_succ]
              refine take_yes 33 158 rfl rfl (by kernel_rfl) (by kernel_rfl) (by kernel_rfl) (fun _ _ _ h => h) (by rfl) (by assumption) (v := ?_) ?_ ?_
              rotate_left
              · intro w hSw; (try dsimp only at hSw); go_simp; (try with_reducible rfl)
              try simp only [Act.put, List.setIfInBounds_toArray, List.set_cons_zero, List.set_cons_succ]
              refine take_yes 34 159 rfl rfl (by kernel_rfl) (by kernel_rfl) (by kernel_rfl) (fun _ _ _ h => h) (by rfl) (by assumption) (v := ?_) ?_ ?_
              rotate_left
              · intro w hSw; (try dsimp only at hSw); go_simp; (try with_reducible rfl)
              try simp only [Act.put, List.setIfInBounds_toArray, List.set_cons_zero, List.set_cons_succ]
              refine take_yes 35 160 rfl rfl (by kernel_rfl) (by kernel_rfl) (by kernel_rfl) (fun _ _ _ h => h) (by rfl) (by assumption) (v := ?_) ?_ ?_
              rotate_left
              · intro w hSw; (try dsimp only at hSw); go_simp; (try with_reducible rfl)
              try simp only [Act.put, List.setIfInBounds_toArray, List.set_cons_zero, List.set_cons_succ]
              refine take_yes 36 161 rfl rfl (by kernel_rfl) (by kernel_rfl) (by kernel_rfl) (fun _ _ _ h => h) (by rfl) (by assumption) (v := ?_) ?_ ?_
              rotate_left
              · intro w hSw; (try dsimp only at hSw); go_simp; (try with_reducible rfl)
              try simp only [Act.put, List.setIfInBounds_toArray, List.set_cons_zero, List.set_cons_succ]
              refine take_yes 37 162 rfl rfl (by kernel_rfl) (by kernel_rfl) (by kernel_rfl) (fun _ _ _ h => h) (by rfl) (by assumption) (v := ?_) ?_ ?_
              rotate_left
              · intro w hSw; (try dsimp only at hSw); go_simp; (try with_reducible rfl)
              try simp only [Act.put, List.setIfInBounds_toArray, List.set_cons_zero, List.set_cons_succ]
              refine take_yes 39 164 rfl rfl (by kernel_rfl) (by kernel_rfl) (by kernel_rfl) (fun _ _ _ h => h) (by rfl) (by assumption) (v := ?_) ?_ ?_
              rotate_left
              · intro w hSw; (try dsimp only at hSw); go_simp; (try with_reducible rfl)
              try simp only [Act.put, List.setIfInBounds_toArray, List.set_cons_zero, List.set_cons_succ]
              refine take_yes 40 165 rfl rfl (by kernel_rfl) (by kernel_rfl) (by kernel_rfl) (fun _ _ _ h => h) (by rfl) (by assumption) (v := ?_) ?_ ?_
              rotate_left
              · intro w hSw; (try dsimp only at hSw); go_simp; (try with_reducible rfl)
              try simp only [Act.put, List.setIfInBounds_toArray, List.set_cons_zero, List.set_cons_succ]
              refine take_yes 41 166 rfl rfl (by kernel_rfl) (by kernel_rfl) (by kernel_rfl) (fun _ _ _ h => h) (by rfl) (by assumption) (v := ?_) ?_ ?_
              rotate_left
              · intro w hSw; (try dsimp only at hSw); go_simp; (try with_reducible rfl)
              try simp only [Act.put, List.setIfInBounds_toArray, List.set_cons_zero, List.set_cons_succ]
              refine take_yes 44 169 rfl rfl (by kernel_rfl) (by kernel_rfl) (by kernel_rfl) (fun _ _ _ h => h) (by rfl) (by assumption) (v := ?_) ?_ ?_
              rotate_left
              · intro w hSw; (try dsimp only at hSw); go_simp; (try with_reducible rfl)
              try simp only [Act.put, List.setIfInBounds_toArray, List.set_cons_zero, List.set_cons_succ]
              refine take_yes 45 170 rfl rfl (by kernel_rfl) (by kernel_rfl) (by kernel_rfl) (fun _ _ _ h => h) (by rfl) (by assumption) (v := ?_) ?_ ?_
              rotate_left
              · intro w hSw; (try dsimp only at hSw); go_simp; (try with_reducible rfl)
              try simp only [Act.put, List.setIfInBounds_toArray, List.set_cons_zero, List.set_cons_succ]
              refine take_yes 47 172 rfl rfl (by kernel_rfl) (by kernel_rfl) (by kernel_rfl) (fun _ _ _ h => h) (by rfl) (by assumption) (v := ?_) ?_ ?_
              rotate_left
              · intro w hSw; (try dsimp only at hSw); go_simp; (try with_reducible rfl)
              try simp only [Act.put, List.setIfInBounds_toArray, List.set_cons_zero, List.set_cons_succ]
              refine take_yes 48 173 rfl rfl (by kernel_rfl) (by kernel_rfl) (by kernel_rfl) (fun _ _ _ h => h) (by rfl) (by assumption) (v := ?_) ?_ ?_
              rotate_left
              · intro w hSw; (try dsimp only at hSw); go_simp; (try with_reducible rfl)
              try simp only [Act.put, List.setIfInBounds_toArray, List.set_cons_zero, List.set_cons_succ]
              refine take_yes 49 174 rfl rfl (by kernel_rfl) (by kernel_rfl) (by kernel_rfl) (fun _ _ _ h => h) (by rfl) (by assumption) (v := ?_) ?_ ?_
              rotate_left
              · intro w hSw; (try dsimp only at hSw); go_simp; (try with_reducible rfl)
              try simp only [Act.put, List.setIfInBounds_toArray, List.set_cons_zero, List.set_cons_succ]
              refine wpAnyH_ready (rs := [38]) (by kernel_rfl) (by simp) ?_
              refine AllReadyH.cons (o := _) rfl (fun K hK => ?_) AllReadyH.nil
              go_simp
              refine (AN1.out _).mono ?_
              rintro e v2 ⟨rfl, hFx⟩
              (try go_wp2_with fail)
              replace hZ := hZ.trans hFx
              clear hFx
              refine hK.out _ _ ?_ (fun hHeld1 => ?_)
              · (try dsimp only); exact HX.out _ hZ
              clear hK K
              try simp only [Act.put, List.setIfInBounds_toArray, List.set_cons_zero, List.set_cons_succ]
              refine wpAnyH_ready (rs := [42]) (by kernel_rfl) (by simp) ?_
              refine AllReadyH.cons (o := _) rfl (fun K hK => ?_) AllReadyH.nil
              go_simp
              refine (AN2.out _).mono ?_
              rintro e v3 ⟨rfl, hFx⟩
              (try go_wp2_with fail)
              replace hZ := hZ.trans hFx
              clear hFx
              refine hK.out _ _ ?_ (fun hHeld2 => ?_)
              · (try dsimp only); exact HX.out _ hZ
              clear hK K
              try simp only [Act.put, List.setIfInBounds_toArray, List.set_cons_zero, List.set_cons_succ]
              refine wpAnyH_ready (rs := [43, 46]) (by kernel_rfl) (by simp) ?_
              refine AllReadyH.cons (o := _) rfl (fun K hK => ?_) ?_
              · go_simp
                (try go_wp2_with fail)
                have hFx : Fr [] v3 (v3.alloc (.cells #[.int .i64 C1, .int .i64 i, .slice none 0 0, .string (B T1), .int .i64 C2, .int .i64 i, .slice none 0 0, .string (B T2)] 56 (0, 0))) := (Fr.refl _ _).alloc _
                have hB1 := Blk.new v3 #[.int .i64 C1, .int .i64 i, .slice none 0 0, .string (B T1), .int .i64 C2, .int .i64 i, .slice none 0 0, .string (B T2)] 56
                obtain ⟨v4, hv⟩ : ∃ X, v3.alloc (.cells #[.int .i64 C1, .int .i64 i, .slice none 0 0, .string (B T1), .int .i64 C2, .int .i64 i, .slice none 0 0, .string (B T2)] 56 (0, 0)) = X := ⟨_, rfl⟩
                obtain ⟨q1, hqx⟩ : ∃ X, v3.heap.size = X := ⟨_, rfl⟩
                rw [hv] at hFx hB1 ⊢
                rw [hqx] at hB1 ⊢
                replace hZ := hZ.trans hFx
                clear hv hqx hFx
                refine hK.out _ _ ?_ (fun hHeld3 => ?_)
                · (try dsimp only); exact HX.out _ hZ
                clear hK K
                try simp only [Act.put, List.setIfInBounds_toArray, List.set_cons_zero, List.set_cons_succ]
                refine wpAnyH_ready (rs := [46]) (by kernel_rfl) (by simp) ?_
                refine AllReadyH.cons (o := _) rfl (fun K hK => ?_) AllReadyH.nil
                go_simp
                refine (DN1.out _).mono ?_
                rintro e v5 ⟨rfl, hFx⟩
                (try go_wp2_with fail)
                replace hZ := hZ.trans hFx
                replace hB1 := hFx.blk hB1 (by simp)
                clear hFx
                refine hK.out _ _ ?_ (fun hHeld4 => ?_)
                · (try dsimp only); exact HX.out _ hZ
                clear hK K
                try simp only [Act.put, List.setIfInBounds_toArray, List.set_cons_zero, List.set_cons_succ]
                refine wpAnyH_ready (rs := [50]) (by kernel_rfl) (by simp) ?_
                refine AllReadyH.cons (o := _) rfl (fun K hK => ?_) AllReadyH.nil
                go_simp
                refine (DN2.out _).mono ?_
                rintro e v6 ⟨rfl, hFx⟩
                (try go_wp2_with fail)
                replace hZ := hZ.trans hFx
                replace hB1 := hFx.blk hB1 (by simp)
                clear hFx
                refine hK.out _ _ ?_ (fun hHeld5 => ?_)
                · (try dsimp only); exact HX.out _ hZ
                clear hK K
                try simp only [Act.put, List.setIfInBounds_toArray, List.set_cons_zero, List.set_cons_succ]
                refine wpAnyH_ready (rs := [51]) (by kernel_rfl) (by simp) ?_
                refine AllReadyH.cons (o := _) rfl (fun K hK => ?_) AllReadyH.nil
                go_simp
                (try go_wp2_with fail)
                have hFx : Fr [] v6 (v6.alloc (.cells #[.int .i64 C1, .int .i64 i, .slice none 0 0, .string (B T1), .int .i64 C2, .int .i64 i, .slice none 0 0, .string (B T2)] 56 (0, 0))) := (Fr.refl _ _).alloc _
                have hB2 := Blk.new v6 #[.int .i64 C1, .int .i64 i, .slice none 0 0, .string (B T1), .int .i64 C2, .int .i64 i, .slice none 0 0, .string (B T2)] 56
                obtain ⟨v7, hv⟩ : ∃ X, v6.alloc (.cells #[.int .i64 C1, .int .i64 i, .slice none 0 0, .string (B T1), .int .i64 C2, .int .i64 i, .slice none 0 0, .string (B T2)] 56 (0, 0)) = X := ⟨_, rfl⟩
                obtain ⟨q2, hqx⟩ : ∃ X, v6.heap.size = X := ⟨_, rfl⟩
                rw [hv] at hFx hB2 ⊢
                rw [hqx] at hB2 ⊢
                replace hZ := hZ.trans hFx
                replace hB1 := hFx.blk hB1 (by simp)
                clear hv hqx hFx
                refine hK.out _ _ ?_ (fun hHeld6 => ?_)
                · (try dsimp only); exact HX.out _ hZ
                clear hK K
                try simp only [Act.put, List.setIfInBounds_toArray, List.set_cons_zero, List.set_cons_succ]
                refine wpAnyH_ready (rs := [52]) (by kernel_rfl) (by simp) ?_
                refine AllReadyH.cons (o := _) rfl (fun K hK => ?_) AllReadyH.nil
                go_simp
                refine (pk_same [(C1, i, T1), (C2, i, T2)] _ _ 2 2 (pk_two hB1) (pk_two hB2) (by simp)).mono ?_
                rintro e v8 ⟨rfl, hFx⟩
                (try go_wp2_with fail)
                replace hZ := hZ.trans hFx
                refine hK.out _ _ ?_ (fun hHeld7 => ?_)
                · (try dsimp only); exact HX.out _ hZ
                clear hK K
                try simp only [Act.put, List.setIfInBounds_toArray, List.set_cons_zero, List.set_cons_succ]
                refine take_yes 53 178 rfl rfl (by kernel_rfl) (by kernel_rfl) (by kernel_rfl) (fun _ _ _ h => h) (by rfl) (by assumption) (v := ?_) ?_ ?_
                rotate_left
                · intro w hSw; (try dsimp only at hSw); go_simp; (try with_reducible rfl)
                try simp only [Act.put, List.setIfInBounds_toArray, List.set_cons_zero, List.set_cons_succ]
                refine take_yes 54 179 rfl rfl (by kernel_rfl) (by kernel_rfl) (by kernel_rfl) (fun _ _ _ h => h) (by rfl) (by assumption) (v := ?_) ?_ ?_
                rotate_left
                · intro w hSw; (try dsimp only at hSw); go_simp; (try with_reducible rfl)
                try simp only [Act.put, List.setIfInBounds_toArray, List.set_cons_zero, List.set_cons_succ]
                refine wpAnyH_done (by kernel_rfl) ?_ _
                have HPE := Lib.hid (HP7.out.fr0 hZ)
                clear hZ hB1 hB2 hFx AN1 AN2 DN1 DN2 HX SA
                (try clear hyy hzz hq1 hq2 hq3)
                go_wp2_with fail
                go_roundw
                case rel => exact ⟨j + 1, by omega, by go_num, _, _, HPE.out⟩
                case measure => (simp [intOf]) <;> omega
              refine AllReadyH.cons (o := _) rfl (fun K hK => ?_) AllReadyH.nil
              go_simp
              refine (DN1.out _).mono ?_
              rintro e v4 ⟨rfl, hFx⟩
              (try go_wp2_with fail)
              replace hZ := hZ.trans hFx
              clear hFx
              refine hK.out _ _ ?_ (fun hHeld3 => ?_)
              · (try dsimp only); exact HX.out _ hZ
              clear hK K
              try simp only [Act.put, List.setIfInBounds_toArray, List.set_cons_zero, List.set_cons_succ]
              refine wpAnyH_ready (rs := [43, 50]) (by kernel_rfl) (by simp) ?_
              refine AllReadyH.cons (o := _) rfl (fun K hK => ?_) ?_
              · go_simp
                (try go_wp2_with fail)
                have hFx : Fr [] v4 (v4.alloc (.cells #[.int .i64 C1, .int .i64 i, .slice none 0 0, .string (B T1), .int .i64 C2, .int .i64 i, .slice none 0 0, .string (B T2)] 56 (0, 0))) := (Fr.refl _ _).alloc _
                have hB1 := Blk.new v4 #[.int .i64 C1, .int .i64 i, .slice none 0 0, .string (B T1), .int .i64 C2, .int .i64 i, .slice none 0 0, .string (B T2)] 56
                obtain ⟨v5, hv⟩ : ∃ X, v4.alloc (.cells #[.int .i64 C1, .int .i64 i, .slice none 0 0, .string (B T1), .int .i64 C2, .int .i64 i, .slice none 0 0, .string (B T2)] 56 (0, 0)) = X := ⟨_, rfl⟩
                obtain ⟨q1, hqx⟩ : ∃ X, v4.heap.size = X := ⟨_, rfl⟩
                rw [hv] at hFx hB1 ⊢
                rw [hqx] at hB1 ⊢
                replace hZ := hZ.trans hFx
                clear hv hqx hFx
                refine hK.out _ _ ?_ (fun hHeld4 => ?_)
                · (try dsimp only); exact HX.out _ hZ
                clear hK K
                try simp only [Act.put, List.setIfInBounds_toArray, List.set_cons_zero, List.set_cons_succ]
                refine wpAnyH_ready (rs := [50]) (by kernel_rfl) (by simp) ?_
                refine AllReadyH.cons (o := _) rfl (fun K hK => ?_) AllReadyH.nil
                go_simp
                refine (DN2.out _).mono ?_
                rintro e v6 ⟨rfl, hFx⟩
                (try go_wp2_with fail)
                replace hZ := hZ.trans hFx
                replace hB1 := hFx.blk hB1 (by simp)
                clear hFx
                refine hK.out _ _ ?_ (fun hHeld5 => ?_)
                · (try dsimp only); exact HX.out _ hZ
                clear hK K
                try simp only [Act.put, List.setIfInBounds_toArray, List.set_cons_zero, List.set_cons_succ]
                refine wpAnyH_ready (rs := [51]) (by kernel_rfl) (by simp) ?_
                refine AllReadyH.cons (o := _) rfl (fun K hK => ?_) AllReadyH.nil
                go_simp
                (try go_wp2_with fail)
                have hFx : Fr [] v6 (v6.alloc (.cells #[.int .i64 C1, .int .i64 i, .slice none 0 0, .string (B T1), .int .i64 C2, .int .i64 i, .slice none 0 0, .string (B T2)] 56 (0, 0))) := (Fr.refl _ _).alloc _
                have hB2 := Blk.new v6 #[.int .i64 C1, .int .i64 i, .slice none 0 0, .string (B T1), .int .i64 C2, .int .i64 i, .slice none 0 0, .string (B T2)] 56
                obtain ⟨v7, hv⟩ : ∃ X, v6.alloc (.cells #[.int .i64 C1, .int .i64 i, .slice none 0 0, .string (B T1), .int .i64 C2, .int .i64 i, .slice none 0 0, .string (B T2)] 56 (0, 0)) = X := ⟨_, rfl⟩
                obtain ⟨q2, hqx⟩ : ∃ X, v6.heap.size = X := ⟨_, rfl⟩
                rw [hv] at hFx hB2 ⊢
                rw [hqx] at hB2 ⊢
                replace hZ := hZ.trans hFx
                replace hB1 := hFx.blk hB1 (by simp)
                clear hv hqx hFx
                refine hK.out _ _ ?_ (fun hHeld6 => ?_)
                · (try dsimp only); exact HX.out _ hZ
                clear hK K
                try simp only [Act.put, List.setIfInBounds_toArray, List.set_cons_zero, List.set_cons_succ]
                refine wpAnyH_ready (rs := [52]) (by kernel_rfl) (by simp) ?_
                refine AllReadyH.cons (o := _) rfl (fun K hK => ?_) AllReadyH.nil
                go_simp
                refine (pk_same [(C1, i, T1), (C2, i, T2)] _ _ 2 2 (pk_two hB1) (pk_two hB2) (by simp)).mono ?_
                rintro e v8 ⟨rfl, hFx⟩
                (try go_wp2_with fail)
                replace hZ := hZ.trans hFx
                refine hK.out _ _ ?_ (fun hHeld7 => ?_)
                · (try dsimp only); exact HX.out _ hZ
                clear hK K
                try simp only [Act.put, List.setIfInBounds_toArray, List.set_cons_zero, List.set_cons_succ]
                refine take_yes 53 178 rfl rfl (by kernel_rfl) (by kernel_rfl) (by kernel_rfl) (fun _ _ _ h => h) (by rfl) (by assumption) (v := ?_) ?_ ?_
                rotate_left
                · intro w hSw; (try dsimp only at hSw); go_simp; (try with_reducible rfl)
                try simp only [Act.put, List.setIfInBounds_toArray, List.set_cons_zero, List.set_cons_succ]
                refine take_yes 54 179 rfl rfl (by kernel_rfl) (by kernel_rfl) (by kernel_rfl) (fun _ _ _ h => h) (by rfl) (by assumption) (v := ?_) ?_ ?_
                rotate_left
                · intro w hSw; (try dsimp only at hSw); go_simp; (try with_reducible rfl)
                try simp only [Act.put, List.setIfInBounds_toArray, List.set_cons_zero, List.set_cons_succ]
                refine wpAnyH_done (by kernel_rfl) ?_ _
                have HPE := Lib.hid (HP7.out.fr0 hZ)
                clear hZ hB1 hB2 hFx AN1 AN2 DN1 DN2 HX SA
                (try clear hyy hzz hq1 hq2 hq3)
                go_wp2_with fail
                go_roundw
                case rel => exact ⟨j + 1, by omega, by go_num, _, _, HPE.out⟩
                case measure => (simp [intOf]) <;> omega
              refine AllReadyH.cons (o := _) rfl (fun K hK => ?_) AllReadyH.nil
              go_simp
              refine (DN2.out _).mono ?_
              rintro e v5 ⟨rfl, hFx⟩
              (try go_wp2_with fail)
              replace hZ := hZ.trans hFx
              clear hFx
              refine hK.out _ _ ?_ (fun hHeld4 => ?_)
              · (try dsimp only); exact HX.out _ hZ
              clear hK K
              try simp only [Act.put, List.setIfInBounds_toArray, List.set_cons_zero, List.set_cons_succ]
              refine wpAnyH_ready (rs := [43, 51]) (by kernel_rfl) (by simp) ?_
              refine AllReadyH.cons (o := _) rfl (fun K hK => ?_) ?_
              · go_simp
                (try go_wp2_with fail)
                have hFx : Fr [] v5 (v5.alloc (.cells #[.int .i64 C1, .int .i64 i, .slice none 0 0, .string (B T1), .int .i64 C2, .int .i64 i, .slice none 0 0, .string (B T2)] 56 (0, 0))) := (Fr.refl _ _).alloc _
                have hB1 := Blk.new v5 #[.int .i64 C1, .int .i64 i, .slice none 0 0, .string (B T1), .int .i64 C2, .int .i64 i, .slice none 0 0, .string (B T2)] 56
                obtain ⟨v6, hv⟩ : ∃ X, v5.alloc (.cells #[.int .i64 C1, .int .i64 i, .slice none 0 0, .string (B T1), .int .i64 C2, .int .i64 i, .slice none 0 0, .string (B T2)] 56 (0, 0)) = X := ⟨_, rfl⟩
                obtain ⟨q1, hqx⟩ : ∃ X, v5.heap.size = X := ⟨_, rfl⟩
                rw [hv] at hFx hB1 ⊢
                rw [hqx] at hB1 ⊢
                replace hZ := hZ.trans hFx
                clear hv hqx hFx
                refine hK.out _ _ ?_ (fun hHeld5 => ?_)
                · (try dsimp only); exact HX.out _ hZ
                clear hK K
                try simp only [Act.put, List.setIfInBounds_toArray, List.set_cons_zero, List.set_cons_succ]
                refine wpAnyH_ready (rs := [51]) (by kernel_rfl) (by simp) ?_
                refine AllReadyH.cons (o := _) rfl (fun K hK => ?_) AllReadyH.nil
                go_simp
                (try go_wp2_with fail)
                have hFx : Fr [] v6 (v6.alloc (.cells #[.int .i64 C1, .int .i64 i, .slice none 0 0, .string (B T1), .int .i64 C2, .int .i64 i, .slice none 0 0, .string (B T2)] 56 (0, 0))) := (Fr.refl _ _).alloc _
                have hB2 := Blk.new v6 #[.int .i64 C1, .int .i64 i, .slice none 0 0, .string (B T1), .int .i64 C2, .int .i64 i, .slice none 0 0, .string (B T2)] 56
                obtain ⟨v7, hv⟩ : ∃ X, v6.alloc (.cells #[.int .i64 C1, .int .i64 i, .slice none 0 0, .string (B T1), .int .i64 C2, .int .i64 i, .slice none 0 0, .string (B T2)] 56 (0, 0)) = X := ⟨_, rfl⟩
                obtain ⟨q2, hqx⟩ : ∃ X, v6.heap.size = X := ⟨_, rfl⟩
                rw [hv] at hFx hB2 ⊢
                rw [hqx] at hB2 ⊢
                replace hZ := hZ.trans hFx
                replace hB1 := hFx.blk hB1 (by simp)
                clear hv hqx hFx
                refine hK.out _ _ ?_ (fun hHeld6 => ?_)
                · (try dsimp only); exact HX.out _ hZ
                clear hK K
                try simp only [Act.put, List.setIfInBounds_toArray, List.set_cons_zero, List.set_cons_succ]
                refine wpAnyH_ready (rs := [52]) (by kernel_rfl) (by simp) ?_
                refine AllReadyH.cons (o := _) rfl (fun K hK => ?_) AllReadyH.nil
                go_simp
                refine (pk_same [(C1, i, T1), (C2, i, T2)] _ _ 2 2 (pk_two hB1) (pk_two hB2) (by simp)).mono ?_
                rintro e v8 ⟨rfl, hFx⟩
                (try go_wp2_with fail)
                replace hZ := hZ.trans hFx
                refine hK.out _ _ ?_ (fun hHeld7 => ?_)
                · (try dsimp only); exact HX.out _ hZ
                clear hK K
                try simp only [Act.put, List.setIfInBounds_toArray, List.set_cons_zero, List.set_cons_succ]
                refine take_yes 53 178 rfl rfl (by kernel_rfl) (by kernel_rfl) (by kernel_rfl) (fun _ _ _ h => h) (by rfl) (by assumption) (v := ?_) ?_ ?_
                rotate_left
                · intro w hSw; (try dsimp only at hSw); go_simp; (try with_reducible rfl)
                try simp only [Act.put, List.setIfInBounds_toArray, List.set_cons_zero, List.set_cons_succ]
                refine take_yes 54 179 rfl rfl (by kernel_rfl) (by kernel_rfl) (by kernel_rfl) (fun _ _ _ h => h) (by rfl) (by assumption) (v := ?_) ?_ ?_
                rotate_left
                · intro w hSw; (try dsimp only at hSw); go_simp; (try with_reducible rfl)
                try simp only [Act.put, List.setIfInBounds_toArray, List.set_cons_zero, List.set_cons_succ]
                refine wpAnyH_done (by kernel_rfl) ?_ _
                have HPE := Lib.hid (HP7.out.fr0 hZ)
                clear hZ hB1 hB2 hFx AN1 AN2 DN1 DN2 HX SA
                (try clear hyy hzz hq1 hq2 hq3)
                go_wp2_with fail
                go_roundw
                case rel => exact ⟨j + 1, by omega, by go_num, _, _, HPE.out⟩
                case measure => (simp [intOf]) <;> omega
              refine AllReadyH.cons (o := _) rfl (fun K hK => ?_) AllReadyH.nil
              go_simp
              (try go_wp2_with fail)
              have hFx : Fr [] v5 (v5.alloc (.cells #[.int .i64 C1, .int .i64 i, .slice none 0 0, .string (B T1), .int .i64 C2, .int .i64 i, .slice none 0 0, .string (B T2)] 56 (0, 0))) := (Fr.refl _ _).alloc _
              have hB2 := Blk.new v5 #[.int .i64 C1, .int .i64 i, .slice none 0 0, .string (B T1), .int .i64 C2, .int .i64 i, .slice none 0 0, .string (B T2)] 56
              obtain ⟨v6, hv⟩ : ∃ X, v5.alloc (.cells #[.int .i64 C1, .int .i64 i, .slice none 0 0, .string (B T1), .int .i64 C2, .int .i64 i, .slice none 0 0, .string (B T2)] 56 (0, 0)) = X := ⟨_, rfl⟩
              obtain ⟨q2, hqx⟩ : ∃ X, v5.heap.size = X := ⟨_, rfl⟩
              rw [hv] at hFx hB2 ⊢
              rw [hqx] at hB2 ⊢
              replace hZ := hZ.trans hFx
              clear hv hqx hFx
              refine hK.out _ _ ?_ (fun hHeld5 => ?_)
              · (try dsimp only); exact HX.out _ hZ
              clear hK K
              try simp only [Act.put, List.setIfInBounds_toArray, List.set_cons_zero, List.set_cons_succ]
              refine wpAnyH_ready (rs := [43]) (by kernel_rfl) (by simp) ?_
              refine AllReadyH.cons (o := _) rfl (fun K hK => ?_) AllReadyH.nil
              go_simp
              (try go_wp2_with fail)
              have hFx : Fr [] v6 (v6.alloc (.cells #[.int .i64 C1, .int .i64 i, .slice none 0 0, .string (B T1), .int .i64 C2, .int .i64 i, .slice none 0 0, .string (B T2)] 56 (0, 0))) := (Fr.refl _ _).alloc _
              have hB1 := Blk.new v6 #[.int .i64 C1, .int .i64 i, .slice none 0 0, .string (B T1), .int .i64 C2, .int .i64 i, .slice none 0 0, .string (B T2)] 56
              obtain ⟨v7, hv⟩ : ∃ X, v6.alloc (.cells #[.int .i64 C1, .int .i64 i, .slice none 0 0, .string (B T1), .int .i64 C2, .int .i64 i, .slice none 0 0, .string (B T2)] 56 (0, 0)) = X := ⟨_, rfl⟩
              obtain ⟨q1, hqx⟩ : ∃ X, v6.heap.size = X := ⟨_, rfl⟩
              rw [hv] at hFx hB1 ⊢
              rw [hqx] at hB1 ⊢
              replace hZ := hZ.trans hFx
              replace hB2 := hFx.blk hB2 (by simp)
              clear hv hqx hFx
              refine hK.out _ _ ?_ (fun hHeld6 => ?_)
              · (try dsimp only); exact HX.out _ hZ
              clear hK K
              try simp only [Act.put, List.setIfInBounds_toArray, List.set_cons_zero, List.set_cons_succ]
              refine wpAnyH_ready (rs := [52]) (by kernel_rfl) (by simp) ?_
              refine AllReadyH.cons (o := _) rfl (fun K hK => ?_) AllReadyH.nil
              go_simp
              refine (pk_same [(C1, i, T1), (C2, i, T2)] _ _ 2 2 (pk_two hB1) (pk_two hB2) (by simp)).mono ?_
              rintro e v8 ⟨rfl, hFx⟩
              (try go_wp2_with fail)
              replace hZ := hZ.trans hFx
              refine hK.out _ _ ?_ (fun hHeld7 => ?_)
              · (try dsimp only); exact HX.out _ hZ
              clear hK K
              try simp only [Act.put, List.setIfInBounds_toArray, List.set_cons_zero, List.set_cons_succ]
              refine take_yes 53 178 rfl rfl (by kernel_rfl) (by kernel_rfl) (by kernel_rfl) (fun _ _ _ h => h) (by rfl) (by assumption) (v := ?_) ?_ ?_
              rotate_left
              · intro w hSw; (try dsimp only at hSw); go_simp; (try with_reducible rfl)
              try simp only [Act.put, List.setIfInBounds_toArray, List.set_cons_zero, List.set_cons_succ]
              refine take_yes 54 179 rfl rfl (by kernel_rfl) (by kernel_rfl) (by kernel_rfl) (fun _ _ _ h => h) (by rfl) (by assumption) (v := ?_) ?_ ?_
              rotate_left
              · intro w hSw; (try dsimp only at hSw); go_simp; (try with_reducible rfl)
              try simp only [Act.put, List.setIfInBounds_toArray, List.set_cons_zero, List.set_cons_succ]
              refine wpAnyH_done (by kernel_rfl) ?_ _
              have HPE := Lib.hid (HP7.out.fr0 hZ)
              clear hZ hB1 hB2 hFx AN1 AN2 DN1 DN2 HX SA
              (try clear hyy hzz hq1 hq2 hq3)
              go_wp2_with fail
              go_roundw
              case rel => exact ⟨j + 1, by omega, by go_num, _, _, HPE.out⟩
              case measure => (simp [intOf]) <;> omega
          · obtain rfl : j = len := by omega
            have AP := Lib.hid fun (W : World) (hW : Fr [] wr W) => ((HPP.out.fr0 hW).bk.apart (HPP.out.fr0 hW).fr)
            go_wp2_with fail
            refine (AL.out _).mono ?_
            rintro e w5 ⟨rfl, hF5⟩
            have AP2 := Lib.hid (AP.out _ hF5)
            clear hF5 AP
            go_wp2_with fail
            refine AP2.out.mono ?_
            rintro e w6 ⟨rfl, hF6⟩
            have HF6 := Lib.hid hF6
            clear hF6 AP2
            go_wp2_with fail
            go_ret
            exact ⟨rfl, HF6.out.below (Nat.le_refl _) (by simp)⟩
      · have NB1 := Lib.hid fun (W : World) => NB.out W hE
        have DB1 := Lib.hid fun (W : World) => DB.out W hE
        obtain ⟨X, hX⟩ : ∃ X, newE n s r wt = X := ⟨_, rfl⟩
        rw [hX] at NB1 DB1 hE
        have hx1 : (X == 0) = false := by simpa using hE
        have hx2 : (X != 0) = true := by simpa using hE
        have hx3 : (X != X) = false := by simp
        clear NB DB hE hX
        go_wp2_with fail
        refine (NB1.out _).mono ?_
        rintro e w3 ⟨rfl, hF3⟩
        go_wp2_with fail
        refine (DB1.out _).mono ?_
        rintro e w4 ⟨rfl, hF4⟩
        go_wp2_with fail
        refine (AL.out _).mono ?_
        rintro e w5 ⟨rfl, hF5⟩
        go_wp2_with fail
        go_ret
        exact ⟨rfl, (((hF2.trans hF3).trans hF4).trans hF5).below (Nat.le_refl _) (by simp)⟩
end Go.Proofs.YtfchbppfbepelaaGreat
