/- A clock: Tick. -/
import Derived.Test.YtfchbppfbepelaaGreatClock4
import Derived.Test.YtfchbppfbepelaaGreatTapeB
namespace Go.Proofs.YtfchbppfbepelaaGreat
open Go.RowKit Go.Maps
set_option linter.unusedVariables false
section
variable {w w' : World} {g : Nat} {m : Option Nat} {n o : Int} {l : Tms}
theorem Fr.trans2 {a b : Nat} {w1 w2 w3 : World} (h : Fr [a] w1 w2) (k : Fr [b] w2 w3) : Fr [a, b] w1 w3 := (h.mono (S' := [a, b]) (by simp)).trans (k.mono (by simp))
theorem Iter.left_eq {P : Program} {k : TypeId} {κ ν : Type} {E : KeyEnc P k κ} {ev : ν → Value} {w : World} {b r : Nat} {l rest : List (κ × ν)} (h : Iter E ev w b r l rest) : w.rangeLeft b r = rest.length := by
  obtain ⟨_, _, es, cl, s, c0, seen, hb, hr, _, _, _, hL⟩ := h
  simp only [World.rangeLeft, hb, hr]
  have := congrArg List.length hL
  simpa using this
theorem tick_bad (a : Int) (ha : a < 1 ∨ 1000000 < a) : Calls Tryz.prog 72 #[.pointer (some ⟨g, 0, none⟩), .int .i64 a] w fun e w' => e = .returned (.slice none 0 0) ∧ Fr [] w w' := by
  have hX : a < 1 ∨ ¬ a < 1 ∧ 1000000 < a := by omega
  rcases hX with hX | ⟨h1, hX⟩
  · go_enter Tryz.func72, Tryz.ntmps72
    go_wp2_with fail
    go_ret
    exact ⟨rfl, (Fr.refl _ _).alloc _⟩
  · go_enter Tryz.func72, Tryz.ntmps72
    go_wp2_with fail
    go_ret
    exact ⟨rfl, (Fr.refl _ _).alloc _⟩
theorem tick_nil (a : Int) : Calls Tryz.prog 72 #[.pointer none, .int .i64 a] w fun e w' => e = .returned (.slice none 0 0) ∧ Fr [] w w' := by
  go_enter Tryz.func72, Tryz.ntmps72
  go_wp2_with fail
  go_ret
  exact ⟨rfl, (Fr.refl _ _).alloc _⟩
def later (n a : Int) : Int := min (n + a) 1152921504606846976
/-- the timers whose time it is not -/
def undue (N : Int) (l : Tms) : Tms := l.filter fun p => decide (¬ p.2.1 ≤ N)
/-- the keys of those timers whose time it is -/
def dks (N : Int) (l : Tms) : List Ky := (l.filter fun p => decide (p.2.1 ≤ N)).map (·.1)
theorem dks_snoc (N : Int) (done : Tms) (p : Ky × Tm) : dks N (done ++ [p]) = dks N done ++ (if p.2.1 ≤ N then [p.1] else []) := by
  unfold dks
  rw [List.filter_append, List.map_append]
  by_cases h : p.2.1 ≤ N <;> simp [h]
theorem dks_perm {N : Int} {a b : Tms} (h : a.Perm b) : (dks N a).Perm (dks N b) := (h.filter _).map _
theorem dks_len (N : Int) (a : Tms) : (dks N a).length ≤ a.length := by unfold dks; rw [List.length_map]; exact List.length_filter_le _ _
theorem flatKy_snoc (ks : List Ky) (k : Ky) : flatKy (ks ++ [k]) = flatKy ks ++ kyL k := by unfold flatKy; simp
theorem row_of_own {w : World} {base q n cap : Nat} {ks : List Ky} (h : w.ownsRow base 141 2 (.slice (some ⟨q, 0, none⟩) n cap) n (flatKy ks)) : KRow w q ks := by
  intro i k hi c v hc
  have hil := (List.getElem?_eq_some_iff.1 hi).1
  have hc2 : c < 2 := by have := (List.getElem?_eq_some_iff.1 hc).1; rwa [kyL_len] at this
  have hn : ks.length * 2 = n * 2 := by have := h.1; rwa [flatKy_len] at this
  refine ⟨by rw [h.cellAt (i * 2 + c) (by omega), flatKy_get ks i k hi c hc2, hc], ?_⟩
  rcases h.2 with ⟨h1, _⟩ | ⟨q2, c2, cur, h1, _, hg, _⟩
  · cases h1
  · cases h1
    simp [World.frozen?, hg]
theorem own_base {w : World} {b1 b2 n : Nat} {e : TypeId} {sz : Nat} {v : Value} {ys : List Value} (h : w.ownsRow b1 e sz v n ys) (hb : b2 ≤ b1) : w.ownsRow b2 e sz v n ys := by
  refine ⟨h.1, ?_⟩
  rcases h.2 with h1 | ⟨g', cap', cur, h1, h2, h3⟩
  · exact Or.inl h1
  · exact Or.inr ⟨g', cap', cur, h1, Nat.le_trans hb h2, h3⟩
/-- a row of keys in a block of its own -/
theorem own_of_row {w : World} {base q cap : Nat} {ks : List Ky} {cur : Array Value} (hb : Blk w q cur 141) (hs : cur.size = cap * 2) (hq : base ≤ q) (h1 : ks.length ≤ cap) (h2 : cap ≤ maxLen) (hr : KRow w q ks) : w.ownsRow base 141 2 (.slice (some ⟨q, 0, none⟩) ks.length cap) ks.length (flatKy ks) := by
  refine ⟨flatKy_len ks, Or.inr ⟨q, cap, cur, rfl, hq, hb, h1, h2, hs, ?_⟩⟩
  apply List.ext_getElem?
  intro i
  by_cases hi : i < ks.length * 2
  · have hd : i / 2 < ks.length := by omega
    have hk : ks[i / 2]? = some ks[i / 2] := List.getElem?_eq_getElem hd
    have hm : i % 2 < 2 := by omega
    have hi2 : i / 2 * 2 + i % 2 = i := by omega
    have hv : (kyL ks[i / 2])[i % 2]? = some ((kyL ks[i / 2])[i % 2]'hm) := List.getElem?_eq_getElem hm
    have hc := (hr (i / 2) _ hk (i % 2) _ hv).1
    have hf := flatKy_get ks (i / 2) _ hk (i % 2) hm
    rw [hi2] at hc hf
    have hci : cur[i]? = some (cur[i]'(by omega)) := Array.getElem?_eq_getElem (by omega)
    have hc2 := hb.c i _ hci
    rw [hc] at hc2
    rw [hf, hv, List.getElem?_take_of_lt hi, Array.getElem?_toList, hci]
    exact hc2.symm
  · rw [List.getElem?_eq_none (by rw [List.length_take]; omega), List.getElem?_eq_none (by rw [flatKy_len]; omega)]
theorem own_parts {w : World} {base q n cap : Nat} {e sz : Nat} {ys : List Value} (h : w.ownsRow base e sz (.slice (some ⟨q, 0, none⟩) n cap) n ys) : ∃ cur, Blk w q cur e ∧ cur.size = cap * sz ∧ base ≤ q ∧ n ≤ cap ∧ cap ≤ maxLen := by
  rcases h.2 with ⟨h1, _⟩ | ⟨g2, c2, cur, h1, h2, hg, h4, h5, h6, _⟩
  · cases h1
  · cases h1; exact ⟨cur, hg, h6, h2, h4, h5⟩
theorem keys_ok {w : World} {b : Nat} {l : Tms} (h : MapIs kyE tmV w b l) : ∀ p, p ∈ l → KyOk p.1 := by
  obtain ⟨es, cl, _, _, _, _, hV⟩ := h
  exact hV
theorem filter_take (l : Tms) (ks : List Ky) (j : Nat) (k : Ky) (hk : ks[j]? = some k) : del (l.filter fun p => decide (p.1 ∉ ks.take j)) k = l.filter fun p => decide (p.1 ∉ ks.take (j + 1)) := by
  have hl := (List.getElem?_eq_some_iff.1 hk).1
  have hv : ks[j] = k := (List.getElem?_eq_some_iff.1 hk).2
  unfold del
  rw [List.filter_filter]
  apply List.filter_congr
  intro p _
  rw [List.take_succ_eq_append_getElem hl, hv, Bool.eq_iff_iff]
  simp
  exact And.comm
theorem filter_due (N : Int) (l : Tms) (ks : List Ky) (hn : (l.map (·.1)).Nodup) (hp : ks.Perm (dks N l)) : (l.filter fun p => decide (p.1 ∉ ks)) = undue N l := by
  unfold undue
  apply List.filter_congr
  intro p hpl
  rw [decide_eq_decide]
  have : p.1 ∈ ks ↔ p.2.1 ≤ N := by
    rw [hp.mem_iff]
    unfold dks
    rw [List.mem_map]
    constructor
    · rintro ⟨q, hq, he⟩
      obtain ⟨hq1, hq2⟩ := List.mem_filter.1 hq
      have : q = p := inj_of_nodup hn hq1 hpl he
      rw [this] at hq2
      simpa using hq2
    · intro h
      exact ⟨p, List.mem_filter.2 ⟨hpl, by simpa using h⟩, rfl⟩
  rw [this]
def gone (ks : List Ky) (j : Nat) (l : Tms) : Tms := l.filter fun p => decide (p.1 ∉ ks.take j)
/-- what Tick makes of a clock whose time is then N -/
def TickPost (w : World) (g b : Nat) (N o : Int) (l : Tms) (e : Ending) (w' : World) : Prop := ∃ (ks : List Ky) (A : Option Addr) (cap : Nat), e = .returned (.slice A ks.length cap) ∧ ks.Perm (dks N l) ∧ Sorted_ l ks ∧
  (ks = [] ∨ ∃ q, A = some ⟨q, 0, none⟩ ∧ w.heap.size ≤ q ∧ KRow w' q ks) ∧ Clk w' g (some b) N o (undue N l) ∧ Fr [g, b] w w' ∧ w'.ownsRow w.heap.size 141 2 (.slice A ks.length cap) ks.length (flatKy ks)
theorem infoKey : (Tryz.prog.info? 141).map (fun i => (i.zero, i.size, i.bytes)) = some (some (.agg #[.int .i64 0, .int .i64 0]), 2, 16) := by kernel_rfl
set_option maxRecDepth 100000 in
set_option maxHeartbeats 8000000 in
theorem tick_some {b : Nat} (a : Int) (h : Clk w g (some b) n o l) (a0 : 1 ≤ a) (a1 : a ≤ 1000000) (n0 : 0 ≤ n) (n1 : n ≤ 1152921504606846976) (hl : l.length ≤ 300) :
    Calls Tryz.prog 72 #[.pointer (some ⟨g, 0, none⟩), .int .i64 a] w (TickPost w g b (later n a) o l) := by
  have hgl := h.st.lt
  have hgb := h.mne b rfl
  have hbl := h.mlt b rfl
  have c0 : w.cell? ⟨g, 0, none⟩ = some (.int .i64 n) := h.st.c 0 _ rfl
  have f0 := h.st.fz 0
  have HC := Lib.hid h
  obtain ⟨N, hN⟩ : ∃ N, later n a = N := ⟨_, rfl⟩
  rw [hN]
  obtain ⟨i0, hi, hz0, hz1, hz2⟩ := info_parts infoKey
  have hw64 : wrap64 (n + a) = n + a := by unfold wrap64; omega
  have hwr : IntKind.i64.wrap (n + a) = n + a := IntWalk.i64_in _ (by omega)
  have HN := Lib.hid hN
  unfold later at hN
  clear h
  go_enter Tryz.func72, Tryz.ntmps72
  have hQ0 := Blk.new w #[.pointer (some ⟨g, 0, none⟩)] 129
  have hF0 := (Fr.refl [] w).alloc (.cells #[.pointer (some ⟨g, 0, none⟩)] 129 (0, 0))
  go_wp2_with fail
  obtain ⟨qc, hqc⟩ : ∃ q, w.heap.size = q := ⟨_, rfl⟩
  obtain ⟨V, hV⟩ : ∃ V, w.alloc (.cells #[.pointer (some ⟨g, 0, none⟩)] 129 (0, 0)) = V := ⟨_, rfl⟩
  rw [hqc] at hQ0 ⊢
  rw [hV] at hQ0 hF0 ⊢
  have HQC := Lib.hid hqc
  clear hqc hV
  have hCV := HC.out.fr0 hF0
  have q0 : V.cell? ⟨qc, 0, none⟩ = some (.pointer (some ⟨g, 0, none⟩)) := hQ0.c 0 _ rfl
  have g0 : V.cell? ⟨g, 0, none⟩ = some (.int .i64 n) := hCV.st.c 0 _ rfl
  have g0f := hCV.st.fz 0
  go_region
  have hN0 : 0 ≤ N := by rw [← hN]; omega
  have hN1 : N ≤ 1152921504606846976 := by rw [← hN]; omega
  have hC1 : Clk (V.setCell ⟨g, 0, none⟩ (.int .i64 N)).drew g (some b) N o l := by
    refine ⟨by have := (hCV.st.set 0 (.int .i64 N)).drew; simpa [mpC] using this, Or.inr ⟨b, rfl, ?_⟩⟩
    rcases hCV.mp with ⟨h1, _⟩ | ⟨b', h1, h2⟩
    · cases h1
    · cases h1
      exact h2.fr (S := [g]) ((Fr.refl _ _).setCell (by simp) _).drew (by simp; exact fun e => hgb e.symm)
  have hF1 : Fr [g] w (V.setCell ⟨g, 0, none⟩ (.int .i64 N)).drew := ((hF0.mono (S' := [g]) (by simp)).setCell (by simp) _).drew
  have hqg : qc ≠ g := by have := HQC.out; omega
  have hQ1 := (hQ0.set_other ⟨g, 0, none⟩ hqg (.int .i64 N)).drew
  obtain ⟨V1, hV1⟩ : ∃ V', (V.setCell ⟨g, 0, none⟩ (.int .i64 N)).drew = V' := ⟨_, rfl⟩
  rw [hV1]
  rw [hV1] at hC1 hF1 hQ1
  have hmp1 : MapIs kyE tmV V1 b l := by
    rcases hC1.mp with ⟨h1, _⟩ | ⟨b', h1, h2⟩
    · cases h1
    · cases h1; exact h2
  have d0 : V1.cell? ⟨qc, 0, none⟩ = some (.pointer (some ⟨g, 0, none⟩)) := hQ1.c 0 _ rfl
  have d2 : V1.cell? ⟨g, 2, none⟩ = some (.map (some b)) := hC1.st.c 2 _ rfl
  obtain ⟨c, hrun, hIt⟩ := hmp1.range Tryz.underlying135
  clear hN hV1 hF0 hQ0 hCV q0 g0 g0f
  go_wp2_with fail
  obtain ⟨r, hr⟩ : ∃ r, V1.heap.size = r := ⟨_, rfl⟩
  obtain ⟨V2, hV2⟩ : ∃ V', V1.alloc (.mapIter (some b) c #[] c) = V' := ⟨_, rfl⟩
  have hF2 := (Fr.refl [] V1).alloc (.mapIter (some b) c #[] c)
  have hb1 := hmp1.lt
  have hrb : r ≠ b := by omega
  have hbr0 : Hid (b < r) := Lib.hid (by omega)
  rw [hr] at hIt ⊢
  rw [hV2] at hIt hF2 ⊢
  have hV2s : r + 1 ≤ V2.heap.size := by rw [← hV2, ← hr]; simp
  have HR := Lib.hid hr
  have hgr : g < r := by have := hC1.st.lt; omega
  have hqr : qc < r := by have := hQ1.lt; omega
  have HKO := Lib.hid (keys_ok hmp1)
  have HC1 := Lib.hid hC1
  have HQ1 := Lib.hid hQ1
  have hS1 : Hid (∀ W, Fr [] V1 W → W.cell? ⟨qc, 0, none⟩ = some (.pointer (some ⟨g, 0, none⟩)) ∧ W.cell? ⟨g, 0, none⟩ = some (.int .i64 N)) := Lib.hid fun W hW => ⟨(hW.blk HQ1.out (by simp)).c 0 _ rfl, (hW.blk HC1.out.st (by simp)).c 0 _ rfl⟩
  clear hr hV2 hrun d0 d2 hmp1 hC1 hQ1 hb1
  go_loopw [5] (fun v wr => ∃ (done rest : Tms), (done ++ rest).Perm l ∧ Iter kyE tmV wr b r l rest ∧ wr.ownsRow (r + 1) 141 2 v (dks N done).length (flatKy (dks N done)) ∧ Fr [] V1 wr ∧ r + 1 ≤ wr.heap.size) (fun _ wr => wr.rangeLeft b r)
  case atStart => exact ⟨[], l, by simp, hIt, World.ownsRow_nil _ _ _ _, hF2, hV2s⟩
  case round =>
    clear hIt hF2 hV2s
    obtain ⟨done, rest, hp, hI, hown, hF, hws⟩ := hrel
    rcases hI.next hrb 0 with ⟨hr0, hnx⟩ | ⟨⟨⟨k1, k2⟩, ⟨t1, t2⟩⟩, hpr, W, hnx, hI2, hen, hG⟩
    · subst hr0
      rw [List.append_nil] at hp
      replace hnx : (Instr.next (.pointer (some ⟨r, 0, none⟩)) false 0).run Tryz.prog wr = .ok (.tuple #[.bool false]) wr := hnx
      have hll : (dks N done).length ≤ 300 := by
        have h1 := dks_len N done
        have h2 := hp.length_eq
        omega
      have hkk : ∀ k, k ∈ dks N done → KyOk k := fun k hk => by
        unfold dks at hk
        obtain ⟨p, hp1, rfl⟩ := List.mem_map.1 hk
        exact HKO.out p (hp.mem_iff.1 (List.mem_filter.1 hp1).1)
      have hCr : Clk wr g (some b) N o l := ⟨hF.blk HC1.out.st (by simp), Or.inr ⟨b, rfl, hI.mp⟩⟩
      have hQr : Blk wr qc #[.pointer (some ⟨g, 0, none⟩)] 129 := hF.blk HQ1.out (by simp)
      have hks := dks_perm (N := N) hp
      obtain ⟨ks, hks0⟩ : ∃ ks, dks N done = ks := ⟨_, rfl⟩
      rw [hks0] at hown hll hkk hks
      have HP := Lib.hid hp
      clear hp hI hks0
      rcases Nat.eq_zero_or_pos ks.length with h0 | h0
      · obtain rfl : ks = [] := List.eq_nil_of_length_eq_zero h0
        obtain ⟨A, cp, rfl⟩ : ∃ A cp, u5 = .slice A 0 cp := by
          rcases hown.2 with ⟨h1, h2⟩ | ⟨g', cap, cur, h1, _⟩
          · exact ⟨none, 0, h1⟩
          · exact ⟨_, _, h1⟩
        have SN := Lib.hid fun W => sort_none (w := W) A cp (.func (.func 214) #[] #[.pointer (some ⟨qc, 0, none⟩)])
        have hfd := filter_due N l [] hCr.nodup hks
        have hll2 : (l.filter fun p => decide (p.1 ∉ ([] : List Ky))) = l := List.filter_eq_self.2 (fun p _ => by simp)
        rw [hll2] at hfd
        have HFD := Lib.hid hfd
        have HCR := Lib.hid hCr
        have HOWN0 := Lib.hid (own_base (b2 := w.heap.size) hown (by have := HR.out; have := hF1.size; omega))
        clear hown hll hkk hfd hll2 hCr hQr
        go_wp2_with fail
        refine (SN.out _).mono ?_
        rintro e W9 ⟨rfl, rfl⟩
        go_wp2_with fail
        refine wp_loop_rounds 1 ?_
        rw [rounds_succ]
        go_wp2_with fail
        go_ret
        refine ⟨[], A, cp, rfl, hks, List.Pairwise.nil, Or.inl rfl, by rw [← HFD.out]; exact HCR.out, ?_⟩
        exact ⟨(hF1.mono (S' := [g, b]) (by simp)).trans (hF.mono (by simp)), HOWN0.out⟩
      · obtain ⟨q, cap, hv, hq, hql⟩ := hown.form h0
        subst hv
        have hrow := row_of_own hown
        have hgq : q ≠ g := by omega
        have hcq : q ≠ qc := by omega
        have hbq : q ≠ b := by have := hbr0.out; omega
        have SN := Lib.hid (sort_any q qc 129 cap ks hCr hQr hkk hrow hql hgq hcq (fun b' e => by cases e; exact hbq) (by omega))
        have HCR := Lib.hid hCr
        have HQR := Lib.hid hQr
        have HFr := Lib.hid hF
        have HKS := Lib.hid hks
        have HKK := Lib.hid hkk
        obtain ⟨cur0, hbl0, hbs0, _, hbc0, hbm0⟩ := own_parts hown
        have HBL0 := Lib.hid hbl0
        have HBC0 := Lib.hid (And.intro hbs0 (And.intro hbc0 hbm0))
        clear hown hkk hCr hQr hrow hks hF hbl0 hbs0 hbc0 hbm0
        go_wp2_with fail
        clear hnx
        refine SN.out.mono ?_
        rintro e W9 ⟨rfl, ks', hp', hs', hrow', hF9, hbk9⟩
        obtain ⟨cur9, hb9, hbs9⟩ := hbk9 _ _ HBL0.out
        have HB9 := Lib.hid hb9
        have hlen := hp'.length_eq
        have HBS9 := Lib.hid (show cur9.size = cap * 2 ∧ ks'.length ≤ cap ∧ cap ≤ maxLen by rw [hbs9, hlen]; exact HBC0.out)
        clear hb9 hbs9 hbk9
        rw [← hlen] at hll h0 ⊢
        have HROW := Lib.hid hrow'
        have HF9 := Lib.hid hF9
        have HS' := Lib.hid hs'
        have HP' := Lib.hid (hp'.trans HKS.out)
        have HKK' := Lib.hid (show ∀ k, k ∈ ks' → KyOk k from fun k hk => HKK.out k (hp'.mem_iff.1 hk))
        have hC9 : Clk W9 g (some b) N o (gone ks' 0 l) := by
          have : gone ks' 0 l = l := by unfold gone; exact List.filter_eq_self.2 (fun p _ => by simp)
          rw [this]
          exact HCR.out.fr hF9 (by simp; exact fun e => hgq e.symm) (fun b' e => by cases e; simp; exact fun e => hbq e.symm)
        have HQ9 := Lib.hid (hF9.blk HQR.out (by simp; exact fun e => hcq e.symm))
        have hql9 : q < W9.heap.size := Nat.lt_of_lt_of_le hql hF9.size
        have HND := Lib.hid HCR.out.nodup
        clear hp' hs' hrow' hF9 hlen SN HKS HKK HCR HQR
        go_wp2_with fail
        go_loopw [56] (fun iv wr => ∃ j : Nat, j ≤ ks'.length ∧ iv = .int .i64 j ∧ Clk wr g (some b) N o (gone ks' j l) ∧ Fr [b] W9 wr) (fun iv _ => ks'.length - (intOf iv).toNat)
        case atStart => exact ⟨0, by omega, rfl, hC9, Fr.refl _ _⟩
        case round =>
          clear hC9
          obtain ⟨j, hj, rfl, hC, hFx⟩ := hrel
          by_cases hjl : j < ks'.length
          · have hgn := fun k hk => filter_take l ks' j k hk
            obtain ⟨⟨k1, k2⟩, hk⟩ : ∃ k, ks'[j]? = some k := ⟨_, List.getElem?_eq_getElem hjl⟩
            have hko := HKK'.out (k1, k2) (List.mem_of_getElem? hk)
            have hgn1 : del (gone ks' j l) (k1, k2) = gone ks' (j + 1) l := hgn _ hk
            have hrx := HROW.out.fr hFx hql9 (by simp; exact hbq)
            have e0 : wr.cell? ⟨q, j * 2, none⟩ = some (.int .i64 k1) := (hrx j _ hk 0 _ rfl).1
            have e1 : wr.cell? ⟨q, j * 2 + 1, none⟩ = some (.int .i64 k2) := (hrx j _ hk 1 _ rfl).1
            have hFa := (Fr.refl [] wr).alloc (.cells #[.int .i64 k1, .int .i64 k2] 141 (0, 0))
            have hKa := Blk.new wr #[.int .i64 k1, .int .i64 k2] 141
            have hCa := hC.fr0 hFa
            have hQa := (hFx.trans (hFa.mono (by simp))).blk HQ9.out (by simp; have := HQC.out; omega)
            have hFxa := hFx.trans (hFa.mono (S' := [b]) (by simp))
            obtain ⟨Wa, hWa⟩ : ∃ W, wr.alloc (.cells #[.int .i64 k1, .int .i64 k2] 141 (0, 0)) = W := ⟨_, rfl⟩
            rw [hWa] at hFa hKa hCa hQa hFxa
            have hmp : MapIs kyE tmV Wa.drew b (gone ks' j l) := by
              rcases hCa.mp with ⟨h1, _⟩ | ⟨b', h1, h2⟩
              · cases h1
              · cases h1; exact h2.fr (S := []) (Fr.refl _ _).drew (by simp)
            obtain ⟨W4, hrun, hM4, hG4⟩ := hmp.delete Tryz.underlying135 (k1, k2) hko 0
            rw [hgn1] at hM4
            have hrun : (Builtin.delete_ #[135, 141] 0 #[.map (some b), .agg #[.int .i64 k1, .int .i64 k2]]).run Tryz.prog Wa.drew = .ok (.tuple #[]) W4 := hrun
            have hst4 : Blk W4 g (mpC N o (some b)) 137 := hG4.blk (hCa.st.drew) (by simp; exact hgb)
            have x2 : Wa.cell? ⟨g, 2, none⟩ = some (.map (some b)) := hCa.st.c 2 _ rfl
            have x3 : Wa.cell? ⟨qc, 0, none⟩ = some (.pointer (some ⟨g, 0, none⟩)) := hQa.c 0 _ rfl
            have x0 : Wa.cell? ⟨wr.heap.size, 0, none⟩ = some (.int .i64 k1) := hKa.c 0 _ rfl
            have x1 : Wa.cell? ⟨wr.heap.size, 1, none⟩ = some (.int .i64 k2) := hKa.c 1 _ rfl
            have HX := Lib.hid (And.intro (show Clk W4 g (some b) N o (gone ks' (j + 1) l) from ⟨hst4, Or.inr ⟨b, rfl, hM4⟩⟩) (hFxa.drew.trans hG4))
            have hjb : (j : Int) ≤ 300 := by omega
            clear hgn hgn1 hrx hk hko hFa hKa hCa hQa hFxa hmp hM4 hG4 hst4 hC hFx
            go_wp2_with fail
            clear hWa
            go_region
            clear hrun
            go_wp2_with fail
            go_roundw
            case rel => exact ⟨j + 1, by omega, by go_num, HX.out.1, HX.out.2⟩
            case measure => (simp [intOf]) <;> omega
          · obtain rfl : j = ks'.length := by omega
            have hge : ¬ ((ks'.length : Nat) : Int) < (ks'.length : Nat) := by omega
            have hgo : gone ks' ks'.length l = undue N l := by
              unfold gone
              rw [List.take_length]
              exact filter_due N l ks' HND.out HP'.out
            rw [hgo] at hC
            have hrx := HROW.out.fr hFx hql9 (by simp; exact hbq)
            have HX : Hid (TickPost w g b N o l (.returned (.slice (some ⟨q, 0, none⟩) ks'.length cap)) wr) := Lib.hid ⟨ks', _, cap, rfl, HP'.out, HS'.out, Or.inr ⟨q, rfl, by have := HR.out; have := hF1.size; omega, hrx⟩, hC,
              ((hF1.mono (S' := [g, b]) (by simp)).trans (HFr.out.mono (by simp))).sub (HF9.out.trans2 hFx) (by intro y hy; simp at hy ⊢; rcases hy with rfl | rfl; (right; have := HR.out; have := hF1.size; omega); (left; right; rfl)),
              own_of_row (hFx.blk HB9.out (by simp; exact hbq)) HBS9.out.1 (by have := HR.out; have := hF1.size; omega) HBS9.out.2.1 HBS9.out.2.2 hrx⟩
            clear hgo hC hFx hrx hjl hj
            go_wp2_with fail
            go_ret
            exact HX.out
    · replace hnx : (Instr.next (.pointer (some ⟨r, 0, none⟩)) false 0).run Tryz.prog wr = .ok (.tuple #[.bool true, .agg #[.int .i64 k1, .int .i64 k2], .agg #[.int .i64 t1, .int .i64 t2]]) W := hnx
      replace hen : (Instr.entry (.pointer (some ⟨r, 0, none⟩))).run Tryz.prog W = .ok (.tuple #[.agg #[.int .i64 k1, .int .i64 k2], .agg #[.int .i64 t1, .int .i64 t2]]) W := hen
      have hlt : (rest.filter (fun q => decide (q.1 ≠ ((k1, k2) : Ky)))).length < rest.length := by
        have h : rest.length = (rest.filter (fun q => decide (q.1 ≠ ((k1, k2) : Ky)))).length + 1 := (perm_out rest ((k1, k2), (t1, t2)) hI.nd hpr).length_eq
        omega
      have hle := hI.left_eq
      have hpm : ((done ++ [((k1, k2), (t1, t2))]) ++ rest.filter (fun q => decide (q.1 ≠ ((k1, k2) : Ky)))).Perm l := by
        refine List.Perm.trans ?_ hp
        rw [List.append_assoc]
        exact List.Perm.append_left _ (perm_out rest ((k1, k2), (t1, t2)) hI.nd hpr).symm
      have hsn := dks_snoc N done ((k1, k2), (t1, t2))
      have hdl : (dks N done).length ≤ 300 := by
        have h1 := dks_len N done
        have h2 := hp.length_eq
        rw [List.length_append] at h2
        omega
      simp only at hsn
      have hF3 : Fr [] V1 W := ⟨hG.os.trans hF.os, hG.tape.trans hF.tape, hG.output.trans hF.output, Nat.le_trans hF.size hG.size, fun i hi _ => by
        have := HR.out
        rw [hG.block i (Nat.lt_of_lt_of_le hi hF.size) (by simp; omega)]
        exact hF.block i hi (by simp)⟩
      have hws3 : r + 1 ≤ W.heap.size := Nat.le_trans hws hG.size
      have hown3 := own_fr hown hG (by simp)
      have HLT := Lib.hid (And.intro hlt hle)
      have HPM := Lib.hid hpm
      have HSN := Lib.hid hsn
      clear hlt hle hpm hsn hp hI hown hF hG hpr
      have hK6 := (Blk.new W #[.int .i64 k1, .int .i64 k2] 141).alloc (.cells #[.int .i64 t1, .int .i64 t2] 279 (0, 0))
      have hK7 := Blk.new (W.alloc (.cells #[.int .i64 k1, .int .i64 k2] 141 (0, 0))) #[.int .i64 t1, .int .i64 t2] 279
      rw [show (W.alloc (.cells #[.int .i64 k1, .int .i64 k2] 141 (0, 0))).heap.size = W.heap.size + 1 by simp] at hK7
      have hF6 := ((Fr.refl [] W).alloc (.cells #[.int .i64 k1, .int .i64 k2] 141 (0, 0))).alloc (.cells #[.int .i64 t1, .int .i64 t2] 279 (0, 0))
      have hE6 := hS1.out _ (hF3.trans hF6)
      obtain ⟨e1, e2⟩ := hE6
      have e3 : ((W.alloc (.cells #[.int .i64 k1, .int .i64 k2] 141 (0, 0))).alloc (.cells #[.int .i64 t1, .int .i64 t2] 279 (0, 0))).cell? ⟨W.heap.size + 1, 0, none⟩ = some (.int .i64 t1) := hK7.c 0 _ rfl
      go_wp2_with fail
      go_quiet (fail)
      have hF7 := hF6.drewN nq
      have hK8 := hK6.drewN nq
      have hI7 := hI2.fr hF7 (by simp) (by simp)
      have hown7 := own_fr hown3 hF7 (by simp)
      have hF8 := hF3.trans hF7
      have hws7 := Nat.le_trans hws3 hF7.size
      obtain ⟨W7, hW7⟩ : ∃ W', ((W.alloc (.cells #[.int .i64 k1, .int .i64 k2] 141 (0, 0))).alloc (.cells #[.int .i64 t1, .int .i64 t2] 279 (0, 0))).drewN nq = W' := ⟨_, rfl⟩
      obtain ⟨q6, hq6⟩ : ∃ q, W.heap.size = q := ⟨_, rfl⟩
      rw [hW7] at hF7 hK8 hI7 hown7 hF8 hws7 ⊢
      rw [hq6] at hK8 ⊢
      clear hW7 hq6 hF6 hK6 hK7 e1 e2 e3 hnx hen hI2 hown3 hF3 hF7
      by_cases hdue : t1 ≤ N
      · have hsn := HSN.out
        rw [if_pos hdue] at hsn
        have hfl := flatKy_snoc (dks N done) (k1, k2)
        have hln : (dks N done ++ [((k1, k2) : Ky)]).length = (dks N done).length + 1 := by simp
        rw [← hsn] at hfl hln
        have HFL := Lib.hid hfl
        have HLN := Lib.hid hln
        have x0 : W7.cell? ⟨q6, 0, none⟩ = some (.int .i64 k1) := hK8.c 0 _ rfl
        have x1 : W7.cell? ⟨q6, 1, none⟩ = some (.int .i64 k2) := hK8.c 1 _ rfl
        obtain ⟨A, cp, rfl⟩ : ∃ A cp, u5 = .slice A (dks N done).length cp := by
          rcases hown7.2 with ⟨h1, h2⟩ | ⟨g', cap, cur, h1, _⟩
          · exact ⟨none, 0, by rw [h1, h2]⟩
          · exact ⟨_, _, h1⟩
        clear hsn hfl hln HSN hK8
        go_wp2_with (at_builtin; refine wpList_append_own _ rfl _ _ 146 rfl (r + 1) 141 i0 (.agg #[.int .i64 0, .int .i64 0]) 2 16 Tryz.underlying146 hi hz0 hz1 hz2 rfl (by decide) _ (dks N done).length _ rfl (hown7.alloc _) ⟨W7.heap.size, 0, none⟩ 1 1 [.int .i64 k1, .int .i64 k2] rfl rfl ?c1 ?c2 ?c3 ?c4 ?c5 ?_)
        case c1 => exact new_cells W7 [.int .i64 k1, .int .i64 k2] 141
        case c2 => simp [Value.oneCell']
        case c3 => unfold maxLen; omega
        case c4 => omega
        case c5 => simp; omega
        intro v' W8 hown8 hgr8 _
        have h0 := own_new hown7
        have hF9 := (hF8.alloc (.cells #[.int .i64 k1, .int .i64 k2] 141 (0, 0))).grown hgr8 (fun q hq => by have := h0 q hq; have := HR.out; omega)
        have hGr : ∀ i, i < W7.heap.size → i ≤ r → W8.heap[i]? = W7.heap[i]? := fun i hi hir => by
          rw [hgr8.block i (by simp; omega) (fun e => by have := h0 i e.symm; omega)]
          exact heap_alloc_old W7 _ hi
        have hI9 : Iter kyE tmV W8 b r l (rest.filter (fun q => decide (q.1 ≠ ((k1, k2) : Ky)))) := by
          have hbl7 := hI7.mp.lt
          have hrl7 := hI7.rlt
          have hbr : b < r := hbr0.out
          have hF' : Fr ((List.range W7.heap.size).filter (fun i => decide (r < i))) W7 W8 := ⟨hgr8.os.trans rfl, hgr8.tape.trans rfl, hgr8.output.trans rfl, Nat.le_trans (by simp) hgr8.size, fun i hi hn => hGr i hi (by
            apply Classical.byContradiction; intro hc; exact hn (List.mem_filter.2 ⟨List.mem_range.2 hi, by simpa using hc⟩))⟩
          exact hI7.fr hF' (by simp; omega) (by simp)
        have hws9 : r + 1 ≤ W8.heap.size := Nat.le_trans hws7 (Nat.le_trans (by simp) hgr8.size)
        have HO := Lib.hid hown8
        clear hown8 hgr8 hown7 hI7 hF8 hws7 x0 x1 hGr h0
        go_wp2_with fail
        go_roundw
        case rel => exact ⟨done ++ [((k1, k2), (t1, t2))], _, HPM.out, hI9, by rw [HFL.out, HLN.out]; exact HO.out, hF9, hws9⟩
        case measure =>
          have h1 := HLT.out
          have h2 := hI9.left_eq
          rw [h1.2, h2]
          exact h1.1
      · have hsn := HSN.out
        rw [if_neg hdue, List.append_nil] at hsn
        have HSN2 := Lib.hid hsn
        clear hsn hK8
        go_wp2_with fail
        go_roundw
        case rel => exact ⟨done ++ [((k1, k2), (t1, t2))], _, HPM.out, hI7, by rw [HSN2.out]; exact hown7, hF8, hws7⟩
        case measure =>
          have h1 := HLT.out
          have h2 := hI7.left_eq
          rw [h1.2, h2]
          exact h1.1
set_option maxRecDepth 100000 in
set_option maxHeartbeats 8000000 in
theorem tick_none (a : Int) (h : Clk w g none n o []) (a0 : 1 ≤ a) (a1 : a ≤ 1000000) (n0 : 0 ≤ n) (n1 : n ≤ 1152921504606846976) :
    Calls Tryz.prog 72 #[.pointer (some ⟨g, 0, none⟩), .int .i64 a] w fun e w' => e = .returned (.slice none 0 0) ∧ Clk w' g none (later n a) o [] ∧ Fr [g] w w' := by
  have hgl := h.st.lt
  have c0 : w.cell? ⟨g, 0, none⟩ = some (.int .i64 n) := h.st.c 0 _ rfl
  have f0 := h.st.fz 0
  have HC := Lib.hid h
  obtain ⟨N, hN⟩ : ∃ N, later n a = N := ⟨_, rfl⟩
  rw [hN]
  obtain ⟨i0, hi, hz0, hz1, hz2⟩ := info_parts infoKey
  have hw64 : wrap64 (n + a) = n + a := by unfold wrap64; omega
  have hwr : IntKind.i64.wrap (n + a) = n + a := IntWalk.i64_in _ (by omega)
  have HN := Lib.hid hN
  unfold later at hN
  clear h
  go_enter Tryz.func72, Tryz.ntmps72
  have hQ0 := Blk.new w #[.pointer (some ⟨g, 0, none⟩)] 129
  have hF0 := (Fr.refl [] w).alloc (.cells #[.pointer (some ⟨g, 0, none⟩)] 129 (0, 0))
  go_wp2_with fail
  obtain ⟨qc, hqc⟩ : ∃ q, w.heap.size = q := ⟨_, rfl⟩
  obtain ⟨V, hV⟩ : ∃ V, w.alloc (.cells #[.pointer (some ⟨g, 0, none⟩)] 129 (0, 0)) = V := ⟨_, rfl⟩
  rw [hqc] at hQ0 ⊢
  rw [hV] at hQ0 hF0 ⊢
  have HQC := Lib.hid hqc
  clear hqc hV
  have hCV := HC.out.fr0 hF0
  have q0 : V.cell? ⟨qc, 0, none⟩ = some (.pointer (some ⟨g, 0, none⟩)) := hQ0.c 0 _ rfl
  have g0 : V.cell? ⟨g, 0, none⟩ = some (.int .i64 n) := hCV.st.c 0 _ rfl
  have g0f := hCV.st.fz 0
  go_region
  have hN0 : 0 ≤ N := by rw [← hN]; omega
  have hN1 : N ≤ 1152921504606846976 := by rw [← hN]; omega
  have hC1 : Clk (V.setCell ⟨g, 0, none⟩ (.int .i64 N)).drew g none N o [] := by
    refine ⟨by have := (hCV.st.set 0 (.int .i64 N)).drew; simpa [mpC] using this, Or.inl ⟨rfl, rfl⟩⟩
  have hF1 : Fr [g] w (V.setCell ⟨g, 0, none⟩ (.int .i64 N)).drew := ((hF0.mono (S' := [g]) (by simp)).setCell (by simp) _).drew
  have hqg : qc ≠ g := by have := HQC.out; omega
  have hQ1 := (hQ0.set_other ⟨g, 0, none⟩ hqg (.int .i64 N)).drew
  obtain ⟨V1, hV1⟩ : ∃ V', (V.setCell ⟨g, 0, none⟩ (.int .i64 N)).drew = V' := ⟨_, rfl⟩
  rw [hV1]
  rw [hV1] at hC1 hF1 hQ1
  have d0 : V1.cell? ⟨qc, 0, none⟩ = some (.pointer (some ⟨g, 0, none⟩)) := hQ1.c 0 _ rfl
  have d2 : V1.cell? ⟨g, 2, none⟩ = some (.map none) := hC1.st.c 2 _ rfl
  have hrun := run_range_nilMap (P := Tryz.prog) V1 135 _ _ Tryz.underlying135
  have hnx := run_next_nilMap (P := Tryz.prog) V1 0 0 0 #[]
  have SN := Lib.hid fun W => sort_none (w := W) none 0 (.func (.func 214) #[] #[.pointer (some ⟨qc, 0, none⟩)])
  have HX := Lib.hid (And.intro (hC1.fr0 ((Fr.refl [] V1).alloc (.mapIter none 0 #[] 0))) (hF1.alloc (.mapIter none 0 #[] 0)))
  clear hN hV1 hF0 hQ0 hCV q0 g0 g0f hC1 hF1 hQ1
  go_wp2_with fail
  refine wp_loop_rounds 1 ?_
  rw [rounds_succ]
  go_wp2_with fail
  refine (SN.out _).mono ?_
  rintro e W9 ⟨rfl, rfl⟩
  go_wp2_with fail
  refine wp_loop_rounds 1 ?_
  rw [rounds_succ]
  go_wp2_with fail
  go_ret
  exact ⟨rfl, HX.out.1, HX.out.2⟩
/-- what Tick makes of a clock, its map there or not -/
def TickP (w : World) (g : Nat) (m : Option Nat) (N o : Int) (l : Tms) (e : Ending) (w' : World) : Prop := ∃ (ks : List Ky) (A : Option Addr) (cap : Nat), e = .returned (.slice A ks.length cap) ∧ ks.Perm (dks N l) ∧ Sorted_ l ks ∧
  (ks = [] ∨ ∃ q, A = some ⟨q, 0, none⟩ ∧ w.heap.size ≤ q ∧ KRow w' q ks) ∧ Clk w' g m N o (undue N l) ∧ Fr (g :: m.toList) w w' ∧ w'.ownsRow w.heap.size 141 2 (.slice A ks.length cap) ks.length (flatKy ks)
theorem tick_any (a : Int) (h : Clk w g m n o l) (a0 : 1 ≤ a) (a1 : a ≤ 1000000) (n0 : 0 ≤ n) (n1 : n ≤ 1152921504606846976) (hl : l.length ≤ 300) :
    Calls Tryz.prog 72 #[.pointer (some ⟨g, 0, none⟩), .int .i64 a] w (TickP w g m (later n a) o l) := by
  cases m with
  | none =>
    have hl0 : l = [] := by
      rcases h.mp with ⟨_, h2⟩ | ⟨b, h1, _⟩
      · exact h2
      · cases h1
    subst hl0
    exact (tick_none a h a0 a1 n0 n1).mono fun e w' ⟨he, hC, hF⟩ => ⟨[], none, 0, he, List.Perm.refl _, List.Pairwise.nil, Or.inl rfl, hC, hF, World.ownsRow_nil _ _ _ _⟩
  | some b =>
    exact (tick_some a h a0 a1 n0 n1 hl).mono fun e w' ⟨ks, A, cap, h1, h2, h3, h4, h5, h6⟩ => ⟨ks, A, cap, h1, h2, h3, h4, h5, h6⟩
end
end Go.Proofs.YtfchbppfbepelaaGreat
