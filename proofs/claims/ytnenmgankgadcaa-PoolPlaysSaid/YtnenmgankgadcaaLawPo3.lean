/- PoolApart, walked. -/
import Derived.Test.YtnenmgankgadcaaLawPo2
import Derived.Deep.DeepCutAuto
namespace Go.Proofs.Ytnenmgankgadcaa
open Go.RowKit Go.Maps
set_option linter.unusedVariables false

theorem cnt_next (s : List (Option Ky)) (k : Nat) (v : Option Ky) (h : s[k]? = some v) : cnt (s.take (k + 1)) = cnt (s.take k) + (match v with | none => 0 | some _ => 1) := by
  unfold cnt
  have hl := at_lt h
  have hv : s[k] = v := by rw [List.getElem?_eq_getElem hl] at h; injection h
  rw [List.take_succ_eq_append_getElem hl, List.filter_append, List.length_append, hv]
  cases v <;> rfl
theorem PoolEx.keyOk {w : World} {g bh bw : Nat} {b : Ad} {s : List (Option Ky)} {k : Ky} {i : Nat} (h : PoolEx w g bh bw b s) (hi : s[i]? = some (some k)) : KyOk k := by
  obtain ⟨H, M, h⟩ := h
  have hl := h.rel.has hi
  obtain ⟨es, cl, _, _, _, _, hV⟩ := h.hM
  exact hV _ ((look_some h.hM.nodup).1 hl)
/-- either all places are taken, or there is a first free one -/
theorem first_free (s : List (Option Ky)) : Taken s s.length ∨ ∃ i : Nat, s[i]? = some none ∧ Taken s i := by
  have h : ∀ n, n ≤ s.length → Taken s n ∨ ∃ i : Nat, s[i]? = some none ∧ Taken s i := by
    intro n
    induction n with
    | zero => exact fun _ => Or.inl fun j hj => by omega
    | succ n ih =>
      intro hn
      rcases ih (by omega) with h | h
      · have hl : n < s.length := by omega
        cases hv : s[n] with
        | none => exact Or.inr ⟨n, by rw [List.getElem?_eq_getElem hl, hv], h⟩
        | some k =>
          refine Or.inl fun j hj => ?_
          by_cases hjn : j = n
          · subst hjn; exact ⟨k, by rw [List.getElem?_eq_getElem hl, hv]⟩
          · exact h j (by omega)
      · exact Or.inr h
  exact h s.length (Nat.le_refl _)
theorem in_or (s : List (Option Ky)) (k : Ky) : (∃ i : Nat, s[i]? = some (some k)) ∨ NotIn s k := by
  by_cases h : some k ∈ s
  · obtain ⟨i, hi, he⟩ := List.getElem_of_mem h
    exact Or.inl ⟨i, by rw [List.getElem?_eq_getElem hi, he]⟩
  · exact Or.inr h
theorem taken_cnt (s : List (Option Ky)) (h : Taken s s.length) : cnt s = s.length := by
  unfold cnt
  rw [List.filter_eq_self.2]
  intro v hv
  obtain ⟨i, hi, he⟩ := List.getElem_of_mem hv
  obtain ⟨k, hk⟩ := h i hi
  rw [List.getElem?_eq_getElem hi, he] at hk
  injection hk with hk
  rw [hk]; rfl
set_option maxRecDepth 100000 in
set_option maxHeartbeats 20000000 in
theorem apart_small (w : World) (n : Nat) (a : Option Addr) (len cap : Nat) (l : List OpR) (hl : IsOps w a len cap l) (n1 : 1 ≤ n) (n2 : n ≤ 256) (l300 : len ≤ 300) :
    Calls Try.prog 6 #[.int .i64 n, .slice a len cap] w fun e w' => e = .returned (.bool true) ∧ Below w.heap.size w w' := by
  have P1 := Lib.hid fun (W : World) => plnew_ok (w := W) (10, 0, 0, 0) n (by unfold AdOk u8; decide) n1 n2 (by show (167772160 : Int) + n ≤ _; omega)
  have AD := Lib.hid fun (j : Nat) (hj : j ≤ 256) (W : World) => add_any 10 0 0 0 (j : Int) W (by unfold u8; decide) (by unfold u8; decide) (by unfold u8; decide) (by unfold u8; decide) (by omega) (by omega)
  have HL := Lib.hid hl
  have h50 : ¬ (300 : Int) < len := by omega
  clear hl
  go_enter Try.func6, Try.ntmps6
  go_wp2_with fail
  refine (P1.out _).mono ?_
  rintro e w1 ⟨g, bh, bw, rfl, hg, hbh, hbw, hP, hF1⟩
  have hsz : (w.alloc (.cells #[.int .u8 10, .int .u8 0, .int .u8 0, .int .u8 0] 23 (0, 0))).heap.size = w.heap.size + 1 := by simp
  have hQ1 := hF1.blk (Blk.new w #[.int .u8 10, .int .u8 0, .int .u8 0, .int .u8 0] 23) (by simp)
  have hF2 := ((Fr.refl [] w).alloc (.cells #[.int .u8 10, .int .u8 0, .int .u8 0, .int .u8 0] 23 (0, 0))).trans hF1
  rw [hsz] at hg hbh hbw
  have HX := Lib.hid fun (y : Nat) (hy : y ∈ [bh, bw]) => show y ∈ ([] : List Nat) ∨ w.heap.size ≤ y by simp at hy; right; omega
  obtain ⟨q5, hq5⟩ : ∃ q, w.heap.size = q := ⟨_, rfl⟩
  rw [hq5] at hQ1
  have hP1 : PoolEx w1 g bh bw (10, 0, 0, 0) (List.replicate n none) := ⟨_, _, hP⟩
  have HN5 : Hid (q5 ≠ bh ∧ q5 ≠ bw) := Lib.hid (by rw [← hq5]; omega)
  rw [hq5]
  clear P1 hP hF1 hsz hq5
  obtain ⟨hll, hcap, hmax, hV, hrow⟩ := id HL.out
  clear hV hrow hll
  unfold maxLen at hmax
  go_wp2_with fail
  go_loopw [8] (fun iv wr => ∃ (j : Nat) (s : List (Option Ky)), j ≤ len ∧ iv = .int .i64 j ∧ s.length = n ∧ PoolEx wr g bh bw (10, 0, 0, 0) s ∧ Blk wr q5 #[.int .u8 10, .int .u8 0, .int .u8 0, .int .u8 0] 23 ∧ Fr [] w wr) (fun iv _ => len - (intOf iv).toNat)
  case atStart => exact ⟨0, _, by omega, rfl, by simp, hP1, hQ1, hF2⟩
  case round =>
    clear hP1 hQ1 hF2
    obtain ⟨j, s, hj, rfl, hlen, hP, hQ, hF⟩ := hrel
    by_cases hjl : j < len
    · obtain ⟨bb, off, ⟨kd, ⟨k1, k2⟩, ⟨a0, a1, a2, a3⟩⟩, rfl, hbb, hx, hxV, hcell⟩ := HL.out.at_ j hjl
      obtain ⟨⟨kd0, kd1⟩, hok, haok⟩ := hxV
      simp only at hok
      have HC := Lib.hid hcell
      have d0 : wr.cell? ⟨bb, off + j * 7, none⟩ = some (.int .i64 kd) := by have := hcell wr hF 0 _ rfl; simpa using this
      have d1 : wr.cell? ⟨bb, off + j * 7 + 1, none⟩ = some (.int .i64 k1) := hcell wr hF 1 _ rfl
      have d2 : wr.cell? ⟨bb, off + j * 7 + 2, none⟩ = some (.int .i64 k2) := hcell wr hF 2 _ rfl
      have hjb : (j : Int) ≤ 300 := by omega
      clear hcell hx haok
      go_upto_if 56 with fail
      go_cut [] (fun wx => ∃ s' : List (Option Ky), s'.length = n ∧ PoolEx wx g bh bw (10, 0, 0, 0) s' ∧ Blk wx q5 #[.int .u8 10, .int .u8 0, .int .u8 0, .int .u8 0] 23 ∧ Fr [] w wx)
      case first =>
        by_cases hkd : kd = 2
        · have hkb : (kd == 2) = true := by simpa using hkd
          clear hkd
          rcases in_or s (k1, k2) with ⟨i, hi'⟩ | hno
          · as_aux_lemma =>
              have hT := ex_give_yes (k1, k2) i hok hP hi'
              unfold kyC at hT
              simp only at hT
              have HT := Lib.hid hT
              have hlen' : (s.set i none).length = n := by rw [List.length_set]; exact hlen
              clear hT
              go_wp2_with fail
              refine HT.out.mono ?_
              rintro e w3 ⟨rfl, hP3, hG⟩
              have hF3 := hF.sub hG HX.out
              have hQ3 := hG.blk hQ (by simp; exact HN5.out)
              have HP3 := Lib.hid hP3
              clear HT hG hF hQ d0 d1 d2 hP hP3
              go_wp2_with fail
              go_meet
              exact ⟨_, hlen', HP3.out, hQ3, hF3⟩
          · as_aux_lemma =>
              have hT := ex_give_no (k1, k2) hok hP hno
              unfold kyC at hT
              simp only at hT
              have HT := Lib.hid hT
              clear hT
              go_wp2_with fail
              refine HT.out.mono ?_
              rintro e w3 ⟨rfl, hG⟩
              have hF3 := hF.trans hG
              have hQ3 := hG.blk hQ (by simp)
              have HP3 := Lib.hid (hP.fr0 hG)
              clear HT hG hF hQ d0 d1 d2 hP
              go_wp2_with fail
              go_meet
              exact ⟨_, hlen, HP3.out, hQ3, hF3⟩
        · have hkb : (kd == 2) = false := by simpa using hkd
          clear hkd
          rcases in_or s (k1, k2) with ⟨i, hi'⟩ | hno
          · as_aux_lemma =>
              have hT := ex_take_had (k1, k2) i hok hP hi'
              obtain ⟨⟨e0, e1, e2, e3⟩, hev⟩ : ∃ a, adq (numb (10, 0, 0, 0) + i) = a := ⟨_, rfl⟩
              rw [hev] at hT
              unfold kyC adC adr at hT
              simp only at hT
              have heq0 := fun W => eq_ad (e0, e1, e2, e3) (e0, e1, e2, e3) W
              rw [show adEq (e0, e1, e2, e3) (e0, e1, e2, e3) = true by simp [adEq]] at heq0
              unfold adC adr at heq0
              simp only at heq0
              have HEq := Lib.hid heq0
              clear heq0
              have HT := Lib.hid hT
              have hlen' := hlen
              clear hT
              go_wp2_with fail
              refine HT.out.mono ?_
              rintro e w3 ⟨rfl, hG⟩
              have hF3 := hF.trans hG
              have hQ3 := hG.blk hQ (by simp)
              have hP3 := hP.fr0 hG
              clear HT hG hF hQ d0 d1 d2 hP
              have hA3 := hF3.alloc (.cells #[.int .u8 e0, .int .u8 e1, .int .u8 e2, .int .u8 e3] 23 (0, 0))
              have e1' : (w3.alloc (.cells #[.int .u8 e0, .int .u8 e1, .int .u8 e2, .int .u8 e3] 23 (0, 0))).cell? ⟨bb, off + j * 7 + 1, none⟩ = some (.int .i64 k1) := HC.out _ hA3 1 _ rfl
              have e2' : (w3.alloc (.cells #[.int .u8 e0, .int .u8 e1, .int .u8 e2, .int .u8 e3] 23 (0, 0))).cell? ⟨bb, off + j * 7 + 2, none⟩ = some (.int .i64 k2) := HC.out _ hA3 2 _ rfl
              clear hA3
              go_wp2_with fail
              obtain ⟨W, hW⟩ : ∃ W, w3.alloc (.cells #[.int .u8 e0, .int .u8 e1, .int .u8 e2, .int .u8 e3] 23 (0, 0)) = W := ⟨_, rfl⟩
              have hFW : Fr [] w3 W := by rw [← hW]; exact (Fr.refl _ _).alloc _
              have hB9 : Blk W w3.heap.size #[.int .u8 e0, .int .u8 e1, .int .u8 e2, .int .u8 e3] 23 := by rw [← hW]; exact Blk.new _ _ _
              obtain ⟨r9, hr9⟩ : ∃ r, w3.heap.size = r := ⟨_, rfl⟩
              rw [hr9] at hB9
              rw [hW, hr9]
              have hQW := hFW.blk hQ3 (by simp)
              have hFW2 := hF3.trans hFW
              have hH := ex_has_yes (k1, k2) i hok (hP3.fr0 hFW) hi'
              rw [hev] at hH
              unfold kyC adC adr at hH
              simp only at hH
              have HH := Lib.hid hH
              have hPW := Lib.hid (hP3.fr0 hFW)
              clear hW hr9 hQ3 hF3 hFW hP3 hH e1' e2'
              refine HH.out.mono ?_
              rintro e w4 ⟨rfl, hG⟩
              have hP4 := Lib.hid (hPW.out.fr0 hG)
              have hF4 := hFW2.trans hG
              have hB94 := hG.blk hB9 (by simp)
              have hQ4 := hG.blk hQW (by simp)
              clear HH hPW hFW2 hB9 hQW hG
              have x0 : (w4.alloc (.cells #[.int .u8 e0, .int .u8 e1, .int .u8 e2, .int .u8 e3] 23 (0, 0))).cell? ⟨r9, 0, none⟩ = some (.int .u8 e0) := (hB94.alloc _).c 0 _ rfl
              have x1 : (w4.alloc (.cells #[.int .u8 e0, .int .u8 e1, .int .u8 e2, .int .u8 e3] 23 (0, 0))).cell? ⟨r9, 1, none⟩ = some (.int .u8 e1) := (hB94.alloc _).c 1 _ rfl
              have x2 : (w4.alloc (.cells #[.int .u8 e0, .int .u8 e1, .int .u8 e2, .int .u8 e3] 23 (0, 0))).cell? ⟨r9, 2, none⟩ = some (.int .u8 e2) := (hB94.alloc _).c 2 _ rfl
              have x3 : (w4.alloc (.cells #[.int .u8 e0, .int .u8 e1, .int .u8 e2, .int .u8 e3] 23 (0, 0))).cell? ⟨r9, 3, none⟩ = some (.int .u8 e3) := (hB94.alloc _).c 3 _ rfl
              have heq := HEq.out
              have HPW := Lib.hid (hP4.out.fr0 ((Fr.refl [] w4).alloc (.cells #[.int .u8 e0, .int .u8 e1, .int .u8 e2, .int .u8 e3] 23 (0, 0))))
              have hQW := hQ4.alloc (.cells #[.int .u8 e0, .int .u8 e1, .int .u8 e2, .int .u8 e3] 23 (0, 0))
              have hFW2 := hF4.alloc (.cells #[.int .u8 e0, .int .u8 e1, .int .u8 e2, .int .u8 e3] 23 (0, 0))
              clear hP4 hQ4 hF4 hB94
              go_wp2_with fail
              go_meet
              exact ⟨_, hlen', HPW.out, hQW, hFW2⟩
          · rcases first_free s with hf | ⟨i, hi, hf⟩
            · as_aux_lemma =>
                have hcnt : (s.length : Int) - (cnt s : Nat) = 0 := by rw [taken_cnt s hf]; omega
                have hT := ex_take_full (k1, k2) hok hP hno hf
                unfold kyC adC adr at hT
                simp only at hT
                have HT := Lib.hid hT
                clear hT
                go_wp2_with fail
                refine HT.out.mono ?_
                rintro e w3 ⟨rfl, hG⟩
                have hF3 := hF.trans hG
                have hQ3 := hG.blk hQ (by simp)
                have hP3 := hP.fr0 hG
                clear HT hG hF hQ d0 d1 d2 hP
                have hA3 := hF3.alloc (.cells #[.int .u8 0, .int .u8 0, .int .u8 0, .int .u8 0] 23 (0, 0))
                have e1' : (w3.alloc (.cells #[.int .u8 0, .int .u8 0, .int .u8 0, .int .u8 0] 23 (0, 0))).cell? ⟨bb, off + j * 7 + 1, none⟩ = some (.int .i64 k1) := HC.out _ hA3 1 _ rfl
                have e2' : (w3.alloc (.cells #[.int .u8 0, .int .u8 0, .int .u8 0, .int .u8 0] 23 (0, 0))).cell? ⟨bb, off + j * 7 + 2, none⟩ = some (.int .i64 k2) := HC.out _ hA3 2 _ rfl
                clear hA3
                go_wp2_with fail
                obtain ⟨W, hW⟩ : ∃ W, w3.alloc (.cells #[.int .u8 0, .int .u8 0, .int .u8 0, .int .u8 0] 23 (0, 0)) = W := ⟨_, rfl⟩
                have hFW : Fr [] w3 W := by rw [← hW]; exact (Fr.refl _ _).alloc _
                obtain ⟨r9, hr9⟩ : ∃ r, w3.heap.size = r := ⟨_, rfl⟩
                rw [hW, hr9]
                have hQW := hFW.blk hQ3 (by simp)
                have hFW2 := hF3.trans hFW
                have hH := ex_has_no (k1, k2) hok (hP3.fr0 hFW) hno
                unfold kyC adC adr at hH
                simp only at hH
                have HH := Lib.hid hH
                have hPW := Lib.hid (hP3.fr0 hFW)
                clear hW hr9 hQ3 hF3 hFW hP3 hH e1' e2'
                refine HH.out.mono ?_
                rintro e w4 ⟨rfl, hG⟩
                have hP4 := Lib.hid (hPW.out.fr0 hG)
                have hF4 := hFW2.trans hG
                have hQ4 := hG.blk hQW (by simp)
                clear HH hPW hFW2 hQW hG
                have hA := (Fr.refl [] w4).alloc (.cells #[.int .u8 0, .int .u8 0, .int .u8 0, .int .u8 0] 23 (0, 0))
                have hFr := ex_free (hP4.out.fr0 hA)
                rw [hcnt] at hFr
                have HFr := Lib.hid hFr
                clear hFr
                go_wp2_with fail
                refine HFr.out.mono ?_
                rintro e w5 ⟨rfl, hG⟩
                have hP5 := Lib.hid ((hP4.out.fr0 hA).fr0 hG)
                have hF5 := (hF4.trans hA).trans hG
                have hQ5 := hG.blk (hA.blk hQ4 (by simp)) (by simp)
                clear HFr hP4 hF4 hQ4 hG hA
                go_wp2_with fail
                go_meet
                exact ⟨_, hlen, hP5.out, hQ5, hF5⟩
            · as_aux_lemma =>
                have hil := at_lt hi
                have hT := ex_take_new (k1, k2) i hok hP hno hf hi
                obtain ⟨⟨e0, e1, e2, e3⟩, hev⟩ : ∃ a, adq (numb (10, 0, 0, 0) + i) = a := ⟨_, rfl⟩
                rw [hev] at hT
                unfold kyC adC adr at hT
                simp only at hT
                have heq0 := fun W => eq_ad (e0, e1, e2, e3) (e0, e1, e2, e3) W
                rw [show adEq (e0, e1, e2, e3) (e0, e1, e2, e3) = true by simp [adEq]] at heq0
                unfold adC adr at heq0
                simp only at heq0
                have HEq := Lib.hid heq0
                clear heq0
                have HT := Lib.hid hT
                have hi' : (s.set i (some (k1, k2)))[i]? = some (some (k1, k2)) := by rw [List.getElem?_set, if_pos rfl, if_pos hil]
                have hlen' : (s.set i (some (k1, k2))).length = n := by rw [List.length_set]; exact hlen
                clear hT
                go_wp2_with fail
                refine HT.out.mono ?_
                rintro e w3 ⟨rfl, hP3, hG⟩
                have hF3 := hF.sub hG HX.out
                have hQ3 := hG.blk hQ (by simp; exact HN5.out)
                clear HT hG hF hQ d0 d1 d2 hP
                have hA3 := hF3.alloc (.cells #[.int .u8 e0, .int .u8 e1, .int .u8 e2, .int .u8 e3] 23 (0, 0))
                have e1' : (w3.alloc (.cells #[.int .u8 e0, .int .u8 e1, .int .u8 e2, .int .u8 e3] 23 (0, 0))).cell? ⟨bb, off + j * 7 + 1, none⟩ = some (.int .i64 k1) := HC.out _ hA3 1 _ rfl
                have e2' : (w3.alloc (.cells #[.int .u8 e0, .int .u8 e1, .int .u8 e2, .int .u8 e3] 23 (0, 0))).cell? ⟨bb, off + j * 7 + 2, none⟩ = some (.int .i64 k2) := HC.out _ hA3 2 _ rfl
                clear hA3
                go_wp2_with fail
                obtain ⟨W, hW⟩ : ∃ W, w3.alloc (.cells #[.int .u8 e0, .int .u8 e1, .int .u8 e2, .int .u8 e3] 23 (0, 0)) = W := ⟨_, rfl⟩
                have hFW : Fr [] w3 W := by rw [← hW]; exact (Fr.refl _ _).alloc _
                have hB9 : Blk W w3.heap.size #[.int .u8 e0, .int .u8 e1, .int .u8 e2, .int .u8 e3] 23 := by rw [← hW]; exact Blk.new _ _ _
                obtain ⟨r9, hr9⟩ : ∃ r, w3.heap.size = r := ⟨_, rfl⟩
                rw [hr9] at hB9
                rw [hW, hr9]
                have hQW := hFW.blk hQ3 (by simp)
                have hFW2 := hF3.trans hFW
                have hH := ex_has_yes (k1, k2) i hok (hP3.fr0 hFW) hi'
                rw [hev] at hH
                unfold kyC adC adr at hH
                simp only at hH
                have HH := Lib.hid hH
                have hPW := Lib.hid (hP3.fr0 hFW)
                clear hW hr9 hQ3 hF3 hFW hP3 hH e1' e2'
                refine HH.out.mono ?_
                rintro e w4 ⟨rfl, hG⟩
                have hP4 := Lib.hid (hPW.out.fr0 hG)
                have hF4 := hFW2.trans hG
                have hB94 := hG.blk hB9 (by simp)
                have hQ4 := hG.blk hQW (by simp)
                clear HH hPW hFW2 hB9 hQW hG
                have x0 : (w4.alloc (.cells #[.int .u8 e0, .int .u8 e1, .int .u8 e2, .int .u8 e3] 23 (0, 0))).cell? ⟨r9, 0, none⟩ = some (.int .u8 e0) := (hB94.alloc _).c 0 _ rfl
                have x1 : (w4.alloc (.cells #[.int .u8 e0, .int .u8 e1, .int .u8 e2, .int .u8 e3] 23 (0, 0))).cell? ⟨r9, 1, none⟩ = some (.int .u8 e1) := (hB94.alloc _).c 1 _ rfl
                have x2 : (w4.alloc (.cells #[.int .u8 e0, .int .u8 e1, .int .u8 e2, .int .u8 e3] 23 (0, 0))).cell? ⟨r9, 2, none⟩ = some (.int .u8 e2) := (hB94.alloc _).c 2 _ rfl
                have x3 : (w4.alloc (.cells #[.int .u8 e0, .int .u8 e1, .int .u8 e2, .int .u8 e3] 23 (0, 0))).cell? ⟨r9, 3, none⟩ = some (.int .u8 e3) := (hB94.alloc _).c 3 _ rfl
                have heq := HEq.out
                have HPW := Lib.hid (hP4.out.fr0 ((Fr.refl [] w4).alloc (.cells #[.int .u8 e0, .int .u8 e1, .int .u8 e2, .int .u8 e3] 23 (0, 0))))
                have hQW := hQ4.alloc (.cells #[.int .u8 e0, .int .u8 e1, .int .u8 e2, .int .u8 e3] 23 (0, 0))
                have hFW2 := hF4.alloc (.cells #[.int .u8 e0, .int .u8 e1, .int .u8 e2, .int .u8 e3] 23 (0, 0))
                clear hP4 hQ4 hF4 hB94
                go_wp2_with fail
                go_meet
                exact ⟨_, hlen', HPW.out, hQW, hFW2⟩
      case rest =>
        clear hP hQ hF d0 d1 d2 hlen
        obtain ⟨s, hlen, hP, hQ, hF⟩ := hcut
        have hjb : (j : Int) ≤ 300 := by omega
        go_wp2_with fail
        go_loopw [13, 14] (fun hv kv wr => ∃ (k : Nat), k ≤ n ∧ kv = .int .i64 k ∧ hv = .int .i64 (cnt (s.take k) : Nat) ∧ PoolEx wr g bh bw (10, 0, 0, 0) s ∧ Blk wr q5 #[.int .u8 10, .int .u8 0, .int .u8 0, .int .u8 0] 23 ∧ Fr [] w wr) (fun _ kv _ => n - (intOf kv).toNat)
        case atStart => exact ⟨0, by omega, rfl, rfl, hP, hQ, hF⟩
        case round =>
          clear hP hQ hF
          obtain ⟨k, hk, rfl, rfl, hP, hQ, hF⟩ := hrel
          have hcb : cnt (s.take k) ≤ k := by have := cnt_le (s.take k); rw [List.length_take] at this; omega
          have hcbi : (cnt (s.take k) : Int) ≤ 256 := by omega
          have hkb : (k : Int) ≤ 256 := by omega
          by_cases hlt : k < n
          · have q0 : wr.cell? ⟨q5, 0, none⟩ = some (.int .u8 10) := hQ.c 0 _ rfl
            have q1 : wr.cell? ⟨q5, 1, none⟩ = some (.int .u8 0) := hQ.c 1 _ rfl
            have q2 : wr.cell? ⟨q5, 2, none⟩ = some (.int .u8 0) := hQ.c 2 _ rfl
            have q3 : wr.cell? ⟨q5, 3, none⟩ = some (.int .u8 0) := hQ.c 3 _ rfl
            have hAj := AD.out k (by omega)
            obtain ⟨⟨e0, e1, e2, e3⟩, hev⟩ : ∃ a, adq (numb (10, 0, 0, 0) + k) = a := ⟨_, rfl⟩
            rw [show adrN (num4 10 0 0 0 + (k : Int)) = adC (adq (numb (10, 0, 0, 0) + k)) from rfl, hev] at hAj
            unfold adC adr at hAj
            simp only at hAj
            have HA := Lib.hid hAj
            clear hAj
            cases hs : s[k]? with
            | none => rw [List.getElem?_eq_none_iff] at hs; omega
            | some v =>
              have hsn := cnt_next s k v hs
              cases v with
              | none =>
                simp only at hsn
                have HSn := Lib.hid hsn
                have hW := Lib.hid fun (W : World) (hW : Fr [] wr W) => by have := ex_who_no k (hP.fr0 hW) hs; rw [hev] at this; unfold kyC adC adr at this; simpa only using this
                have HP := Lib.hid hP
                clear hev hs hP hsn
                go_wp2_with fail
                refine (HA.out _).mono ?_
                rintro e w5 ⟨rfl, hG⟩
                go_wp2_with fail
                refine (hW.out _ hG).mono ?_
                rintro e w6 ⟨rfl, hG2⟩
                have hF6 := (hG.trans hG2).alloc (.cells #[.int .i64 0, .int .i64 0] 36 (0, 0))
                have HP6 := Lib.hid (HP.out.fr0 hF6)
                have hQ6 := hF6.blk hQ (by simp)
                have hF7 := hF.trans hF6
                clear HP hW HA hG hG2 hQ hF hF6 q0 q1 q2 q3
                go_wp2_with fail
                go_roundw
                case rel => exact ⟨k + 1, by omega, by go_num, by rw [HSn.out, Nat.add_zero], HP6.out, hQ6, hF7⟩
                case measure => (simp [intOf]) <;> omega
              | some key =>
                simp only at hsn
                have HSn := Lib.hid hsn
                obtain ⟨k1, k2⟩ := key
                have hkok := hP.keyOk hs
                have hW := Lib.hid fun (W : World) (hW : Fr [] wr W) => by have := ex_who_yes k (k1, k2) (hP.fr0 hW) hs; rw [hev] at this; unfold kyC adC adr at this; simpa only using this
                have hH := Lib.hid fun (W : World) (hW : Fr [] wr W) => by have := ex_has_yes (k1, k2) k hkok (hP.fr0 hW) hs; rw [hev] at this; unfold kyC adC adr at this; simpa only using this
                have HP := Lib.hid hP
                have heq0 := fun W => eq_ad (e0, e1, e2, e3) (e0, e1, e2, e3) W
                rw [show adEq (e0, e1, e2, e3) (e0, e1, e2, e3) = true by simp [adEq]] at heq0
                unfold adC adr at heq0
                simp only at heq0
                have HEq := Lib.hid heq0
                clear hev hs hP hsn hkok heq0
                go_wp2_with fail
                refine (HA.out _).mono ?_
                rintro e w5 ⟨rfl, hG⟩
                go_wp2_with fail
                refine (hW.out _ hG).mono ?_
                rintro e w6 ⟨rfl, hG2⟩
                have hF6 := (hG.trans hG2).alloc (.cells #[.int .i64 k1, .int .i64 k2] 36 (0, 0))
                go_wp2_with fail
                refine (hH.out _ hF6).mono ?_
                rintro e w7 ⟨rfl, hG3⟩
                have hF7 := hF6.trans hG3
                have hQ7 := hF7.blk hQ (by simp)
                have HP7 := Lib.hid (HP.out.fr0 hF7)
                have hF8 := hF.trans hF7
                clear HP hW hH hG hG2 hG3 hQ hF hF6 hF7 q0 q1 q2 q3
                go_wp2_with fail
                obtain ⟨W, hWe⟩ : ∃ W, w7.alloc (.cells #[.int .u8 e0, .int .u8 e1, .int .u8 e2, .int .u8 e3] 23 (0, 0)) = W := ⟨_, rfl⟩
                have hFW : Fr [] w7 W := by rw [← hWe]; exact (Fr.refl _ _).alloc _
                have hB9 : Blk W w7.heap.size #[.int .u8 e0, .int .u8 e1, .int .u8 e2, .int .u8 e3] 23 := by rw [← hWe]; exact Blk.new _ _ _
                obtain ⟨r9, hr9⟩ : ∃ r, w7.heap.size = r := ⟨_, rfl⟩
                rw [hr9] at hB9
                rw [hWe, hr9]
                have hQW := hFW.blk hQ7 (by simp)
                have HPW := Lib.hid (HP7.out.fr0 hFW)
                have hFW2 := hF8.trans hFW
                have heq := HEq.out
                clear hWe hr9 hQ7 HP7 hF8 hFW
                have hG : ((W.drew.cell? ⟨r9, 0, none⟩ = some (.int .u8 e0) ∧ W.drew.cell? ⟨r9, 1, none⟩ = some (.int .u8 e1) ∧ W.drew.cell? ⟨r9, 2, none⟩ = some (.int .u8 e2) ∧ W.drew.cell? ⟨r9, 3, none⟩ = some (.int .u8 e3)) ∧ (W.drew.cell? ⟨q5, 0, none⟩ = some (.int .u8 10) ∧ W.drew.cell? ⟨q5, 1, none⟩ = some (.int .u8 0) ∧ W.drew.cell? ⟨q5, 2, none⟩ = some (.int .u8 0) ∧ W.drew.cell? ⟨q5, 3, none⟩ = some (.int .u8 0))) ∧ Blk W.drew r9 (adC (e0, e1, e2, e3)) 23 ∧ Blk W.drew q5 (adC (10, 0, 0, 0)) 23 ∧ Fr [] W W.drew :=
                  ⟨⟨⟨hB9.c 0 _ rfl, hB9.c 1 _ rfl, hB9.c 2 _ rfl, hB9.c 3 _ rfl⟩, ⟨hQW.c 0 _ rfl, hQW.c 1 _ rfl, hQW.c 2 _ rfl, hQW.c 3 _ rfl⟩⟩, hB9.drew, hQW.drew, (Fr.refl _ _).drew⟩
                go_region_held3 (fun w' => ((w'.cell? ⟨r9, 0, none⟩ = some (.int .u8 e0) ∧ w'.cell? ⟨r9, 1, none⟩ = some (.int .u8 e1) ∧ w'.cell? ⟨r9, 2, none⟩ = some (.int .u8 e2) ∧ w'.cell? ⟨r9, 3, none⟩ = some (.int .u8 e3)) ∧ (w'.cell? ⟨q5, 0, none⟩ = some (.int .u8 10) ∧ w'.cell? ⟨q5, 1, none⟩ = some (.int .u8 0) ∧ w'.cell? ⟨q5, 2, none⟩ = some (.int .u8 0) ∧ w'.cell? ⟨q5, 3, none⟩ = some (.int .u8 0))) ∧ Blk w' r9 (adC (e0, e1, e2, e3)) 23 ∧ Blk w' q5 (adC (10, 0, 0, 0)) 23 ∧ Fr [] W w')
                  (first | exact hG | assumption | exact adS_step (x := (e0, e1, e2, e3)) (y := (10, 0, 0, 0)) (by assumption) hF5)
                  (first | (go_at_call 9; refine (HA.out _).mono ?_; rintro e w5 ⟨rfl, hF5⟩))
                all_goals
                  have hS : ((w5.cell? ⟨r9, 0, none⟩ = some (.int .u8 e0) ∧ w5.cell? ⟨r9, 1, none⟩ = some (.int .u8 e1) ∧ w5.cell? ⟨r9, 2, none⟩ = some (.int .u8 e2) ∧ w5.cell? ⟨r9, 3, none⟩ = some (.int .u8 e3)) ∧ (w5.cell? ⟨q5, 0, none⟩ = some (.int .u8 10) ∧ w5.cell? ⟨q5, 1, none⟩ = some (.int .u8 0) ∧ w5.cell? ⟨q5, 2, none⟩ = some (.int .u8 0) ∧ w5.cell? ⟨q5, 3, none⟩ = some (.int .u8 0))) ∧ Blk w5 r9 (adC (e0, e1, e2, e3)) 23 ∧ Blk w5 q5 (adC (10, 0, 0, 0)) 23 ∧ Fr [] W w5 := by assumption
                  have HP5 := Lib.hid (HPW.out.fr0 hS.2.2.2)
                  have hF6 := hFW2.trans hS.2.2.2
                  have hQ6 := hS.2.2.1
                  clear hG hS heq HEq HA HPW hFW2 hQW hB9 hF5
                  go_wp2_with fail
                  go_roundw
                  case rel => exact ⟨k + 1, by omega, by go_num, by rw [HSn.out]; go_num, HP5.out, hQ6, hF6⟩
                  case measure => (simp [intOf]) <;> omega
          · have hge : ¬ (k : Int) < (n : Nat) := by omega
            have hks : s.take k = s := List.take_of_length_le (by omega)
            have hcn := cnt_le s
            have hFr := ex_free hP
            rw [hlen] at hFr
            have HFr := Lib.hid hFr
            have hsum : (cnt s : Int) + ((n : Int) - (cnt s : Nat)) = n := by omega
            have hsb : (cnt s : Int) ≤ 256 := by omega
            rw [hks]
            have HP := Lib.hid hP
            obtain ⟨C, hC⟩ : ∃ C : Int, (cnt s : Int) = C := ⟨_, rfl⟩
            rw [hC] at HFr hsum hsb ⊢
            have hC0 : 0 ≤ C := by omega
            clear hks hlt hk hcb hcbi hFr hP hcn hC
            go_wp2_with fail
            refine HFr.out.mono ?_
            rintro e w5 ⟨rfl, hG⟩
            have HP5 := Lib.hid (HP.out.fr0 hG)
            have hF5 := hF.trans hG
            have hQ5 := hG.blk hQ (by simp)
            have hnb : (n : Int) ≤ 256 := by omega
            clear HFr HP hF hQ hG
            go_wp2_with fail
            go_roundw
            case rel => exact ⟨j + 1, s, by omega, by go_num, hlen, HP5.out, hQ5, hF5⟩
            case measure => (simp [intOf]) <;> omega
    · skip
      have hge : ¬ (j : Int) < (len : Nat) := by omega
      have q0 : wr.cell? ⟨q5, 0, none⟩ = some (.int .u8 10) := hQ.c 0 _ rfl
      have q1 : wr.cell? ⟨q5, 1, none⟩ = some (.int .u8 0) := hQ.c 1 _ rfl
      have q2 : wr.cell? ⟨q5, 2, none⟩ = some (.int .u8 0) := hQ.c 2 _ rfl
      have q3 : wr.cell? ⟨q5, 3, none⟩ = some (.int .u8 0) := hQ.c 3 _ rfl
      have hAj := AD.out n (by omega)
      have hout : ∀ i : Nat, i < s.length → adq (numb (10, 0, 0, 0) + n) ≠ adq (numb (10, 0, 0, 0) + i) := fun i hi he => by
        have hb : numb (10, 0, 0, 0) = 167772160 := rfl
        rw [hb] at he
        have := adq_inj (x := 167772160 + (n : Int)) (y := 167772160 + (i : Int)) (by omega) (by omega) he
        omega
      obtain ⟨⟨e0, e1, e2, e3⟩, hev⟩ : ∃ a, adq (numb (10, 0, 0, 0) + n) = a := ⟨_, rfl⟩
      rw [show adrN (num4 10 0 0 0 + (n : Int)) = adC (adq (numb (10, 0, 0, 0) + n)) from rfl, hev] at hAj
      rw [hev] at hout
      unfold adC adr at hAj
      simp only at hAj
      have HA := Lib.hid hAj
      have hW := Lib.hid fun (W : World) (hW : Fr [] wr W) => by have := ex_who_out (e0, e1, e2, e3) (by rw [← hev]; exact adq_ok _) (hP.fr0 hW) hout; unfold kyC adC adr at this; simpa only using this
      clear hAj hev hout hP hjl hj
      go_wp2_with fail
      refine (HA.out _).mono ?_
      rintro e w5 ⟨rfl, hG⟩
      go_wp2_with fail
      refine (hW.out _ hG).mono ?_
      rintro e w6 ⟨rfl, hG2⟩
      have hF7 := (hF.trans (hG.trans hG2)).alloc (.cells #[.int .i64 0, .int .i64 0] 36 (0, 0))
      clear hW HA hG hG2 q0 q1 q2 q3 hQ hF
      go_wp2_with fail
      refine (alive16 _).mono ?_
      rintro e w8 ⟨rfl, hG⟩
      go_wp2_with fail
      go_ret
      exact ⟨rfl, (hF7.trans hG).below (Nat.le_refl _) (by simp)⟩
set_option maxRecDepth 100000 in
set_option maxHeartbeats 4000000 in
theorem poolApart_walk (w : World) (n : Int) (n0 : -9223372036854775808 ≤ n) (n1 : n ≤ 9223372036854775807) (a : Option Addr) (len cap : Nat) (l : List OpR) (hl : IsOps w a len cap l) :
    Calls Try.prog 6 #[.int .i64 n, .slice a len cap] w fun e w' => e = .returned (.bool true) ∧ Below w.heap.size w w' := by
  have hmax := hl.2.2.1
  have hcap := hl.2.1
  unfold maxLen at hmax
  by_cases hE : 1 ≤ n ∧ n ≤ 256
  · obtain ⟨m, rfl⟩ : ∃ m : Nat, n = m := ⟨n.toNat, by omega⟩
    by_cases h50 : len ≤ 300
    · exact apart_small w m a len cap l hl (by omega) (by omega) h50
    · have P1 := Lib.hid fun (W : World) => plnew_ok (w := W) (10, 0, 0, 0) m (by unfold AdOk u8; decide) (by omega) (by omega) (by show (167772160 : Int) + m ≤ _; omega)
      have h51 : (300 : Int) < len := by omega
      clear hl hE h50
      go_enter Try.func6, Try.ntmps6
      go_wp2_with fail
      refine (P1.out _).mono ?_
      rintro e w1 ⟨g, bh, bw, rfl, hg, hbh, hbw, hP, hF1⟩
      clear hP
      go_wp2_with fail
      refine (alive16 _).mono ?_
      rintro e w2 ⟨rfl, hF2⟩
      go_wp2_with fail
      go_ret
      exact ⟨rfl, ((((Fr.refl _ _).alloc _).trans hF1).trans hF2).below (Nat.le_refl _) (by simp)⟩
  · have P1 := Lib.hid fun (W : World) => plnew_bad (w := W) (10, 0, 0, 0) n (by unfold AdOk u8; decide) n0 n1 (by omega)
    clear hl hE
    go_enter Try.func6, Try.ntmps6
    go_wp2_with fail
    refine (P1.out _).mono ?_
    rintro e w1 ⟨rfl, hF1⟩
    go_wp2_with fail
    refine (alive16 _).mono ?_
    rintro e w2 ⟨rfl, hF2⟩
    go_wp2_with fail
    go_ret
    exact ⟨rfl, ((((Fr.refl _ _).alloc _).trans hF1).trans hF2).below (Nat.le_refl _) (by simp)⟩
end Go.Proofs.Ytnenmgankgadcaa
