/- the document's store: judge, Pap, Chap, Wrong, New. -/
import Derived.Test.YtpljdnocdhppmaaDSto2
import Derived.Test.YtpljdnocdhppmaaRChap
namespace Go.Proofs.Ytpljdnocdhppmaa
open Go.RowKit Go.Maps
set_option linter.unusedVariables false
theorem list_set_self {α : Type} (l : List α) (i : Nat) (x : α) (h : l[i]? = some x) : l.set i x = l := by
  apply List.ext_getElem?
  intro j
  rw [List.getElem?_set]
  by_cases hij : i = j
  · subst hij
    have := (List.getElem?_eq_some_iff.1 h).1
    rw [if_pos rfl, if_pos this, h]
  · rw [if_neg hij]
section
variable {w : World} {g : Nat} {lim calm : Int} {r : Value} {D : List DK}
theorem DSt.put_ {q cap : Nat} (h : DSt w g lim calm (.slice (some ⟨q, 0, none⟩) D.length cap) D) (i : Nat) (x x' : DK) (hi : D[i]? = some x) (c : Nat) (hc : c < 5) (u : Value) (hx : dkL x' = (dkL x).set c u) :
    DSt (w.setCell ⟨q, i * 5 + c, none⟩ u) g lim calm (.slice (some ⟨q, 0, none⟩) D.length cap) (D.set i x') := by
  have hne := h.ne q rfl
  refine ⟨h.st.set_other _ (Ne.symm hne) _, ?_⟩
  rw [List.length_set, rowF_set dkL_len D i x x' hi c hc u hx]
  exact (h.row.stored (i * 5 + c) u).1
set_option maxRecDepth 100000 in
set_option maxHeartbeats 4000000 in
theorem dsjudge_any (i : Nat) (who : Who) (k : Kn) (hi : D[i]? = some (who, k)) (b : Bool) (t : Int) (t0 : -9223372036854775808 ≤ t) (t1 : t ≤ 9223372036854775807) (hk : KnOk k) (hkw : k.wr ≤ 1000000) (l0 : 0 ≤ lim) (l1 : lim ≤ 100) (c0 : 1 ≤ calm) (c1 : calm ≤ 1000) (hl : D.length ≤ 1000) (h : DSt w g lim calm r D) :
    Calls Try.prog 60 #[.pointer (some ⟨g, 0, none⟩), .int .i64 i, .bool b, .int .i64 t] w fun e w' => e = .returned (.int .i64 (tryE lim calm t (fun _ => b) (some k))) ∧ DSt w' g lim calm r (D.set i (who, tryK lim calm t (fun _ => b) k)) ∧ Fr r.ownBlock.toList w w' := by
  obtain ⟨A, cap, rfl⟩ := rown_slice h.row
  obtain ⟨q, rfl, hq, hcell⟩ := RAt.of_own dkL_len h.row i _ hi
  have hil : i < D.length := (List.getElem?_eq_some_iff.1 hi).1
  have hcp := rown_caps h.row
  have SH := Lib.hid (dshut_any i who k hi t t0 t1 hk l0 l1 c0 c1 hl h)
  have HH := Lib.hid h
  have HI := Lib.hid hi
  have HKW : Hid (0 ≤ k.wr ∧ k.wr ≤ 1000000) := Lib.hid ⟨hk.2.2.1, hkw⟩
  have hfz := fun j => h.row.frozenAt j
  have hiI : (i : Int) < D.length := by omega
  have g2 : ∀ W, Fr [] w W → W.cell? ⟨g, 2, none⟩ = some (.slice (some ⟨q, 0, none⟩) D.length cap) ∧ W.cell? ⟨q, i * 5 + 3, none⟩ = some (.int .i64 k.wr) ∧ W.cell? ⟨q, i * 5 + 4, none⟩ = some (.int .i64 k.la) ∧ W.frozen? ⟨q, i * 5 + 3, none⟩ = false ∧ W.frozen? ⟨q, i * 5 + 4, none⟩ = false := fun W hW => ⟨(hW.blk h.st (by simp)).c 2 _ rfl, hcell W hW 3 _ rfl, hcell W hW 4 _ rfl, (h.fr0 hW).row.frozenAt _, (h.fr0 hW).row.frozenAt _⟩
  have G2 := Lib.hid g2
  obtain ⟨sb, hsb⟩ : ∃ x, shutB lim calm k t = x := ⟨_, rfl⟩
  rw [hsb] at SH
  unfold tryE tryK
  simp only [hsb]
  clear h hi hcell hfz g2 hk hkw hsb hcp
  go_enter Try.func60, Try.ntmps60
  go_wp2_with fail
  refine SH.out.mono ?_
  rintro e w1 ⟨rfl, hF1⟩
  have HF1 := Lib.hid hF1
  obtain ⟨x0, x1, x4, x2, x3⟩ := G2.out _ hF1
  clear hF1 SH
  cases sb with
  | true =>
    clear x0 x1 x2 x3 x4
    go_wp2_with fail
    go_ret
    refine ⟨rfl, ?_, HF1.out.mono (by simp)⟩
    try simp only [if_true]
    rw [list_set_self D i _ HI.out]
    exact HH.out.fr0 HF1.out
  | false =>
    cases b with
    | true =>
      go_wp2_with fail
      go_ret
      refine ⟨rfl, ?_, (HF1.out.mono (by simp)).setCell (by simp [Value.ownBlock]) _⟩
      try simp only [Bool.false_eq_true, if_false, if_true]
      exact (HH.out.fr0 HF1.out).put_ i _ (who, okK k) HI.out 3 (by decide) _ rfl
    | false =>
      have hkw1 : IntKind.i64.wrap (k.wr + 1) = k.wr + 1 := by rw [IntKind.wrap_i64]; have := HKW.out; omega
      have hmin : min (k.wr + 1) 2147483647 = k.wr + 1 := by have := HKW.out; omega
      have HMIN := Lib.hid hmin
      clear hmin
      go_wp2_with fail
      go_ret
      refine ⟨rfl, ?_, ((HF1.out.mono (by simp)).setCell (by simp [Value.ownBlock]) _).setCell (by simp [Value.ownBlock]) _⟩
      try simp only [Bool.false_eq_true, if_false]
      have h1 := (HH.out.fr0 HF1.out).put_ i _ (who, ⟨k.s, k.wr + 1, k.la⟩) HI.out 3 (by decide) (.int .i64 (k.wr + 1)) rfl
      have hil2 : i < D.length := hil
      have hi2 : (D.set i (who, (⟨k.s, k.wr + 1, k.la⟩ : Kn)))[i]? = some (who, ⟨k.s, k.wr + 1, k.la⟩) := by rw [List.getElem?_set_self hil2]
      have hl2 : (D.set i (who, (⟨k.s, k.wr + 1, k.la⟩ : Kn))).length = D.length := List.length_set
      have h2 := DSt.put_ (D := D.set i (who, ⟨k.s, k.wr + 1, k.la⟩)) (q := q) (cap := cap) (by rw [hl2]; exact h1) i _ (who, badK k t) hi2 4 (by decide) (.int .i64 t) (by unfold badK dkL; simp only [HMIN.out]; rfl)
      rw [hl2, List.set_set] at h2
      exact h2
theorem strB_ne {x y : List UInt8} (h : ¬ x = y) : (B x == B y) = false := by
  show ((B x).data == (B y).data) = false
  rw [beq_eq_false_iff_ne]
  exact fun e => h (B_inj.1 (ByteArray.ext e))
set_option maxRecDepth 100000 in
set_option maxHeartbeats 4000000 in
theorem dspap_none (f s : List UInt8) (t : Int) (hf : f.length ≤ 140737488355328) (hl : D.length ≤ 1000) (hn : dfind D (spN f, spR f) = none) (h : DSt w g lim calm r D) :
    Calls Try.prog 40 #[.pointer (some ⟨g, 0, none⟩), .string (B f), .string (B s), .int .i64 t] w fun e w' => e = .returned (.int .i64 30) ∧ Fr [] w w' := by
  have FD := Lib.hid (dsfind_any f hf hl h)
  rw [hn, show fval none = -1 from rfl] at FD
  clear h hn
  go_enter Try.func40, Try.ntmps40
  go_wp2_with fail
  refine FD.out.mono ?_
  rintro e w1 ⟨rfl, hF1⟩
  go_wp2_with fail
  go_ret
  exact ⟨rfl, hF1⟩
set_option maxRecDepth 100000 in
set_option maxHeartbeats 4000000 in
theorem dspap_some (f s : List UInt8) (t : Int) (i : Nat) (k : Kn) (hf : f.length ≤ 140737488355328) (hl : D.length ≤ 1000) (hn : dfind D (spN f, spR f) = some i) (hi : D[i]? = some ((spN f, spR f), k)) (t0 : -9223372036854775808 ≤ t) (t1 : t ≤ 9223372036854775807) (hk : KnOk k) (hkw : k.wr ≤ 1000000) (l0 : 0 ≤ lim) (l1 : lim ≤ 100) (c0 : 1 ≤ calm) (c1 : calm ≤ 1000) (h : DSt w g lim calm r D) :
    Calls Try.prog 40 #[.pointer (some ⟨g, 0, none⟩), .string (B f), .string (B s), .int .i64 t] w fun e w' => e = .returned (.int .i64 (tryE lim calm t (fun _ => decide (k.s = s)) (some k))) ∧ DSt w' g lim calm r (D.set i ((spN f, spR f), tryK lim calm t (fun _ => decide (k.s = s)) k)) ∧ Fr r.ownBlock.toList w w' := by
  have FD := Lib.hid (dsfind_any f hf hl h)
  rw [hn, show fval (some i) = (i : Int) from rfl] at FD
  have JD := Lib.hid fun W (hW : Fr [] w W) b => dsjudge_any i (spN f, spR f) k hi b t t0 t1 hk hkw l0 l1 c0 c1 hl (h.fr0 hW)
  obtain ⟨A, cap, rfl⟩ := rown_slice h.row
  obtain ⟨q, rfl, hq, hcell⟩ := RAt.of_own dkL_len h.row i _ hi
  have hil : i < D.length := (List.getElem?_eq_some_iff.1 hi).1
  have hcp := rown_caps h.row
  have hiI : (i : Int) < D.length := by omega
  have hi0 : ¬ (i : Int) < 0 := by omega
  have G2 : Hid (∀ W, Fr [] w W → W.cell? ⟨g, 2, none⟩ = some (.slice (some ⟨q, 0, none⟩) D.length cap) ∧ W.cell? ⟨q, i * 5 + 2, none⟩ = some (.string (B k.s))) := Lib.hid fun W hW => ⟨(hW.blk h.st (by simp)).c 2 _ rfl, hcell W hW 2 _ rfl⟩
  clear h hn hi hcell hcp
  go_enter Try.func40, Try.ntmps40
  go_wp2_with fail
  refine FD.out.mono ?_
  rintro e w1 ⟨rfl, hF1⟩
  obtain ⟨x0, x1⟩ := G2.out _ hF1
  have JD1 := Lib.hid (JD.out w1 hF1)
  have HF1 := Lib.hid hF1
  clear hF1 FD JD
  by_cases he : k.s = s
  · have HE := Lib.hid he
    rw [he] at x1
    clear he
    go_wp2_with fail
    refine (JD1.out true).mono ?_
    rintro e w2 ⟨rfl, hD, hF2⟩
    have HR := Lib.hid (And.intro hD ((HF1.out.mono (by simp)).trans hF2))
    clear hD hF2 x0 x1
    go_wp2_with fail
    go_ret
    first | exact ⟨rfl, HR.out.1, HR.out.2⟩ | (rw [decide_eq_true HE.out]; exact ⟨rfl, HR.out.1, HR.out.2⟩)
  · have hs1 := strB_ne he
    have hs2 : (k.s == s) = false := by simpa using he
    have hs3 : ¬ B k.s = B s := fun e => he (B_inj.1 e)
    have HE := Lib.hid he
    go_wp2_with fail
    refine (JD1.out false).mono ?_
    rintro e w2 ⟨rfl, hD, hF2⟩
    have HR := Lib.hid (And.intro hD ((HF1.out.mono (by simp)).trans hF2))
    clear hD hF2 x0 x1
    go_wp2_with fail
    go_ret
    rw [decide_eq_false HE.out]
    exact ⟨rfl, HR.out.1, HR.out.2⟩
set_option maxRecDepth 100000 in
set_option maxHeartbeats 4000000 in
theorem dschap_none (f v s : List UInt8) (id t : Int) (hf : f.length ≤ 140737488355328) (hl : D.length ≤ 1000) (hn : dfind D (spN f, spR f) = none) (h : DSt w g lim calm r D) :
    Calls Try.prog 41 #[.pointer (some ⟨g, 0, none⟩), .string (B f), .int .i64 id, .string (B v), .string (B s), .int .i64 t] w fun e w' => e = .returned (.int .i64 30) ∧ Fr [] w w' := by
  have FD := Lib.hid (dsfind_any f hf hl h)
  rw [hn, show fval none = -1 from rfl] at FD
  clear h hn
  go_enter Try.func41, Try.ntmps41
  go_wp2_with fail
  refine FD.out.mono ?_
  rintro e w1 ⟨rfl, hF1⟩
  go_wp2_with fail
  go_ret
  exact ⟨rfl, hF1⟩
set_option maxRecDepth 100000 in
set_option maxHeartbeats 4000000 in
theorem dschap_some (f v s : List UInt8) (id t : Int) (i : Nat) (k : Kn) (hf : f.length ≤ 140737488355328) (hv : v.length ≤ 1000) (hks : k.s.length ≤ 1000) (i0 : -9223372036854775808 ≤ id) (i1 : id ≤ 9223372036854775807) (hl : D.length ≤ 1000) (hn : dfind D (spN f, spR f) = some i) (hi : D[i]? = some ((spN f, spR f), k)) (t0 : -9223372036854775808 ≤ t) (t1 : t ≤ 9223372036854775807) (hk : KnOk k) (hkw : k.wr ≤ 1000000) (l0 : 0 ≤ lim) (l1 : lim ≤ 100) (c0 : 1 ≤ calm) (c1 : calm ≤ 1000) (h : DSt w g lim calm r D) :
    Calls Try.prog 41 #[.pointer (some ⟨g, 0, none⟩), .string (B f), .int .i64 id, .string (B v), .string (B s), .int .i64 t] w fun e w' => e = .returned (.int .i64 (tryE lim calm t (fun _ => decide (md5 (chapL id k.s v) = s)) (some k))) ∧ DSt w' g lim calm r (D.set i ((spN f, spR f), tryK lim calm t (fun _ => decide (md5 (chapL id k.s v) = s)) k)) ∧ Fr r.ownBlock.toList w w' := by
  have FD := Lib.hid (dsfind_any f hf hl h)
  rw [hn, show fval (some i) = (i : Int) from rfl] at FD
  have CH := Lib.hid fun W => rchap_any id k.s v W i0 i1 (by omega) (by omega)
  have JD := Lib.hid fun W (hW : Fr [] w W) b => dsjudge_any i (spN f, spR f) k hi b t t0 t1 hk hkw l0 l1 c0 c1 hl (h.fr0 hW)
  obtain ⟨A, cap, rfl⟩ := rown_slice h.row
  obtain ⟨q, rfl, hq, hcell⟩ := RAt.of_own dkL_len h.row i _ hi
  have hil : i < D.length := (List.getElem?_eq_some_iff.1 hi).1
  have hcp := rown_caps h.row
  have hiI : (i : Int) < D.length := by omega
  have hi0 : ¬ (i : Int) < 0 := by omega
  have G2 : Hid (∀ W, Fr [] w W → W.cell? ⟨g, 2, none⟩ = some (.slice (some ⟨q, 0, none⟩) D.length cap) ∧ W.cell? ⟨q, i * 5 + 2, none⟩ = some (.string (B k.s))) := Lib.hid fun W hW => ⟨(hW.blk h.st (by simp)).c 2 _ rfl, hcell W hW 2 _ rfl⟩
  obtain ⟨m, hm⟩ : ∃ x, md5 (chapL id k.s v) = x := ⟨_, rfl⟩
  rw [hm] at CH ⊢
  clear h hn hi hcell hcp hm
  go_enter Try.func41, Try.ntmps41
  go_wp2_with fail
  refine FD.out.mono ?_
  rintro e w1 ⟨rfl, hF1⟩
  obtain ⟨x0, x1⟩ := G2.out _ hF1
  have HF1 := Lib.hid hF1
  clear hF1 FD
  go_wp2_with fail
  refine (CH.out _).mono ?_
  rintro e w3 ⟨rfl, hF3⟩
  have hF4 := HF1.out.trans hF3
  have JD1 := Lib.hid (JD.out w3 hF4)
  have HF4 := Lib.hid hF4
  clear hF3 hF4 JD x0 x1
  by_cases he : m = s
  · have HE := Lib.hid he
    subst he
    go_wp2_with fail
    refine (JD1.out true).mono ?_
    rintro e w2 ⟨rfl, hD, hF2⟩
    have HR := Lib.hid (And.intro hD ((HF4.out.mono (by simp)).trans hF2))
    clear hD hF2
    go_wp2_with fail
    go_ret
    first | exact ⟨rfl, HR.out.1, HR.out.2⟩ | (rw [decide_eq_true HE.out]; exact ⟨rfl, HR.out.1, HR.out.2⟩)
  · have hs1 := strB_ne he
    have hs2 : (m == s) = false := by simpa using he
    have hs3 : ¬ B m = B s := fun e => he (B_inj.1 e)
    have HE := Lib.hid he
    go_wp2_with fail
    refine (JD1.out false).mono ?_
    rintro e w2 ⟨rfl, hD, hF2⟩
    have HR := Lib.hid (And.intro hD ((HF4.out.mono (by simp)).trans hF2))
    clear hD hF2
    go_wp2_with fail
    go_ret
    rw [decide_eq_false HE.out]
    exact ⟨rfl, HR.out.1, HR.out.2⟩
set_option maxRecDepth 100000 in
set_option maxHeartbeats 4000000 in
theorem dswrong_any (f : List UInt8) (hf : f.length ≤ 140737488355328) (hl : D.length ≤ 1000) (h : DSt w g lim calm r D) :
    Calls Try.prog 43 #[.pointer (some ⟨g, 0, none⟩), .string (B f)] w fun e w' => e = .returned (.int .i64 (wrongE (((dfind D (spN f, spR f)).bind fun i => D[i]?).map (·.2)))) ∧ Fr [] w w' := by
  have FD := Lib.hid (dsfind_any f hf hl h)
  obtain ⟨o, ho⟩ : ∃ x, dfind D (spN f, spR f) = x := ⟨_, rfl⟩
  rw [ho] at FD ⊢
  cases o with
  | none =>
    rw [show fval none = -1 from rfl] at FD
    clear h ho
    go_enter Try.func43, Try.ntmps43
    go_wp2_with fail
    refine FD.out.mono ?_
    rintro e w1 ⟨rfl, hF1⟩
    go_wp2_with fail
    go_ret
    exact ⟨rfl, hF1⟩
  | some i =>
    rw [show fval (some i) = (i : Int) from rfl] at FD
    obtain ⟨k, hi⟩ := dfind_some ho
    obtain ⟨A, cap, rfl⟩ := rown_slice h.row
    obtain ⟨q, rfl, hq, hcell⟩ := RAt.of_own dkL_len h.row i _ hi
    have hil : i < D.length := (List.getElem?_eq_some_iff.1 hi).1
    have hcp := rown_caps h.row
    have hiI : (i : Int) < D.length := by omega
    have hi0 : ¬ (i : Int) < 0 := by omega
    have G2 : Hid (∀ W, Fr [] w W → W.cell? ⟨g, 2, none⟩ = some (.slice (some ⟨q, 0, none⟩) D.length cap) ∧ W.cell? ⟨q, i * 5 + 3, none⟩ = some (.int .i64 k.wr)) := Lib.hid fun W hW => ⟨(hW.blk h.st (by simp)).c 2 _ rfl, hcell W hW 3 _ rfl⟩
    have hres : wrongE (((some i).bind fun i => D[i]?).map (·.2)) = k.wr := by simp only [Option.bind_some, hi]; rfl
    rw [hres]
    clear h ho hi hcell hcp hres
    go_enter Try.func43, Try.ntmps43
    go_wp2_with fail
    refine FD.out.mono ?_
    rintro e w1 ⟨rfl, hF1⟩
    obtain ⟨x0, x1⟩ := G2.out _ hF1
    go_wp2_with fail
    go_ret
    exact ⟨rfl, hF1⟩
end
section
variable {w : World}
theorem dsnew_ok (lim calm : Int) (l0 : 0 ≤ lim) (l1 : lim ≤ 100) (c0 : 1 ≤ calm) (c1 : calm ≤ 1000) :
    Calls Try.prog 38 #[.int .i64 lim, .int .i64 calm] w fun e w' => ∃ g, e = .returned (.tuple #[.pointer (some ⟨g, 0, none⟩), .int .i64 0]) ∧ w.heap.size ≤ g ∧ DSt w' g lim calm (.slice none 0 0) [] ∧ Fr [] w w' := by
  have h1 : ¬ lim < 0 := by omega
  have h2 : ¬ (100 : Int) < lim := by omega
  have h3 : ¬ calm < 1 := by omega
  have h4 : ¬ (1000 : Int) < calm := by omega
  go_enter Try.func38, Try.ntmps38
  go_wp2_with fail
  go_ret2
  exact ⟨_, rfl, Nat.le_refl _, ⟨Blk.new _ _ _, World.ownsRow_nil _ _ _ _⟩, (Fr.refl _ _).alloc _⟩
theorem dsnew_bad (lim calm : Int) (h : lim < 0 ∨ ¬ lim < 0 ∧ 100 < lim ∨ ¬ lim < 0 ∧ ¬ 100 < lim ∧ calm < 1 ∨ ¬ lim < 0 ∧ ¬ 100 < lim ∧ ¬ calm < 1 ∧ 1000 < calm) :
    Calls Try.prog 38 #[.int .i64 lim, .int .i64 calm] w fun e w' => e = .returned (.tuple #[.pointer none, .int .i64 1]) ∧ Fr [] w w' := by
  rcases h with h | ⟨h1, h⟩ | ⟨h1, h2, h⟩ | ⟨h1, h2, h3, h⟩
  all_goals
    go_enter Try.func38, Try.ntmps38
    go_wp2_with fail
    go_ret2
    exact ⟨rfl, Fr.refl _ _⟩
end
end Go.Proofs.Ytpljdnocdhppmaa
