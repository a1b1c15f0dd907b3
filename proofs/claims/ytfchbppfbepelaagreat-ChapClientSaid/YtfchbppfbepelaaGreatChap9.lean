/- chap's client of the document: Take. -/
import Derived.Test.YtfchbppfbepelaaGreatChap8
import Derived.Test.YtfchbppfbepelaaGreatRChap
namespace Go.Proofs.YtfchbppfbepelaaGreat
open Go.RowKit
set_option linter.unusedVariables false
section
variable {w : World} {g : Nat} {n s : List UInt8} {sd : Bool} {id : Int} {x y : Bool}
def DSayC (w : World) (g : Nat) (n s : List UInt8) (i : Int) (v : List UInt8) (x y : Bool) (e : Ending) (w' : World) : Prop :=
  ∃ g', e = .returned (.slice (some ⟨g', 0, none⟩) 1 1) ∧ w.heap.size ≤ g' ∧ Blk w' g' (pkt 2 i (.slice none 0 0) (pvL (md5 (chapL i s v)) n)) 56 ∧ Blk w' g (dch n s x y true i) 83 ∧ Fr [g] w w'
theorem dctS {w w1 w3 : World} {g b : Nat} {n s : List UInt8} {sd : Bool} {id i : Int} {x y : Bool} {pA : Option Addr} {pn cap : Nat} {D : List UInt8}
    (h : (w1.cell? ⟨b, 1, none⟩ = some (.int .i64 i) ∧ w1.cell? ⟨g, 1, none⟩ = some (.string (B s)) ∧ w1.cell? ⟨g, 0, none⟩ = some (.string (B n))) ∧ Blk w1 b #[.int .i64 1, .int .i64 i, .slice pA pn cap, .string (B D)] 56 ∧ Blk w1 g (dch n s x y sd id) 83 ∧ Fr [g] w w1) (hF : Fr [] w1 w3) :
    (w3.cell? ⟨b, 1, none⟩ = some (.int .i64 i) ∧ w3.cell? ⟨g, 1, none⟩ = some (.string (B s)) ∧ w3.cell? ⟨g, 0, none⟩ = some (.string (B n))) ∧ Blk w3 b #[.int .i64 1, .int .i64 i, .slice pA pn cap, .string (B D)] 56 ∧ Blk w3 g (dch n s x y sd id) 83 ∧ Fr [g] w w3 := by
  obtain ⟨_, hp, hB, hF1⟩ := h
  have hp3 := hF.blk hp (by simp)
  have hB3 := hF.blk hB (by simp)
  exact ⟨⟨hp3.c 1 _ rfl, hB3.c 1 _ rfl, hB3.c 0 _ rfl⟩, hp3, hB3, hF1.trans (hF.mono (by simp))⟩
set_option maxRecDepth 100000 in
set_option maxHeartbeats 4000000 in
theorem dtake_chal (i : Int) (i0 : -9223372036854775808 ≤ i) (i1 : i ≤ 9223372036854775807) (pA : Option Addr) (pn cap : Nat) (D : List UInt8) (hD : gvE D = 0) (hDl : D.length ≤ 1000) (hn : n.length ≤ 60) (hs : s.length ≤ 60) (hB : Blk w g (dch n s x y sd id) 83) :
    Calls Tryz.prog 32 #[.pointer (some ⟨g, 0, none⟩), .agg #[.int .i64 1, .int .i64 i, .slice pA pn cap, .string (B D)]] w (DSayC w g n s i (gvV D) x y) := by
  have hvl := gvV_le D hD hDl
  have HG := Lib.hid fun W => rgetValue_any D W (by omega)
  have HC := Lib.hid fun W => rchap_any i s (gvV D) W i0 i1 (by omega) (by omega)
  have m16 := md5_length (chapL i s (gvV D))
  have HP := Lib.hid fun W => rputValue_any (md5 (chapL i s (gvV D))) n W (by omega) (by omega)
  rw [pv_md5 _ n hn] at HP
  rw [hD] at HG
  unfold DSayC
  obtain ⟨M, hM⟩ : ∃ M, md5 (chapL i s (gvV D)) = M := ⟨_, rfl⟩
  obtain ⟨vv, hvv⟩ : ∃ v, gvV D = v := ⟨_, rfl⟩
  rw [hM] at HP
  rw [hvv] at HG HC
  rw [hvv] at hM
  rw [hM] at HC
  rw [hvv, hM]
  clear m16 hM hvv hD hvl
  have hp := Blk.new w #[.int .i64 1, .int .i64 i, .slice pA pn cap, .string (B D)] 56
  have hB1 := hB.alloc (.cells #[.int .i64 1, .int .i64 i, .slice pA pn cap, .string (B D)] 56)
  have hF1 : Fr [g] w (w.alloc (.cells #[.int .i64 1, .int .i64 i, .slice pA pn cap, .string (B D)] 56)) := (Fr.refl _ _).alloc _
  have hgl := hB.lt
  have e3 : (w.alloc (.cells #[.int .i64 1, .int .i64 i, .slice pA pn cap, .string (B D)] 56)).cell? ⟨w.heap.size, 0, none⟩ = some (.int .i64 1) := hp.c 0 _ rfl
  have e4 : (w.alloc (.cells #[.int .i64 1, .int .i64 i, .slice pA pn cap, .string (B D)] 56)).cell? ⟨w.heap.size, 3, none⟩ = some (.string (B D)) := hp.c 3 _ rfl
  clear hB
  go_enter Tryz.func32, Tryz.ntmps32
  go_wp2_with fail
  refine (HG.out _).mono ?_
  rintro e w1 ⟨rfl, hF2⟩
  have hB2 := hF2.blk hB1 (by simp)
  have hp2 := hF2.blk hp (by simp)
  have hF3 := hF1.trans (hF2.mono (by simp))
  have p1 : w1.cell? ⟨w.heap.size, 1, none⟩ = some (.int .i64 i) := hp2.c 1 _ rfl
  have c4 : w1.cell? ⟨g, 4, none⟩ = some (.bool sd) := hB2.c 4 _ rfl
  have c5 : w1.cell? ⟨g, 5, none⟩ = some (.int .i64 id) := hB2.c 5 _ rfl
  have f4 := hB2.fz 4
  have f5 := hB2.fz 5
  have HX : Hid (Blk ((w1.setCell ⟨g, 4, none⟩ (.bool true)).setCell ⟨g, 5, none⟩ (.int .i64 i)).drew g (dch n s x y true i) 83 ∧ Blk ((w1.setCell ⟨g, 4, none⟩ (.bool true)).setCell ⟨g, 5, none⟩ (.int .i64 i)).drew w.heap.size #[.int .i64 1, .int .i64 i, .slice pA pn cap, .string (B D)] 56 ∧ Fr [g] w ((w1.setCell ⟨g, 4, none⟩ (.bool true)).setCell ⟨g, 5, none⟩ (.int .i64 i)).drew) := Lib.hid (by
    refine ⟨?_, ?_, ?_⟩
    · have := ((hB2.set 4 (.bool true)).set 5 (.int .i64 i)).drew
      simpa [dch] using this
    · exact ((hp2.set_other ⟨g, 4, none⟩ (by simp; omega) _).set_other ⟨g, 5, none⟩ (by simp; omega) _).drew
    · exact ((hF3.setCell (by simp) _).setCell (by simp) _).drew)
  clear e3 e4 hB1 hp hF1 hF2 hB2 hp2 hF3
  go_wp2_with fail
  go_region
  all_goals
    obtain ⟨W, hW⟩ : ∃ W, ((w1.setCell ⟨g, 4, none⟩ (.bool true)).setCell ⟨g, 5, none⟩ (.int .i64 i)).drew = W := ⟨_, rfl⟩
    rw [hW] at HX
    have HW := Lib.hid hW
    clear hW c4 c5 f4 f5 p1
    rw [HW.out]
    obtain ⟨hB2, hp2, hF3⟩ := HX.out
    have HWB := Lib.hid hB2
    go_wp2_with fail
    have hG : (W.drew.cell? ⟨w.heap.size, 1, none⟩ = some (.int .i64 i) ∧ W.drew.cell? ⟨g, 1, none⟩ = some (.string (B s)) ∧ W.drew.cell? ⟨g, 0, none⟩ = some (.string (B n))) ∧ Blk W.drew w.heap.size #[.int .i64 1, .int .i64 i, .slice pA pn cap, .string (B D)] 56 ∧ Blk W.drew g (dch n s x y true i) 83 ∧ Fr [g] w W.drew := ⟨⟨hp2.drew.c 1 _ rfl, hB2.drew.c 1 _ rfl, hB2.drew.c 0 _ rfl⟩, hp2.drew, hB2.drew, hF3.drew⟩
    clear hB2 hp2 hF3
    go_region_held3 (fun w' => (w'.cell? ⟨w.heap.size, 1, none⟩ = some (.int .i64 i) ∧ w'.cell? ⟨g, 1, none⟩ = some (.string (B s)) ∧ w'.cell? ⟨g, 0, none⟩ = some (.string (B n))) ∧ Blk w' w.heap.size #[.int .i64 1, .int .i64 i, .slice pA pn cap, .string (B D)] 56 ∧ Blk w' g (dch n s x y true i) 83 ∧ Fr [g] w w')
      (first | exact hG | assumption | exact dctS (by assumption) (by assumption))
      (first
        | (go_at_call 189; ((with_reducible refine (HC.out _).mono ?_); rintro e w3 ⟨rfl, hF3⟩))
        | (go_at_call 188; ((with_reducible refine (HP.out _).mono ?_); rintro e w3 ⟨rfl, hF3⟩)))
    all_goals
      have hS : (w3.cell? ⟨w.heap.size, 1, none⟩ = some (.int .i64 i) ∧ w3.cell? ⟨g, 1, none⟩ = some (.string (B s)) ∧ w3.cell? ⟨g, 0, none⟩ = some (.string (B n))) ∧ Blk w3 w.heap.size #[.int .i64 1, .int .i64 i, .slice pA pn cap, .string (B D)] 56 ∧ Blk w3 g (dch n s x y true i) 83 ∧ Fr [g] w w3 := by assumption
      obtain ⟨_, hp4, hB4, hF4⟩ := hS
      clear hG HC HP HG
      have hl4 := hF4.size
      have p1 : w3.cell? ⟨w.heap.size, 1, none⟩ = some (.int .i64 i) := hp4.c 1 _ rfl
      have HN := Lib.hid (Blk.new w3 (pkt 2 i (.slice none 0 0) (pvL M n)) 56)
      have HB5 := Lib.hid hB4
      have HF5 := Lib.hid hF4
      clear hp4 hB4 hF4
      go_wp2_with fail
      go_ret
      exact ⟨w3.heap.size, rfl, hl4, HN.out, HB5.out.alloc _, HF5.out.alloc _⟩
set_option maxRecDepth 100000 in
set_option maxHeartbeats 2000000 in
theorem dtake_bad (i : Int) (pA : Option Addr) (pn cap : Nat) (D : List UInt8) (hD : gvE D ≠ 0) (hDl : D.length ≤ 1000) (hB : Blk w g (dch n s x y sd id) 83) :
    Calls Tryz.prog 32 #[.pointer (some ⟨g, 0, none⟩), .agg #[.int .i64 1, .int .i64 i, .slice pA pn cap, .string (B D)]] w fun e w' => e = .returned (.slice none 0 0) ∧ Fr [] w w' := by
  have HG := Lib.hid fun W => rgetValue_any D W (by omega)
  obtain ⟨E, hE⟩ : ∃ E, gvE D = E := ⟨_, rfl⟩
  rw [hE] at HG hD
  have he : (E != 0) = true := by simpa using hD
  have hp := Blk.new w #[.int .i64 1, .int .i64 i, .slice pA pn cap, .string (B D)] 56
  have hF1 : Fr [] w (w.alloc (.cells #[.int .i64 1, .int .i64 i, .slice pA pn cap, .string (B D)] 56)) := (Fr.refl _ _).alloc _
  have e3 : (w.alloc (.cells #[.int .i64 1, .int .i64 i, .slice pA pn cap, .string (B D)] 56)).cell? ⟨w.heap.size, 0, none⟩ = some (.int .i64 1) := hp.c 0 _ rfl
  have e4 : (w.alloc (.cells #[.int .i64 1, .int .i64 i, .slice pA pn cap, .string (B D)] 56)).cell? ⟨w.heap.size, 3, none⟩ = some (.string (B D)) := hp.c 3 _ rfl
  clear hB hp hE
  go_enter Tryz.func32, Tryz.ntmps32
  go_wp2_with fail
  refine (HG.out _).mono ?_
  rintro e w1 ⟨rfl, hF2⟩
  have HF := Lib.hid (hF1.trans hF2)
  clear e3 e4 hF1 hF2
  go_wp2_with fail
  go_ret
  exact ⟨rfl, HF.out⟩
set_option maxRecDepth 100000 in
set_option maxHeartbeats 2000000 in
theorem dtake_other (c i : Int) (pA : Option Addr) (pn cap : Nat) (D : List UInt8) (hc : c ≠ 1) (hB : Blk w g (dch n s x y sd id) 83) :
    Calls Tryz.prog 32 #[.pointer (some ⟨g, 0, none⟩), .agg #[.int .i64 c, .int .i64 i, .slice pA pn cap, .string (B D)]] w fun e w' => e = .returned (.slice none 0 0) ∧ Blk w' g (dchS n s (CS.take ⟨sd, id, x, y⟩ c i D)) 83 ∧ Fr [g] w w' := by
  have hc1 : (c == 1) = false := by simpa using hc
  have hp := Blk.new w #[.int .i64 c, .int .i64 i, .slice pA pn cap, .string (B D)] 56
  have hB1 := hB.alloc (.cells #[.int .i64 c, .int .i64 i, .slice pA pn cap, .string (B D)] 56)
  have hF1 : Fr [g] w (w.alloc (.cells #[.int .i64 c, .int .i64 i, .slice pA pn cap, .string (B D)] 56)) := (Fr.refl _ _).alloc _
  have hgl := hB.lt
  obtain ⟨W, hW⟩ : ∃ W, w.alloc (.cells #[.int .i64 c, .int .i64 i, .slice pA pn cap, .string (B D)] 56) = W := ⟨_, rfl⟩
  rw [hW] at hp hB1 hF1
  have p0 : W.cell? ⟨w.heap.size, 0, none⟩ = some (.int .i64 c) := hp.c 0 _ rfl
  have p1 : W.cell? ⟨w.heap.size, 1, none⟩ = some (.int .i64 i) := hp.c 1 _ rfl
  have c2 : W.cell? ⟨g, 2, none⟩ = some (.bool x) := hB1.c 2 _ rfl
  have c3 : W.cell? ⟨g, 3, none⟩ = some (.bool y) := hB1.c 3 _ rfl
  have c4 : W.cell? ⟨g, 4, none⟩ = some (.bool sd) := hB1.c 4 _ rfl
  have c5 : W.cell? ⟨g, 5, none⟩ = some (.int .i64 id) := hB1.c 5 _ rfl
  have f2 := hB1.fz 2
  have f3 := hB1.fz 3
  have hz0 : (w.alloc (.cells #[.int .i64 c, .int .i64 i, .slice pA pn cap, .string (B D)] 56)).cell? ⟨w.heap.size, 0, none⟩ = some (.int .i64 c) := by rw [hW]; exact p0
  have HW := Lib.hid hW
  have HB1 := Lib.hid hB1
  have HF1 := Lib.hid hF1
  have HY : Hid (∀ (q : Bool) N, Blk (((W.drewN N).setCell ⟨g, 2, none⟩ (.bool true)).setCell ⟨g, 3, none⟩ (.bool q)) g (dch n s true q sd id) 83 ∧ Fr [g] w (((W.drewN N).setCell ⟨g, 2, none⟩ (.bool true)).setCell ⟨g, 3, none⟩ (.bool q))) := Lib.hid fun q N => by
    refine ⟨?_, ((hF1.drewN N).setCell (by simp) _).setCell (by simp) _⟩
    have := ((hB1.drewN N).set 2 (.bool true)).set 3 (.bool q)
    simpa [dch] using this
  clear hW hB hp hB1 hF1
  by_cases h : sd = true ∧ i = id ∧ (c = 3 ∨ c = 4)
  · obtain ⟨rfl, rfl, h34⟩ := h
    have e2 : CS.take ⟨true, i, x, y⟩ c i D = ⟨true, i, true, c == 3⟩ := by unfold CS.take; rw [if_neg hc, if_pos ⟨rfl, rfl, h34⟩]
    rw [e2]
    clear e2
    rcases h34 with rfl | rfl
    all_goals
      go_enter Tryz.func32, Tryz.ntmps32
      go_wp2_with fail
      rw [HW.out]
      clear hz0
      go_quiet (fail)
      go_wp2
      go_region
      all_goals
        go_wp2
        go_ret
        exact ⟨rfl, HY.out _ _⟩
  · have e2 : CS.take ⟨sd, id, x, y⟩ c i D = ⟨sd, id, x, y⟩ := by unfold CS.take; rw [if_neg hc, if_neg h]
    rw [e2]
    clear e2 HY
    have h' : ((c == 3) = false ∧ (c == 4) = false) ∨ ((c == 3) = true ∨ (c == 3) = false ∧ (c == 4) = true) ∧ (sd = false ∨ sd = true ∧ (i == id) = false) := by
      by_cases h3 : c = 3
      · right
        refine ⟨Or.inl (by simpa using h3), ?_⟩
        cases sd with
        | false => exact Or.inl rfl
        | true => exact Or.inr ⟨rfl, by simpa using fun e => h ⟨rfl, e, Or.inl h3⟩⟩
      · by_cases h4 : c = 4
        · right
          refine ⟨Or.inr ⟨by simpa using h3, by simpa using h4⟩, ?_⟩
          cases sd with
          | false => exact Or.inl rfl
          | true => exact Or.inr ⟨rfl, by simpa using fun e => h ⟨rfl, e, Or.inr h4⟩⟩
        · left
          exact ⟨by simpa using h3, by simpa using h4⟩
    clear h hc
    rcases h' with ⟨h3, h4⟩ | ⟨h3 | ⟨h3, h4⟩, rfl | ⟨rfl, hi⟩⟩
    · go_enter Tryz.func32, Tryz.ntmps32
      go_wp2_with fail
      go_ret
      exact ⟨rfl, by rw [HW.out]; exact HB1.out, by rw [HW.out]; exact HF1.out⟩
    all_goals
      go_enter Tryz.func32, Tryz.ntmps32
      go_wp2_with fail
      rw [HW.out]
      clear hz0
      go_quiet (fail)
      go_wp2
      go_ret
      exact ⟨rfl, HB1.out.drewN _, HF1.out.drewN _⟩
theorem dchTake {st : CS} (c i : Int) (i0 : -9223372036854775808 ≤ i) (i1 : i ≤ 9223372036854775807) (pA : Option Addr) (pn cap : Nat) (D : List UInt8) (hDl : D.length ≤ 1000) (hn : n.length ≤ 60) (hs : s.length ≤ 60) (hB : Blk w g (dchS n s st) 83) :
    Calls Tryz.prog 32 #[.pointer (some ⟨g, 0, none⟩), .agg #[.int .i64 c, .int .i64 i, .slice pA pn cap, .string (B D)]] w fun e w' => ∃ v, e = .returned v ∧ PkO w.heap.size w' v (CS.out n s c i D) ∧ Blk w' g (dchS n s (st.take c i D)) 83 ∧ Fr [g] w w' := by
  obtain ⟨sd, id, x, y⟩ := st
  by_cases hc : c = 1
  · subst hc
    by_cases hD : gvE D = 0
    · refine (dtake_chal i i0 i1 pA pn cap D hD hDl hn hs hB).mono ?_
      rintro e w' ⟨g', rfl, hg, hP, hC, hF⟩
      have e1 : CS.out n s 1 i D = [(2, i, pvL (md5 (chapL i s (gvV D))) n)] := by unfold CS.out; rw [if_pos ⟨rfl, hD⟩]
      have e2 : CS.take ⟨sd, id, x, y⟩ 1 i D = ⟨true, i, x, y⟩ := by unfold CS.take; rw [if_pos rfl, if_pos hD]
      rw [e1, e2]
      exact ⟨_, rfl, PkO.one hP hg, hC, hF⟩
    · refine (dtake_bad i pA pn cap D hD hDl hB).mono ?_
      rintro e w' ⟨rfl, hF⟩
      have e1 : CS.out n s 1 i D = [] := by unfold CS.out; rw [if_neg (fun h => hD h.2)]
      have e2 : CS.take ⟨sd, id, x, y⟩ 1 i D = ⟨sd, id, x, y⟩ := by unfold CS.take; rw [if_pos rfl, if_neg hD]
      rw [e1, e2]
      exact ⟨_, rfl, PkO.nil _ _, hF.blk hB (by simp), hF.mono (by simp)⟩
  · refine (dtake_other c i pA pn cap D hc hB).mono ?_
    rintro e w' ⟨rfl, hC, hF⟩
    have e1 : CS.out n s c i D = [] := by unfold CS.out; rw [if_neg (fun h => hc h.1)]
    rw [e1]
    exact ⟨_, rfl, PkO.nil _ _, hC, hF⟩
end
end Go.Proofs.YtfchbppfbepelaaGreat
