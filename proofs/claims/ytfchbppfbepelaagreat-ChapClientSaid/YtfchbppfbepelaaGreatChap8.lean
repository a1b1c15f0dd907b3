/- chap's client: one state, one law for each (printed by tools/gen_chap8.py). -/
import Derived.Test.YtfchbppfbepelaaGreatChap7
import Derived.Test.YtfchbppfbepelaaGreatBkPackets
namespace Go.Proofs.YtfchbppfbepelaaGreat
open Go.RowKit
set_option linter.unusedVariables false
/-- a list of packets that was answered -/
def PkO (base : Nat) (w : World) (v : Value) (l : List (Int × Int × List UInt8)) : Prop := w.ownsRow base 56 4 v l.length (rowF pkF l)
theorem PkO.fr {S : List Nat} {base : Nat} {w w' : World} {v : Value} {l : List (Int × Int × List UInt8)} (h : PkO base w v l) (hF : Fr S w w') (hS : ∀ q, v.ownBlock = some q → q ∉ S) : PkO base w' v l := rown_frS h hF hS
theorem PkO.nil (base : Nat) (w : World) : PkO base w (.slice none 0 0) [] := World.ownsRow_nil _ _ _ _
theorem PkO.one {base : Nat} {w : World} {g : Nat} {c i : Int} {d : List UInt8} (h : Blk w g (pkt c i (.slice none 0 0) d) 56) (hb : base ≤ g) : PkO base w (.slice (some ⟨g, 0, none⟩) 1 1) [(c, i, d)] :=
  ⟨rfl, .inr ⟨g, 1, _, rfl, hb, h, Nat.le_refl 1, by unfold maxLen; omega, rfl, rfl⟩⟩
/-- what a client is -/
structure CS where
  sd : Bool
  id : Int
  x : Bool
  y : Bool
def CS.says (c : Int) (D : List UInt8) : Bool := decide (c = 1) && decide (gvE D = 0)
def CS.take (st : CS) (c i : Int) (D : List UInt8) : CS :=
  if c = 1 then (if gvE D = 0 then ⟨true, i, st.x, st.y⟩ else st) else if st.sd = true ∧ i = st.id ∧ (c = 3 ∨ c = 4) then ⟨st.sd, st.id, true, c == 3⟩ else st
def CS.out (n s : List UInt8) (c i : Int) (D : List UInt8) : List (Int × Int × List UInt8) := if c = 1 ∧ gvE D = 0 then [(2, i, pvL (md5 (chapL i s (gvV D))) n)] else []
theorem CS.out_le (n s : List UInt8) (c i : Int) (D : List UInt8) : (CS.out n s c i D).length ≤ 1 := by unfold CS.out; split <;> simp
abbrev cclS (n s : List UInt8) (st : CS) : Array Value := ccl n s true st.sd st.id st.x st.y
section
variable {w : World} {g : Nat} {n s : List UInt8} {m sd : Bool} {id : Int} {x y : Bool}
def CSayB (w : World) (g : Nat) (n s : List UInt8) (i : Int) (v : List UInt8) (x y : Bool) (e : Ending) (w' : World) : Prop :=
  ∃ g', e = .returned (.slice (some ⟨g', 0, none⟩) 1 1) ∧ w.heap.size ≤ g' ∧ Blk w' g' (pkt 2 i (.slice none 0 0) (pvL (md5 (chapL i s v)) n)) 56 ∧ Blk w' g (ccl n s true true i x y) 246 ∧ Fr [g] w w'
set_option maxRecDepth 100000 in
set_option maxHeartbeats 2000000 in
theorem ctake_chalB (i : Int) (pA : Option Addr) (pn cap : Nat) (D : List UInt8) (hD : gvE D = 0) (hDl : D.length ≤ 1000) (hn : n.length ≤ 60) (hs : s.length ≤ 60) (hB : Blk w g (ccl n s true sd id x y) 246) :
    Calls Tryz.prog 31 #[.pointer (some ⟨g, 0, none⟩), .agg #[.int .i64 1, .int .i64 i, .slice pA pn cap, .string (B D)]] w (CSayB w g n s i (gvV D) x y) := by
  have hvl : (gvV D).length ≤ 1000 := by
    cases D with
    | nil => simp [gvV]
    | cons c r => simp only [gvV]; rw [if_pos hD, List.length_take]; simp at hDl; omega
  have HG := Lib.hid fun W => getValue_ok D W hD
  have HC := Lib.hid fun W => chap_any i s (gvV D) W (by omega) (by omega)
  have m16 := md5_length (chapL i s (gvV D))
  have hpv : pvE (md5 (chapL i s (gvV D))) n = 0 := by
    unfold pvE
    rw [if_neg, if_neg (by omega)]
    rintro (h | h)
    · rw [h] at m16; simp at m16
    · omega
  have HP := Lib.hid fun W => putValue_ok (md5 (chapL i s (gvV D))) n W hpv
  unfold CSayB
  obtain ⟨M, hM⟩ : ∃ M, md5 (chapL i s (gvV D)) = M := ⟨_, rfl⟩
  obtain ⟨vv, hvv⟩ : ∃ v, gvV D = v := ⟨_, rfl⟩
  rw [hM] at HP
  rw [hvv] at HG HC
  rw [hvv] at hM
  rw [hM] at HC
  rw [hvv, hM]
  clear m16 hpv hM hvv hD hvl
  have hp := Blk.new w #[.int .i64 1, .int .i64 i, .slice pA pn cap, .string (B D)] 56
  have hB1 := hB.alloc (.cells #[.int .i64 1, .int .i64 i, .slice pA pn cap, .string (B D)] 56)
  have hF1 : Fr [g] w (w.alloc (.cells #[.int .i64 1, .int .i64 i, .slice pA pn cap, .string (B D)] 56)) := (Fr.refl _ _).alloc _
  have hgl := hB.lt
  have hsz1 : w.heap.size < (w.alloc (.cells #[.int .i64 1, .int .i64 i, .slice pA pn cap, .string (B D)] 56)).heap.size := by simp
  have e2 : (w.alloc (.cells #[.int .i64 1, .int .i64 i, .slice pA pn cap, .string (B D)] 56)).cell? ⟨g, 2, none⟩ = some (.bool true) := hB1.c 2 _ rfl
  have e3 : (w.alloc (.cells #[.int .i64 1, .int .i64 i, .slice pA pn cap, .string (B D)] 56)).cell? ⟨w.heap.size, 0, none⟩ = some (.int .i64 1) := hp.c 0 _ rfl
  have e4 : (w.alloc (.cells #[.int .i64 1, .int .i64 i, .slice pA pn cap, .string (B D)] 56)).cell? ⟨w.heap.size, 3, none⟩ = some (.string (B D)) := hp.c 3 _ rfl
  clear hB
  go_enter Tryz.func31, Tryz.ntmps31
  go_wp2_with fail
  refine (HG.out _).mono ?_
  rintro e w1 ⟨rfl, hF2⟩
  have hB2 := hF2.blk hB1 (by simp)
  have hp2 := hF2.blk hp (by simp)
  have hF3 := hF1.trans (hF2.mono (by simp))
  clear e2 e3 e4 hB1 hp hF1 hF2 hsz1
  go_wp2_with fail
  have hG : (w1.drew.cell? ⟨w.heap.size, 1, none⟩ = some (.int .i64 i) ∧ w1.drew.cell? ⟨g, 1, none⟩ = some (.string (B s)) ∧ w1.drew.cell? ⟨g, 0, none⟩ = some (.string (B n))) ∧ Blk w1.drew w.heap.size #[.int .i64 1, .int .i64 i, .slice pA pn cap, .string (B D)] 56 ∧ Blk w1.drew g (ccl n s true sd id x y) 246 ∧ Fr [g] w w1.drew := ⟨⟨hp2.drew.c 1 _ rfl, hB2.drew.c 1 _ rfl, hB2.drew.c 0 _ rfl⟩, hp2.drew, hB2.drew, hF3.drew⟩
  clear hB2 hp2 hF3
  go_region_held3 (fun w' => (w'.cell? ⟨w.heap.size, 1, none⟩ = some (.int .i64 i) ∧ w'.cell? ⟨g, 1, none⟩ = some (.string (B s)) ∧ w'.cell? ⟨g, 0, none⟩ = some (.string (B n))) ∧ Blk w' w.heap.size #[.int .i64 1, .int .i64 i, .slice pA pn cap, .string (B D)] 56 ∧ Blk w' g (ccl n s true sd id x y) 246 ∧ Fr [g] w w')
    (first | exact hG | assumption | exact ctS (by assumption) (by assumption))
    (first
      | (go_at_call 183; ((with_reducible refine (HC.out _).mono ?_); rintro e w3 ⟨rfl, hF3⟩))
      | (go_at_call 186; ((with_reducible refine (HP.out _).mono ?_); rintro e w3 ⟨rfl, hF3⟩)))
  all_goals
    have hS : (w3.cell? ⟨w.heap.size, 1, none⟩ = some (.int .i64 i) ∧ w3.cell? ⟨g, 1, none⟩ = some (.string (B s)) ∧ w3.cell? ⟨g, 0, none⟩ = some (.string (B n))) ∧ Blk w3 w.heap.size #[.int .i64 1, .int .i64 i, .slice pA pn cap, .string (B D)] 56 ∧ Blk w3 g (ccl n s true sd id x y) 246 ∧ Fr [g] w w3 := by assumption
    obtain ⟨_, hp4, hB4, hF4⟩ := hS
    clear hG HC HP HG
    have hl4 := hF4.size
    have p1 : w3.cell? ⟨w.heap.size, 1, none⟩ = some (.int .i64 i) := hp4.c 1 _ rfl
    have c3 : w3.cell? ⟨g, 3, none⟩ = some (.bool sd) := hB4.c 3 _ rfl
    have c4 : w3.cell? ⟨g, 4, none⟩ = some (.int .i64 id) := hB4.c 4 _ rfl
    have f3 := hB4.fz 3
    have f4 := hB4.fz 4
    have hB5 : Blk ((w3.setCell ⟨g, 3, none⟩ (.bool true)).setCell ⟨g, 4, none⟩ (.int .i64 i)) g (ccl n s true true i x y) 246 := by
      have := (hB4.set 3 (.bool true)).set 4 (.int .i64 i)
      simpa [ccl] using this
    have hF5 : Fr [g] w ((w3.setCell ⟨g, 3, none⟩ (.bool true)).setCell ⟨g, 4, none⟩ (.int .i64 i)) := (hF4.setCell (by simp) _).setCell (by simp) _
    have HB5 := Lib.hid hB5
    have HF5 := Lib.hid hF5
    clear hB5 hF5
    go_wp2_with fail
    go_region
    have hN := Blk.new ((w3.setCell ⟨g, 3, none⟩ (.bool true)).setCell ⟨g, 4, none⟩ (.int .i64 i)) (pkt 2 i (.slice none 0 0) (pvL M n)) 56
    have hz : ((w3.setCell ⟨g, 3, none⟩ (.bool true)).setCell ⟨g, 4, none⟩ (.int .i64 i)).heap.size = w3.heap.size := by simp
    rw [hz] at hN
    have HN := Lib.hid hN
    clear hN hz
    all_goals
      go_wp2
      go_ret
      exact ⟨w3.heap.size, rfl, hl4, HN.out.drew, (HB5.out.alloc _).drew, (HF5.out.alloc _).drew⟩
theorem gvV_le (D : List UInt8) (hD : gvE D = 0) (hDl : D.length ≤ 1000) : (gvV D).length ≤ 1000 := by
  cases D with
  | nil => simp [gvV]
  | cons c r => simp only [gvV]; rw [if_pos hD, List.length_take]; simp at hDl; omega
theorem pv_md5 (L : List UInt8) (n : List UInt8) (hn : n.length ≤ 60) : pvE (md5 L) n = 0 := by
  have m16 := md5_length L
  unfold pvE
  rw [if_neg, if_neg (by omega)]
  rintro (h | h)
  · rw [h] at m16; simp at m16
  · omega
set_option maxRecDepth 100000 in
theorem ctake_bad (i : Int) (pA : Option Addr) (pn cap : Nat) (D : List UInt8) (hD : gvE D ≠ 0) (hDl : D.length ≤ 1000) (hB : Blk w g (ccl n s true sd id x y) 246) :
    Calls Tryz.prog 31 #[.pointer (some ⟨g, 0, none⟩), .agg #[.int .i64 1, .int .i64 i, .slice pA pn cap, .string (B D)]] w fun e w' => e = .returned (.slice none 0 0) ∧ Fr [] w w' := by
  have HG := Lib.hid fun W => getValue_bad D W (by omega) hD
  obtain ⟨E, hE⟩ : ∃ E, gvE D = E := ⟨_, rfl⟩
  rw [hE] at HG hD
  have he : (E != 0) = true := by simpa using hD
  have hp := Blk.new w #[.int .i64 1, .int .i64 i, .slice pA pn cap, .string (B D)] 56
  have hB1 := hB.alloc (.cells #[.int .i64 1, .int .i64 i, .slice pA pn cap, .string (B D)] 56)
  have hF1 : Fr [] w (w.alloc (.cells #[.int .i64 1, .int .i64 i, .slice pA pn cap, .string (B D)] 56)) := (Fr.refl _ _).alloc _
  have hgl := hB.lt
  have e2 : (w.alloc (.cells #[.int .i64 1, .int .i64 i, .slice pA pn cap, .string (B D)] 56)).cell? ⟨g, 2, none⟩ = some (.bool true) := hB1.c 2 _ rfl
  have e3 : (w.alloc (.cells #[.int .i64 1, .int .i64 i, .slice pA pn cap, .string (B D)] 56)).cell? ⟨w.heap.size, 0, none⟩ = some (.int .i64 1) := hp.c 0 _ rfl
  have e4 : (w.alloc (.cells #[.int .i64 1, .int .i64 i, .slice pA pn cap, .string (B D)] 56)).cell? ⟨w.heap.size, 3, none⟩ = some (.string (B D)) := hp.c 3 _ rfl
  clear hB hB1 hp hE
  go_enter Tryz.func31, Tryz.ntmps31
  go_wp2_with fail
  refine (HG.out _).mono ?_
  rintro e w1 ⟨rfl, rfl⟩
  have HF := Lib.hid hF1
  clear e2 e3 e4 hF1
  go_wp2_with fail
  go_ret
  exact ⟨rfl, HF.out⟩
set_option maxRecDepth 100000 in
theorem ctake_skip (c i : Int) (pA : Option Addr) (pn cap : Nat) (D : List UInt8) (hc1 : (c == 1) = false) (h : sd = false ∨ sd = true ∧ (i == id) = false ∨ sd = true ∧ (i == id) = true ∧ (c == 3) = false ∧ (c == 4) = false) (hB : Blk w g (ccl n s true sd id x y) 246) :
    Calls Tryz.prog 31 #[.pointer (some ⟨g, 0, none⟩), .agg #[.int .i64 c, .int .i64 i, .slice pA pn cap, .string (B D)]] w fun e w' => e = .returned (.slice none 0 0) ∧ Fr [] w w' := by
  have hp := Blk.new w #[.int .i64 c, .int .i64 i, .slice pA pn cap, .string (B D)] 56
  have hB1 := hB.alloc (.cells #[.int .i64 c, .int .i64 i, .slice pA pn cap, .string (B D)] 56)
  have hF1 : Fr [] w (w.alloc (.cells #[.int .i64 c, .int .i64 i, .slice pA pn cap, .string (B D)] 56)) := (Fr.refl _ _).alloc _
  have hgl := hB.lt
  have e2 : (w.alloc (.cells #[.int .i64 c, .int .i64 i, .slice pA pn cap, .string (B D)] 56)).cell? ⟨g, 2, none⟩ = some (.bool true) := hB1.c 2 _ rfl
  have e3 : (w.alloc (.cells #[.int .i64 c, .int .i64 i, .slice pA pn cap, .string (B D)] 56)).cell? ⟨w.heap.size, 0, none⟩ = some (.int .i64 c) := hp.c 0 _ rfl
  obtain ⟨W, hW⟩ : ∃ W, w.alloc (.cells #[.int .i64 c, .int .i64 i, .slice pA pn cap, .string (B D)] 56) = W := ⟨_, rfl⟩
  rw [hW] at hp hB1 hF1
  obtain ⟨c0, c1, c2, c3, c4, c5, c6⟩ := ccl_c hB1
  have p0 : W.cell? ⟨w.heap.size, 0, none⟩ = some (.int .i64 c) := hp.c 0 _ rfl
  have p1 : W.cell? ⟨w.heap.size, 1, none⟩ = some (.int .i64 i) := hp.c 1 _ rfl
  have HW := Lib.hid hW
  have HF := Lib.hid hF1
  clear hW hp hB hB1 hF1
  rcases h with rfl | ⟨rfl, hi⟩ | ⟨rfl, hi, hc3, hc4⟩
  all_goals
    go_enter Tryz.func31, Tryz.ntmps31
    go_wp2_with fail
    rw [HW.out]
    clear e2 e3
    go_quiet (fail)
    go_wp2
    go_ret
    exact ⟨rfl, HF.out.drewN _⟩
theorem cTake {st : CS} (c i : Int) (pA : Option Addr) (pn cap : Nat) (D : List UInt8) (hDl : D.length ≤ 1000) (hn : n.length ≤ 60) (hs : s.length ≤ 60) (hB : Blk w g (cclS n s st) 246) :
    Calls Tryz.prog 31 #[.pointer (some ⟨g, 0, none⟩), .agg #[.int .i64 c, .int .i64 i, .slice pA pn cap, .string (B D)]] w fun e w' => ∃ v, e = .returned v ∧ PkO w.heap.size w' v (CS.out n s c i D) ∧ Blk w' g (cclS n s (st.take c i D)) 246 ∧ Fr [g] w w' := by
  obtain ⟨sd, id, x, y⟩ := st
  have stay : CS.out n s c i D = [] → CS.take ⟨sd, id, x, y⟩ c i D = ⟨sd, id, x, y⟩ → ∀ (e : Ending) (w' : World), e = .returned (.slice none 0 0) ∧ Fr [] w w' → ∃ v, e = .returned v ∧ PkO w.heap.size w' v (CS.out n s c i D) ∧ Blk w' g (cclS n s (CS.take ⟨sd, id, x, y⟩ c i D)) 246 ∧ Fr [g] w w' := fun h1 h2 e w' h => by
    rw [h1, h2]
    exact ⟨_, h.1, PkO.nil _ _, h.2.blk hB (by simp), h.2.mono (by simp)⟩
  by_cases hc : c = 1
  · subst hc
    by_cases hD : gvE D = 0
    · refine (ctake_chalB i pA pn cap D hD hDl hn hs hB).mono ?_
      rintro e w' ⟨g', rfl, hg, hP, hC, hF⟩
      have e1 : CS.out n s 1 i D = [(2, i, pvL (md5 (chapL i s (gvV D))) n)] := by unfold CS.out; rw [if_pos ⟨rfl, hD⟩]
      have e2 : CS.take ⟨sd, id, x, y⟩ 1 i D = ⟨true, i, x, y⟩ := by unfold CS.take; rw [if_pos rfl, if_pos hD]
      rw [e1, e2]
      exact ⟨_, rfl, PkO.one hP hg, hC, hF⟩
    · exact (ctake_bad i pA pn cap D hD hDl hB).mono (stay (by unfold CS.out; rw [if_neg (fun h => hD h.2)]) (by unfold CS.take; rw [if_pos rfl, if_neg hD]))
  · have hc1 : (c == 1) = false := by simpa using hc
    have ho : CS.out n s c i D = [] := by unfold CS.out; rw [if_neg (fun h => hc h.1)]
    by_cases h : sd = true ∧ i = id ∧ (c = 3 ∨ c = 4)
    · obtain ⟨rfl, rfl, h34⟩ := h
      have e2 : CS.take ⟨true, i, x, y⟩ c i D = ⟨true, i, true, c == 3⟩ := by unfold CS.take; rw [if_neg hc, if_pos ⟨rfl, rfl, h34⟩]
      refine (ctake_said c i pA pn cap D hc1 ?_ (by simp) hB).mono ?_
      · rcases h34 with rfl | rfl
        · exact Or.inl rfl
        · exact Or.inr ⟨rfl, rfl⟩
      · rintro e w' ⟨rfl, hC, hF⟩
        rw [ho, e2]
        exact ⟨_, rfl, PkO.nil _ _, hC, hF⟩
    · have e2 : CS.take ⟨sd, id, x, y⟩ c i D = ⟨sd, id, x, y⟩ := by unfold CS.take; rw [if_neg hc, if_neg h]
      refine (ctake_skip c i pA pn cap D hc1 ?_ hB).mono (stay ho e2)
      cases sd with
      | false => exact Or.inl rfl
      | true =>
        by_cases hi : i = id
        · refine Or.inr (Or.inr ⟨rfl, by simpa using hi, ?_, ?_⟩)
          · simp; exact fun e => h ⟨rfl, hi, Or.inl e⟩
          · simp; exact fun e => h ⟨rfl, hi, Or.inr e⟩
        · exact Or.inr (Or.inl ⟨rfl, by simpa using hi⟩)
def cnewE (n s : List UInt8) : Int := if n.length ≤ 60 ∧ s.length ≤ 60 then 0 else 2
theorem cnew_bad (hn : n.length ≤ 140737488355328) (hs : s.length ≤ 140737488355328) (h : cnewE n s ≠ 0) :
    Calls Tryz.prog 29 #[.string (B n), .string (B s)] w fun e w' => e = .returned (.tuple #[.pointer none, .int .i64 2]) ∧ Fr [] w w' := by
  unfold cnewE at h
  by_cases h1 : n.length ≤ 60
  · have h2 : (60 : Int) < s.length := by
      by_cases h2 : s.length ≤ 60
      · rw [if_pos ⟨h1, h2⟩] at h; exact absurd rfl h
      · omega
    have h1' : ¬ (60 : Int) < n.length := by omega
    clear h h1
    go_enter Tryz.func29, Tryz.ntmps29
    go_wp2
    go_ret2
    exact ⟨rfl, Fr.refl _ _⟩
  · have h1' : (60 : Int) < n.length := by omega
    clear h h1
    go_enter Tryz.func29, Tryz.ntmps29
    go_wp2
    go_ret2
    exact ⟨rfl, Fr.refl _ _⟩
/-- the document's client -/
def dch (n s : List UInt8) (x y sd : Bool) (id : Int) : Array Value := #[.string (B n), .string (B s), .bool x, .bool y, .bool sd, .int .i64 id]
abbrev dchS (n s : List UInt8) (st : CS) : Array Value := dch n s st.x st.y st.sd st.id
theorem dchnew_ok (hn : n.length ≤ 60) (hs : s.length ≤ 60) :
    Calls Tryz.prog 30 #[.string (B n), .string (B s)] w fun e w' => ∃ g, e = .returned (.tuple #[.pointer (some ⟨g, 0, none⟩), .int .i64 0]) ∧ w.heap.size ≤ g ∧ Blk w' g (dch n s false false false 0) 83 ∧ Fr [] w w' := by
  have h1 : ¬ (60 : Int) < n.length := by omega
  have h2 : ¬ (60 : Int) < s.length := by omega
  clear hn hs
  go_enter Tryz.func30, Tryz.ntmps30
  go_wp2
  go_ret2
  exact ⟨w.heap.size, rfl, Nat.le_refl _, Blk.new _ _ _, (Fr.refl _ _).alloc _⟩
theorem dchnew_bad (hn : n.length ≤ 140737488355328) (hs : s.length ≤ 140737488355328) (h : cnewE n s ≠ 0) :
    Calls Tryz.prog 30 #[.string (B n), .string (B s)] w fun e w' => e = .returned (.tuple #[.pointer none, .int .i64 2]) ∧ Fr [] w w' := by
  unfold cnewE at h
  by_cases h1 : n.length ≤ 60
  · have h2 : (60 : Int) < s.length := by
      by_cases h2 : s.length ≤ 60
      · rw [if_pos ⟨h1, h2⟩] at h; exact absurd rfl h
      · omega
    have h1' : ¬ (60 : Int) < n.length := by omega
    clear h h1
    go_enter Tryz.func30, Tryz.ntmps30
    go_wp2
    go_ret2
    exact ⟨rfl, Fr.refl _ _⟩
  · have h1' : (60 : Int) < n.length := by omega
    clear h h1
    go_enter Tryz.func30, Tryz.ntmps30
    go_wp2
    go_ret2
    exact ⟨rfl, Fr.refl _ _⟩
end
end Go.Proofs.YtfchbppfbepelaaGreat
