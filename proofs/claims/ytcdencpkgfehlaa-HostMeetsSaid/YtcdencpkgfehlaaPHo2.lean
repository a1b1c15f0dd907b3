/- the program's host: a tag among tags, mine, enter, say (printed by tools/gen_pho2.py). -/
import Derived.Test.YtcdencpkgfehlaaHpQ
import Derived.ChangeKeysEq
namespace Go.Proofs.Ytcdencpkgfehlaa
open Go.RowKit
set_option linter.unusedVariables false
theorem fieldsTag : ((Try.prog.fieldsOf 54).toList.map fun f => (decide (f.name ≠ "_"), f.type, f.offset)) = [(true, 3, 0), (true, 9, 1)] := by kernel_rfl
theorem two_fields {α : Type} (fs : List α) (h : fs.length = 2) : ∃ a b, fs = [a, b] := by
  match fs, h with
  | [a, b], _ => exact ⟨a, b, rfl⟩
theorem eq_tag (a b : Int) (s r : List UInt8) (w : World) : (Op.equalIn 10000 54 (.agg #[.int .i64 a, .string (B s)]) (.agg #[.int .i64 b, .string (B r)])).run Try.prog w = .ok (decide (((a, s) : Tg) = (b, r))) w := by
  rw [run_equalIn_agg w 9999 54 _ _ (by kernel_rfl) (by kernel_rfl)]
  have hF := fieldsTag
  generalize (Try.prog.fieldsOf 54).toList = fs at hF ⊢
  have hlen : fs.length = 2 := by have := congrArg List.length hF; simpa using this
  obtain ⟨f, g, rfl⟩ := two_fields fs hlen
  simp only [List.map_cons, List.map_nil, List.cons.injEq, Prod.mk.injEq, decide_eq_true_eq, and_true] at hF
  obtain ⟨⟨h1, h2, h3⟩, h4, h5, h6⟩ := hF
  have p1 : ∀ (a : Int) (s : List UInt8), (part 3 #[.int .i64 a, .string (B s)] 0).run Try.prog w = .ok (.int .i64 a) w := fun a s => run_part_plain (P := Try.prog) w (by kernel_rfl) rfl
  have p2 : ∀ (a : Int) (s : List UInt8), (part 9 #[.int .i64 a, .string (B s)] 1).run Try.prog w = .ok (.string (B s)) w := fun a s => run_part_plain (P := Try.prog) w (by kernel_rfl) rfl
  have q1 : ∀ x y : Int, (Op.equalIn 9999 3 (.int .i64 x) (.int .i64 y)).run Try.prog w = .ok (x == y) w := fun x y => run_equalIn_int (P := Try.prog) w 9998 3 .i64 .i64 x y Try.underlying3
  have q2 : ∀ x y : List UInt8, (Op.equalIn 9999 9 (.string (B x)) (.string (B y))).run Try.prog w = .ok (decide (x = y)) w := fun x y => by
    rw [← str_dec x y]
    exact run_equalIn_string (P := Try.prog) w 9998 9 (B x) (B y) Try.underlying9
  simp only [Op.eqFields, h1, h2, h3, h4, h5, h6, ne_eq, not_false_eq_true, if_true, Sem.run_bind, p1, q1, Result.andThen_ok]
  by_cases e1 : a = b <;> by_cases e2 : s = r <;> simp [e1, e2, p2, q2, Result.andThen]
/-- where a tag stands first -/
def IdxP (w : World) (l : List Tg) (u : Tg) (e : Ending) (w' : World) : Prop := (u ∈ l ∧ (∃ j : Nat, j ≤ l.length ∧ e = .returned (.int .i64 j)) ∨ u ∉ l ∧ e = .returned (.int .i64 (-1))) ∧ Fr [] w w'
section
variable {w : World}
set_option maxRecDepth 100000 in
set_option maxHeartbeats 4000000 in
theorem idx_any {A : Option Addr} {cap : Nat} {l : List Tg} (u : Tg) (h : TgAt w A l) (hl : l.length ≤ 20) (hc : l.length ≤ cap) (hm : cap ≤ maxLen) :
    Calls Try.prog 83 #[.slice A l.length cap, .agg #[.int .i64 u.1, .string (B u.2)]] w (IdxP w l u) := by
  obtain ⟨ut, us⟩ := u
  simp only
  have hF0 := (Fr.refl [] w).alloc (.cells #[.int .i64 ut, .string (B us)] 54 (0, 0))
  have hN0 := Blk.new w #[.int .i64 ut, .string (B us)] 54
  have H := Lib.hid (h.fr0 hF0)
  obtain ⟨q0, hq0⟩ : ∃ q, w.heap.size = q := ⟨_, rfl⟩
  obtain ⟨W0, hW0⟩ : ∃ W, w.alloc (.cells #[.int .i64 ut, .string (B us)] 54 (0, 0)) = W := ⟨_, rfl⟩
  rw [hq0] at hN0
  rw [hW0] at hN0 hF0 H
  have HN0 := Lib.hid hN0
  have HF0 := Lib.hid hF0
  unfold maxLen at hm
  clear h hN0 hF0
  go_enter Try.func83, Try.ntmps83
  go_wp2_with fail
  (try rw [hq0])
  (try rw [hW0])
  clear hW0 hq0
  go_loopw [8] (fun iv wr => ∃ j : Nat, j ≤ l.length ∧ iv = .int .i64 j ∧ ((ut, us) : Tg) ∉ l.take j ∧ Fr [] W0 wr) (fun iv _ => l.length - (intOf iv).toNat)
  case atStart => exact ⟨0, by omega, rfl, by simp, Fr.refl _ _⟩
  case round =>
    obtain ⟨j, hj, rfl, hnot, hF⟩ := hrel
    by_cases hjl : j < l.length
    · obtain ⟨⟨t, s⟩, ht⟩ : ∃ t, l[j]? = some t := ⟨_, List.getElem?_eq_getElem hjl⟩
      obtain ⟨b, off, rfl, hb, hcell⟩ := H.out j _ ht
      obtain ⟨c0, c1⟩ := hcell _ hF
      simp only at c0 c1
      have z0 : wr.cell? ⟨q0, 0, none⟩ = some (.int .i64 ut) := (hF.blk HN0.out (by simp)).c 0 _ rfl
      have z1 : wr.cell? ⟨q0, 1, none⟩ = some (.string (B us)) := (hF.blk HN0.out (by simp)).c 1 _ rfl
      have heq := fun W => eq_tag ut t us s W
      have hjb : (j : Int) ≤ 20 := by omega
      by_cases he : ((ut, us) : Tg) = (t, s)
      · have hd : decide (((ut, us) : Tg) = (t, s)) = true := decide_eq_true he
        rw [hd] at heq
        have HX : Hid (∀ W, Fr [] wr W → IdxP w l (ut, us) (.returned (.int .i64 j)) W) := Lib.hid fun W hW => ⟨Or.inl ⟨by rw [he]; exact List.mem_of_getElem? ht, j, by omega, rfl⟩, (HF0.out.trans hF).trans hW⟩
        clear hcell ht hb hnot hF he hd
        go_wp2_with fail
        go_quiet (fail)
        have HY := Lib.hid (HX.out _ ((Fr.refl [] wr).drewN nq))
        go_wp2_with fail
        go_ret
        exact HY.out
      · have hd : decide (((ut, us) : Tg) = (t, s)) = false := decide_eq_false he
        rw [hd] at heq
        have HNX : Hid (((ut, us) : Tg) ∉ l.take (j + 1)) := Lib.hid (by
          rw [List.take_add_one, ht]
          simp only [Option.toList_some, List.mem_append, List.mem_singleton]
          intro hh
          rcases hh with hh | hh
          · exact hnot hh
          · exact he hh)
        have HF := Lib.hid hF
        clear hcell ht hb hnot hF he hd
        go_wp2_with fail
        go_quiet (fail)
        have HF2 := Lib.hid (HF.out.drewN nq)
        clear z0 z1 c0 c1 heq
        go_wp2_with fail
        go_roundw
        case rel => exact ⟨j + 1, by omega, by go_num, HNX.out, HF2.out⟩
        case measure => (simp [intOf]) <;> omega
    · obtain rfl : j = l.length := by omega
      have hge : ¬ (l.length : Int) < l.length := by omega
      rw [List.take_length] at hnot
      have HX : Hid (IdxP w l (ut, us) (.returned (.int .i64 (-1))) wr) := Lib.hid ⟨Or.inr ⟨hnot, rfl⟩, HF0.out.trans hF⟩
      clear hj hjl hnot hF
      go_wp2_with fail
      go_ret
      exact HX.out
set_option maxRecDepth 100000 in
theorem has_any {A : Option Addr} {cap : Nat} {l : List Tg} (u : Tg) (h : TgAt w A l) (hl : l.length ≤ 20) (hc : l.length ≤ cap) (hm : cap ≤ maxLen) :
    Calls Try.prog 69 #[.slice A l.length cap, .agg #[.int .i64 u.1, .string (B u.2)]] w fun e w' => e = .returned (.bool (decide (u ∈ l))) ∧ Fr [] w w' := by
  have IX := Lib.hid fun W (hW : Fr [] w W) => idx_any u (h.fr0 hW) hl hc hm
  obtain ⟨ut, us⟩ := u
  simp only at IX ⊢
  have hF0 := (Fr.refl [] w).alloc (.cells #[.int .i64 ut, .string (B us)] 54 (0, 0))
  have hN0 := Blk.new w #[.int .i64 ut, .string (B us)] 54
  clear h hl hc hm
  by_cases hin : ((ut, us) : Tg) ∈ l
  · rw [decide_eq_true hin]
    go_enter Try.func69, Try.ntmps69
    go_wp2_with fail
    refine (IX.out _ hF0).mono ?_
    rintro e w1 ⟨hi, hF⟩
    have HF := Lib.hid (hF0.trans hF)
    rcases hi with ⟨_, j, _, rfl⟩ | ⟨hout, _⟩
    · clear hF hF0 hN0 hin
      go_wp2_with fail
      go_ret
      exact ⟨rfl, HF.out⟩
    · exact absurd hin hout
  · rw [decide_eq_false hin]
    go_enter Try.func69, Try.ntmps69
    go_wp2_with fail
    refine (IX.out _ hF0).mono ?_
    rintro e w1 ⟨hi, hF⟩
    have HF := Lib.hid (hF0.trans hF)
    rcases hi with ⟨hout, _⟩ | ⟨_, rfl⟩
    · exact absurd hout hin
    · clear hF hF0 hN0 hin
      go_wp2_with fail
      go_ret
      exact ⟨rfl, HF.out⟩
end
section
variable {w : World} {g : Nat} {h : Hs} {ck : Value}
theorem mineB_nil (l : List Tg) : mineB [] l = true := by simp [mineB]
theorem mineB_none {un : List UInt8} {l : List Tg} (hu : un ≠ []) (hn : findN l 259 = 0) : mineB un l = false := by simp [mineB, hu, hn]
theorem mineB_some {un : List UInt8} {l : List Tg} (hu : un ≠ []) (hn : 0 < findN l 259) : mineB un l = decide (findS l 259 = un) := by simp [mineB, hu, hn]
set_option maxRecDepth 100000 in
set_option maxHeartbeats 4000000 in
theorem mine_any {A : Option Addr} {cap : Nat} {l : List Tg} (h0 : TgAt w A l) (hl : l.length ≤ 20) (hc : l.length ≤ cap) (hm : cap ≤ maxLen) (hB : Blk w g (hsC h ck) 92) :
    Calls Try.prog 43 #[.pointer (some ⟨g, 0, none⟩), .slice A l.length cap] w fun e w' => e = .returned (.bool (mineB h.un l)) ∧ Fr [] w w' := by
  have FD := Lib.hid (find_any 259 h0 hl hc hm)
  have CC := Lib.hid fun W (hW : Fr [] w W) => (hW.blk hB (by simp)).c 7 (.string (B h.un)) rfl
  obtain ⟨un, hun⟩ : ∃ x, h.un = x := ⟨_, rfl⟩
  rw [hun] at CC ⊢
  have hn20 := findN_le l 259
  obtain ⟨n, hn⟩ : ∃ n, findN l 259 = n := ⟨_, rfl⟩
  obtain ⟨s, hs⟩ : ∃ s, findS l 259 = s := ⟨_, rfl⟩
  by_cases hu : un = []
  · subst hu
    have HM := Lib.hid (mineB_nil l)
    rw [HM.out]
    rw [hn, hs] at FD
    have hb : (B [] == ⟨#[]⟩) = true := rfl
    clear h0 hl hc hm hB hun hn hs hn20
    go_enter Try.func43, Try.ntmps43
    go_wp2_with fail
    refine FD.out.mono ?_
    rintro e w1 ⟨rfl, hF⟩
    have d7 := CC.out _ hF
    have HF := Lib.hid hF
    clear hF
    go_wp2_with fail
    go_ret
    exact ⟨rfl, HF.out⟩
  obtain ⟨hne, hie⟩ := ne_nil_B hu
  by_cases hz : n = 0
  · rw [mineB_none hu (by rw [hn]; exact hz)]
    subst hz
    rw [hn, hs] at FD
    clear h0 hl hc hm hB hun hn hs hn20 hu
    go_enter Try.func43, Try.ntmps43
    go_wp2_with fail
    refine FD.out.mono ?_
    rintro e w1 ⟨rfl, hF⟩
    have d7 := CC.out _ hF
    have HF := Lib.hid hF
    clear hF
    go_wp2_with fail
    go_ret
    exact ⟨rfl, HF.out⟩
  · rw [mineB_some hu (by omega), hs]
    rw [hn, hs] at FD
    have hni : (0 : Int) < n := by omega
    have hnb : (n : Int) ≤ 20 := by omega
    by_cases he : s = un
    · rw [decide_eq_true he]
      subst he
      clear h0 hl hc hm hB hun hn hs hn20 hu hz
      go_enter Try.func43, Try.ntmps43
      go_wp2_with fail
      refine FD.out.mono ?_
      rintro e w1 ⟨rfl, hF⟩
      have d7 := CC.out _ hF
      have HF := Lib.hid hF
      clear hF
      go_wp2_with fail
      go_ret
      exact ⟨rfl, HF.out⟩
    · rw [decide_eq_false he]
      have he2 : ¬ B s = B un := fun e => he (by have := congrArg (fun x : ByteArray => x.toList) e; simpa [B_toList] using this)
      have he3 : (B s == B un) = false := by
        show ((B s).data == (B un).data) = false
        rw [beq_eq_false_iff_ne]
        exact fun h => he2 (ByteArray.ext h)
      have he4 : (s == un) = false := by rw [beq_eq_false_iff_ne]; exact he
      clear h0 hl hc hm hB hun hn hs hn20 hu hz
      go_enter Try.func43, Try.ntmps43
      go_wp2_with fail
      refine FD.out.mono ?_
      rintro e w1 ⟨rfl, hF⟩
      have d7 := CC.out _ hF
      have HF := Lib.hid hF
      clear hF
      go_wp2_with fail
      go_ret
      exact ⟨rfl, HF.out⟩
set_option maxRecDepth 100000 in
set_option maxHeartbeats 4000000 in
theorem enter_two (hB : Blk w g (hsC h ck) 92) : Calls Try.prog 37 #[.pointer (some ⟨g, 0, none⟩), .int .i64 2] w fun e w' => e = .returned (.tuple #[]) ∧ Blk w' g (hsC { h with st := 2, tk := 0, ag := 0, ss := 0 } ck) 92 ∧ Fr [g] w w' := by
  have c0 : ∀ i v, (hsC h ck)[i]? = some v → w.cell? ⟨g, i, none⟩ = some v := fun i v hv => hB.c i v hv
  have d10 := c0 10 _ rfl
  have f10 := hB.fz 10
  have d19 := c0 19 _ rfl
  have f19 := hB.fz 19
  have d20 := c0 20 _ rfl
  have f20 := hB.fz 20
  have d17 := c0 17 _ rfl
  have f17 := hB.fz 17
  clear c0
  go_enter Try.func37, Try.ntmps37
  go_wp2_with fail
  refine bodyPost_end (results_none rfl _ _ _) rfl ⟨rfl, ?_, ?_⟩
  · have := ((((hB).set 10 (.int .i64 2)).set 19 (.int .i64 0)).set 20 (.int .i64 0)).set 17 (.int .i64 0)
    simpa [hsC] using this
  · exact ((((Fr.refl [g] w).setCell (p := ⟨g, 10, none⟩) (by simp) (.int .i64 2)).setCell (p := ⟨g, 19, none⟩) (by simp) (.int .i64 0)).setCell (p := ⟨g, 20, none⟩) (by simp) (.int .i64 0)).setCell (p := ⟨g, 17, none⟩) (by simp) (.int .i64 0)
set_option maxRecDepth 100000 in
set_option maxHeartbeats 4000000 in
theorem enter_live (hB : Blk w g (hsC h ck) 92) : Calls Try.prog 37 #[.pointer (some ⟨g, 0, none⟩), .int .i64 3] w fun e w' => e = .returned (.tuple #[]) ∧ Blk w' g (hsC { h with st := 3, tk := 0, ag := 0 } ck) 92 ∧ Fr [g] w w' := by
  have c0 : ∀ i v, (hsC h ck)[i]? = some v → w.cell? ⟨g, i, none⟩ = some v := fun i v hv => hB.c i v hv
  have d10 := c0 10 _ rfl
  have f10 := hB.fz 10
  have d19 := c0 19 _ rfl
  have f19 := hB.fz 19
  have d20 := c0 20 _ rfl
  have f20 := hB.fz 20
  clear c0
  go_enter Try.func37, Try.ntmps37
  go_wp2_with fail
  refine bodyPost_end (results_none rfl _ _ _) rfl ⟨rfl, ?_, ?_⟩
  · have := (((hB).set 10 (.int .i64 3)).set 19 (.int .i64 0)).set 20 (.int .i64 0)
    simpa [hsC] using this
  · exact (((Fr.refl [g] w).setCell (p := ⟨g, 10, none⟩) (by simp) (.int .i64 3)).setCell (p := ⟨g, 19, none⟩) (by simp) (.int .i64 0)).setCell (p := ⟨g, 20, none⟩) (by simp) (.int .i64 0)
theorem askT_askL (h : Hs) : askT h = askL h.sv h.un none := by unfold askT askL; rfl
theorem askL_ok (sv un : List UInt8) (o : Option (List UInt8)) : ∀ t, t ∈ askL sv un o → TgOk t := by
  intro t ht
  unfold askL at ht
  rcases List.mem_cons.1 ht with rfl | ht
  · unfold TgOk; simp only; omega
  · rcases List.mem_append.1 ht with ht | ht
    · cases o with
      | none => cases ht
      | some s => simp at ht; subst ht; unfold TgOk; simp only; omega
    · split at ht
      · cases ht
      · simp at ht; subst ht; unfold TgOk; simp only; omega
theorem askL_len (sv un : List UInt8) (o : Option (List UInt8)) : (askL sv un o).length ≤ 20 := by
  unfold askL
  by_cases hu : un = [] <;> cases o <;> simp [hu]
theorem askL_size (sv un : List UInt8) (o : Option (List UInt8)) (h1 : sv.length ≤ 40) (h2 : un.length ≤ 40) (h3 : ∀ s, o = some s → s.length ≤ 1494) : (tgsB (askL sv un o)).length ≤ 100000 := by
  unfold askL tgsB
  by_cases hu : un = [] <;> cases o with
  | none => simp [tgB_len, hu]; omega
  | some s =>
    have := h3 s rfl
    simp [tgB_len, hu]; omega
theorem tags_o (o : Option (List UInt8)) (ho : ∀ s, o = some s → s.length ≤ 1494) (hB : Blk w g (hsC h ck) 92) (hc : CkV w o ck) : Calls Try.prog 66 #[.pointer (some ⟨g, 0, none⟩), ck] w (TagsP w (askL h.sv h.un o)) := by
  cases o with
  | none =>
    have e : ck = .slice none 0 0 := hc
    rw [← askT_askL]
    have := tags_any hB
    rwa [← e] at this
  | some s =>
    obtain ⟨q, e, hq⟩ := hc
    have := tags_more s q (by have := ho s rfl; omega) hq hB
    rwa [← e] at this
/-- frames are told, and the program's host is h -/
def POut (w : World) (g : Nat) (l : List Eth) (p : Ps) (e : Ending) (w' : World) : Prop := OutP w l [g] e w' ∧ PhIs w' g p
theorem POut.later {w w1 w' : World} {g : Nat} {l : List Eth} {p : Ps} {e : Ending} (h : POut w1 g l p e w') (hF : Fr [g] w w1) : POut w g l p e w' := ⟨h.1.later hF (fun x hx => hx), h.2⟩
set_option maxRecDepth 100000 in
set_option maxHeartbeats 8000000 in
theorem say_two (o : Option (List UInt8)) (hi : HI (h, o)) (hst : h.st = 2) (hB : Blk w g (hsC h ck) 92) (hc : CkV w o ck) :
    Calls Try.prog 38 #[.pointer (some ⟨g, 0, none⟩)] w (POut w g (frameL h.k h.m 25 0 (askL h.sv h.un o)) ({ h with tk := 0 }, o)) := by
  have hB1 : Blk (w.setCell ⟨g, 19, none⟩ (.int .i64 0)) g (hsC { h with tk := 0 } ck) 92 := by
    have := hB.set 19 (.int .i64 0)
    simpa [hsC] using this
  have hF1 := (Fr.refl [g] w).setCell (p := ⟨g, 19, none⟩) (by simp) (.int .i64 0)
  have hc1 : CkV (w.setCell ⟨g, 19, none⟩ (.int .i64 0)) o ck := hc.fr hF1 (fun q hq cur T hcc => by simp at hq; subst hq; exact fun e => hcc.neT hB (by rw [e]; decide) rfl)
  have d19 : w.cell? ⟨g, 19, none⟩ = some (.int .i64 h.tk) := hB.c 19 _ rfl
  have f19 := hB.fz 19
  obtain ⟨V, hV⟩ : ∃ W, w.setCell ⟨g, 19, none⟩ (.int .i64 0) = W := ⟨_, rfl⟩
  rw [hV] at hB1 hF1 hc1
  have HL1 := Lib.hid (askL_ok h.sv h.un o)
  have HL2 := Lib.hid (askL_len h.sv h.un o)
  have HL3 := Lib.hid (tgsB_vals (askL_size h.sv h.un o hi.sv hi.un hi.o))
  have TG := Lib.hid fun W (hW : Fr [] V W) => tags_o (h := { h with tk := 0 }) o hi.o (hW.blk hB1 (by simp)) (hc1.fr hW (fun q hq => by cases hq))
  have FR := Lib.hid fun W (A : Option Addr) (cap : Nat) (hT : TgAt W A (askL h.sv h.un o)) (hc : (askL h.sv h.un o).length ≤ cap) (hm : cap ≤ maxLen) (hW : Fr [] V W) => frame_out (h := { h with tk := 0 }) (ck := ck) h.k 25 0 hT HL1.out HL3.out HL2.out hc hm (by decide) (by decide) (by decide) (by decide) (hW.blk hB1 (by simp))
  have HPH : Hid (∀ W, Fr [] V W → PhIs W g ({ h with tk := 0 }, o)) := Lib.hid fun W hW => ⟨ck, hW.blk hB1 (by simp), hc1.fr hW (fun q hq => by cases hq)⟩
  have HF1 := Lib.hid hF1
  have HB1 := Lib.hid hB1
  have hgl := hB.lt
  obtain ⟨⟨m1, m2, m3, m4, m5, m6⟩, sv, un, rt, wt, st, ⟨a1, a2, a3, a4, a5, a6⟩, sx, tk, ag⟩ := h
  simp only at hst TG FR
  subst hst
  have HX : Hid (∀ W, Fr [] V W → (fun W => (W.cell? ⟨g, 11, none⟩ = some (.int .u8 a1) ∧ W.cell? ⟨g, 12, none⟩ = some (.int .u8 a2) ∧ W.cell? ⟨g, 13, none⟩ = some (.int .u8 a3) ∧ W.cell? ⟨g, 14, none⟩ = some (.int .u8 a4) ∧ W.cell? ⟨g, 15, none⟩ = some (.int .u8 a5) ∧ W.cell? ⟨g, 16, none⟩ = some (.int .u8 a6) ∧ W.cell? ⟨g, 18, none⟩ = some (ck)) ∧ Fr [] V W) W) := Lib.hid fun W hW => ⟨⟨(hW.blk HB1.out (by simp)).c 11 _ rfl, (hW.blk HB1.out (by simp)).c 12 _ rfl, (hW.blk HB1.out (by simp)).c 13 _ rfl, (hW.blk HB1.out (by simp)).c 14 _ rfl, (hW.blk HB1.out (by simp)).c 15 _ rfl, (hW.blk HB1.out (by simp)).c 16 _ rfl, (hW.blk HB1.out (by simp)).c 18 _ rfl⟩, hW⟩
  have x10 : V.cell? ⟨g, 10, none⟩ = some (.int .i64 2) := HB1.out.c 10 _ rfl
  unfold mcL at FR
  simp only at FR
  clear hB hB1 hF1 hc hc1 hi HL1 HL2 HL3
  go_enter Try.func38, Try.ntmps38
  go_wp2_with fail
  (try rw [hV])
  clear hV d19 f19 x10
  refine wp_region_held_drew (S := (fun W => (W.cell? ⟨g, 11, none⟩ = some (.int .u8 a1) ∧ W.cell? ⟨g, 12, none⟩ = some (.int .u8 a2) ∧ W.cell? ⟨g, 13, none⟩ = some (.int .u8 a3) ∧ W.cell? ⟨g, 14, none⟩ = some (.int .u8 a4) ∧ W.cell? ⟨g, 15, none⟩ = some (.int .u8 a5) ∧ W.cell? ⟨g, 16, none⟩ = some (.int .u8 a6) ∧ W.cell? ⟨g, 18, none⟩ = some (ck)) ∧ Fr [] V W)) (by kernel_rfl) ?_ (fun hHeld => ?_)
  · (try dsimp only); exact HX.out _ (Fr.refl [] V).drew
  refine take_yes 0 16 rfl rfl (by kernel_rfl) (by kernel_rfl) (by kernel_rfl) (fun _ _ _ h => h) (by rfl) (by assumption) (v := ?_) ?_ ?_
  rotate_left
  · intro w hSw; (try dsimp only at hSw); go_simp; (try with_reducible rfl)
  try simp only [Act.put, List.setIfInBounds_toArray, List.set_cons_zero, List.set_cons_succ]
  refine take_yes 1 17 rfl rfl (by kernel_rfl) (by kernel_rfl) (by kernel_rfl) (fun _ _ _ h => h) (by rfl) (by assumption) (v := ?_) ?_ ?_
  rotate_left
  · intro w hSw; (try dsimp only at hSw); go_simp; (try with_reducible rfl)
  try simp only [Act.put, List.setIfInBounds_toArray, List.set_cons_zero, List.set_cons_succ]
  refine take_yes 2 18 rfl rfl (by kernel_rfl) (by kernel_rfl) (by kernel_rfl) (fun _ _ _ h => h) (by rfl) (by assumption) (v := ?_) ?_ ?_
  rotate_left
  · intro w hSw; (try dsimp only at hSw); go_simp; (try with_reducible rfl)
  try simp only [Act.put, List.setIfInBounds_toArray, List.set_cons_zero, List.set_cons_succ]
  refine take_yes 3 19 rfl rfl (by kernel_rfl) (by kernel_rfl) (by kernel_rfl) (fun _ _ _ h => h) (by rfl) (by assumption) (v := ?_) ?_ ?_
  rotate_left
  · intro w hSw; (try dsimp only at hSw); go_simp; (try with_reducible rfl)
  try simp only [Act.put, List.setIfInBounds_toArray, List.set_cons_zero, List.set_cons_succ]
  refine take_yes 4 20 rfl rfl (by kernel_rfl) (by kernel_rfl) (by kernel_rfl) (fun _ _ _ h => h) (by rfl) (by assumption) (v := .agg #[.int .u8 a1, .int .u8 a2, .int .u8 a3, .int .u8 a4, .int .u8 a5, .int .u8 a6]) ?_ ?_
  · intro w hSw; (try dsimp only at hSw); go_simp
  try simp only [Act.put, List.setIfInBounds_toArray, List.set_cons_zero, List.set_cons_succ]
  refine take_yes 5 21 rfl rfl (by kernel_rfl) (by kernel_rfl) (by kernel_rfl) (fun _ _ _ h => h) (by rfl) (by assumption) (v := ?_) ?_ ?_
  rotate_left
  · intro w hSw; (try dsimp only at hSw); go_simp; (try with_reducible rfl)
  try simp only [Act.put, List.setIfInBounds_toArray, List.set_cons_zero, List.set_cons_succ]
  refine take_yes 6 22 rfl rfl (by kernel_rfl) (by kernel_rfl) (by kernel_rfl) (fun _ _ _ h => h) (by rfl) (by assumption) (v := ?_) ?_ ?_
  rotate_left
  · intro w hSw; (try dsimp only at hSw); go_simp; (try with_reducible rfl)
  try simp only [Act.put, List.setIfInBounds_toArray, List.set_cons_zero, List.set_cons_succ]
  refine take_yes 7 23 rfl rfl (by kernel_rfl) (by kernel_rfl) (by kernel_rfl) (fun _ _ _ h => h) (by rfl) (by assumption) (v := ?_) ?_ ?_
  rotate_left
  · intro w hSw; (try dsimp only at hSw); go_simp; (try with_reducible rfl)
  try simp only [Act.put, List.setIfInBounds_toArray, List.set_cons_zero, List.set_cons_succ]
  refine take_yes 8 24 rfl rfl (by kernel_rfl) (by kernel_rfl) (by kernel_rfl) (fun _ _ _ h => h) (by rfl) (by assumption) (v := ?_) ?_ ?_
  rotate_left
  · intro w hSw; (try dsimp only at hSw); go_simp; (try with_reducible rfl)
  try simp only [Act.put, List.setIfInBounds_toArray, List.set_cons_zero, List.set_cons_succ]
  refine take_yes 9 25 rfl rfl (by kernel_rfl) (by kernel_rfl) (by kernel_rfl) (fun _ _ _ h => h) (by rfl) (by assumption) (v := ck) ?_ ?_
  · intro w hSw; (try dsimp only at hSw); go_simp
  try simp only [Act.put, List.setIfInBounds_toArray, List.set_cons_zero, List.set_cons_succ]
  refine wpAnyH_ready (rs := [10]) (by kernel_rfl) (by simp) ?_
  refine AllReadyH.cons (o := _) rfl (fun K hK => ?_) AllReadyH.nil
  go_simp
  refine (TG.out _ (And.right hHeld)).mono ?_
  rintro e v1 ⟨A, cap, rfl, hT, hcc, hmm, hF5⟩
  have HF5 := Lib.hid (show Fr [] V v1 from (And.right hHeld).trans hF5)
  have HTT := Lib.hid (And.intro hT (And.intro hcc hmm))
  clear hT hcc hmm hF5
  (try go_wp2_with fail)
  refine hK.out _ _ ?_ (fun hHeld => ?_)
  · (try dsimp only); exact HX.out _ HF5.out
  clear hK K
  try simp only [Act.put, List.setIfInBounds_toArray, List.set_cons_zero, List.set_cons_succ]
  refine wpAnyH_ready (rs := [11]) (by kernel_rfl) (by simp) ?_
  refine AllReadyH.cons (o := _) rfl (fun K hK => ?_) AllReadyH.nil
  go_simp
  refine (FR.out _ _ _ HTT.out.1 HTT.out.2.1 HTT.out.2.2 HF5.out).mono ?_
  rintro e v2 ⟨A9, c9, rfl, hrow, hF6⟩
  (try go_wp2_with fail)
  refine hK.out _ _ ?_ (fun hHeld => ?_)
  · (try dsimp only); exact HX.out _ (HF5.out.trans hF6)
  clear hK K
  try simp only [Act.put, List.setIfInBounds_toArray, List.set_cons_zero, List.set_cons_succ]
  refine take_yes 12 2 rfl rfl (by kernel_rfl) (by kernel_rfl) (by kernel_rfl) (fun _ _ _ h => h) (by rfl) (by assumption) (v := ?_) ?_ ?_
  rotate_left
  · intro w hSw; (try dsimp only at hSw); go_simp; (try with_reducible rfl)
  try simp only [Act.put, List.setIfInBounds_toArray, List.set_cons_zero, List.set_cons_succ]
  refine wpAnyH_done (by kernel_rfl) ?_ _
  have HZ : Hid (Fr [] V v2) := Lib.hid (HF5.out.trans hF6)
  have HR := Lib.hid hrow
  clear hrow hF6
  go_wp2_with fail
  go_ret
  exact ⟨⟨A9, c9, rfl, ⟨HR.out.1, HR.out.2.imp id fun ⟨x, cap', cur, z1, z2, z3⟩ => ⟨x, cap', cur, z1, Nat.le_trans HF1.out.size (Nat.le_trans HF5.out.size z2), z3⟩⟩, HF1.out.trans (HZ.out.mono (S' := [g]) (by simp))⟩, HPH.out _ HZ.out⟩
end
end Go.Proofs.Ytcdencpkgfehlaa
