/- StoreKnows (printed by tools/gen_laws4.py). -/
import Derived.Test.YtpljdnocdhppmaaKnow
import Derived.Test.YtpljdnocdhppmaaRowsAt
import Derived.OpenShut
import Derived.WideShapes
import Derived.Below
import Derived.ChangeKeysEq
namespace Go.Proofs.Ytpljdnocdhppmaa
open Go.ChangeShapes Go.WideShapes Go.ChangeAt Go.RowKit Go.Deep Go.Maps
set_option linter.unusedVariables false
def strL (r : List UInt8) : List Value := [.string (B r)]
section
variable {H : Type} {enc : TypeId × Value → H} {w : World} {base : Nat} {spare : Nat → Bool} {held : Bool}
theorem dec_str (n : Nat) (cs : List Value) (x : DataW H × List MemPlace) (h : DataW.trod enc Try.prog w base spare held n 9 cs = some x) : ∃ r, cs = strL r ∧ True := by
  obtain ⟨d, e2, _, _⟩ := DataW.trod_string Try.underlying9 h
  obtain ⟨l, rfl⟩ : ∃ l, d = B l := ⟨_, B_of d⟩
  exact ⟨l, e2, trivial⟩
theorem open_strs {a : Option Addr} {len cap : Nat} {d : DataW H} {ps : List MemPlace} (h : DataW.Trod enc Try.prog w base spare held 61 (.slice a len cap) d ps) :
    ∃ l, RowsAt w a len cap 1 strL (fun _ => True) l := rows_of Try.underlying61 str_cells (by decide) (fun n cs x hx => dec_str n cs x hx) h
end
theorem fieldsWho : ((Try.prog.fieldsOf 24).toList.map fun f => (decide (f.name ≠ "_"), f.type, f.offset)) = [(true, 9, 0), (true, 9, 1)] := by kernel_rfl
theorem str_decS (x y : List UInt8) : ((B x).toList == (B y).toList) = decide (x = y) := by rw [B_toList, B_toList, Bool.eq_iff_iff]; simp
theorem eq_who (a b c d : List UInt8) (w : World) : (Op.equalIn 10000 24 (.agg #[.string (B a), .string (B b)]) (.agg #[.string (B c), .string (B d)])).run Try.prog w = .ok (decide ((c, d) = (a, b))) w := by
  rw [run_equalIn_agg w 9999 24 _ _ (by kernel_rfl) (by kernel_rfl)]
  have hF := fieldsWho
  generalize (Try.prog.fieldsOf 24).toList = fs at hF ⊢
  have hlen : fs.length = 2 := by have := congrArg List.length hF; simpa using this
  obtain ⟨f, g, rfl⟩ : ∃ f g, fs = [f, g] := by
    match fs, hlen with
    | [f, g], _ => exact ⟨f, g, rfl⟩
  simp only [List.map_cons, List.map_nil, List.cons.injEq, Prod.mk.injEq, decide_eq_true_eq, and_true] at hF
  obtain ⟨⟨h1, h2, h3⟩, h4, h5, h6⟩ := hF
  have p1 : ∀ x y : List UInt8, (part 9 #[.string (B x), .string (B y)] 0).run Try.prog w = .ok (.string (B x)) w := fun x y => run_part_plain (P := Try.prog) w (by kernel_rfl) rfl
  have p2 : ∀ x y : List UInt8, (part 9 #[.string (B x), .string (B y)] 1).run Try.prog w = .ok (.string (B y)) w := fun x y => run_part_plain (P := Try.prog) w (by kernel_rfl) rfl
  have q : ∀ x y : List UInt8, (Op.equalIn 9999 9 (.string (B x)) (.string (B y))).run Try.prog w = .ok (decide (x = y)) w := fun x y => by
    rw [← str_decS x y]
    exact run_equalIn_string (P := Try.prog) w 9998 9 (B x) (B y) Try.underlying9
  simp only [Op.eqFields, h1, h2, h3, h4, h5, h6, ne_eq, not_false_eq_true, if_true, Sem.run_bind, p1, q, Result.andThen_ok]
  have hd : decide ((c, d) = (a, b)) = (decide (a = c) && decide (b = d)) := by
    by_cases e1 : a = c
    · by_cases e2 : b = d
      · subst e1 e2; simp
      · have : ¬ d = b := fun e => e2 e.symm
        simp [e1, e2, this]
    · have : ¬ c = a := fun e => e1 e.symm
      simp [e1, this]
  rw [hd]
  by_cases e1 : a = c
  · subst e1
    by_cases e2 : b = d
    · subst e2; simp [p2, q, Result.andThen]
    · simp [e2, p2, q, Result.andThen]
  · simp [e1]
theorem str_eq_b (x y : List UInt8) : (B x == B y) = decide (x = y) := by
  show ((B x).data == (B y).data) = _
  rw [Bool.eq_iff_iff, beq_iff_eq, decide_eq_true_iff]
  exact ⟨fun h => B_inj.1 (ByteArray.ext h), fun h => by rw [h]⟩
set_option maxRecDepth 100000 in
set_option maxHeartbeats 16000000 in
theorem storeKnows_walk (w : World) (a0 : Option Addr) (len0 cap0 : Nat) (l0 : List (List UInt8)) (hR0 : RowsAt w a0 len0 cap0 1 strL (fun _ => True) l0) (a1 : Option Addr) (len1 cap1 : Nat) (l1 : List (List UInt8)) (hR1 : RowsAt w a1 len1 cap1 1 strL (fun _ => True) l1)
    (full : ByteArray) (sfu : full.size ≤ 140737488351232) (secret : ByteArray) (sse : secret.size ≤ 140737488351232) (value : ByteArray) (sva : value.size ≤ 140737488351232) (resp : ByteArray) (sre : resp.size ≤ 140737488351232) (id : Int) (id0 : -9223372036854775808 ≤ id) (id1 : id ≤ 9223372036854775807) :
    Calls Try.prog 11 #[.slice a0 len0 cap0, .slice a1 len1 cap1, .string full, .string secret, .string value, .string resp, .int .i64 id] w fun e w' => e = .returned (.bool true) ∧ Below w.heap.size w w' := by
  obtain ⟨fu, rfl⟩ : ∃ l, full = B l := ⟨_, B_of full⟩
  obtain ⟨se, rfl⟩ : ∃ l, secret = B l := ⟨_, B_of secret⟩
  obtain ⟨va, rfl⟩ : ∃ l, value = B l := ⟨_, B_of value⟩
  obtain ⟨re, rfl⟩ : ∃ l, resp = B l := ⟨_, B_of resp⟩
  rw [B_size] at sfu sse sva sre
  have AL := Lib.hid fun W => alive15 W
  have HR0 := Lib.hid hR0
  have HR1 := Lib.hid hR1
  have hl0m : len0 ≤ maxLen := Nat.le_trans hR0.2.1 hR0.2.2.1
  have hl1m : len1 ≤ maxLen := Nat.le_trans hR1.2.1 hR1.2.2.1
  unfold maxLen at hl0m hl1m
  clear hR0 hR1
  by_cases hb : (len0 : Int) ≤ 60 ∧ (fu.length : Int) + se.length + va.length + re.length ≤ 1000
  · obtain ⟨hb0, hb1⟩ := hb
    have HB : Hid (len0 ≤ 60 ∧ fu.length ≤ 1000 ∧ se.length ≤ 1000 ∧ va.length ≤ 1000 ∧ re.length ≤ 1000) := Lib.hid (by omega)
    have hq1 : ¬ (60 : Int) < len0 := by omega
    have hq2 : ¬ (1000 : Int) < (fu.length : Int) + se.length + va.length + re.length := by omega
    have NW := Lib.hid (snew_ok (w := w) (lim := 0) (calm := 1) (by decide) (by decide) (by decide) (by decide))
    have SPF := Lib.hid fun W => split_any fu W (by have := HB.out; omega)
    unfold whoC at SPF
    obtain ⟨fw1, hfw1⟩ : ∃ x, spN fu = x := ⟨_, rfl⟩
    obtain ⟨fw2, hfw2⟩ : ∃ x, spR fu = x := ⟨_, rfl⟩
    have KP := Lib.hid fun W g bm L K (h : Kw W g bm 0 1 L K) => kpap_any fu se (by have := HB.out; omega) (by have := HB.out; omega) h
    have KC := Lib.hid fun W g bm L K r (hr : r.length ≤ 1000) (h : Kw W g bm 0 1 L K) => kchap_any fu va r id (by have := HB.out; omega) (by have := HB.out; omega) hr h
    have CH := Lib.hid fun W v (hv : v.length ≤ 60) => chap_any id v va W (by omega) (by have := HB.out; omega)
    rw [hfw1, hfw2] at SPF KP KC
    clear hfw1 hfw2
    go_enter Try.func11, Try.ntmps11
    go_wp2_with fail
    refine NW.out.mono ?_
    rintro e w1 ⟨g, bm, rfl, hg, hbm, hS, hF1⟩
    have hK1 : Kw w1 g bm 0 1 [] (fun _ => ⟨[], 0, 0⟩) := ⟨hS, fun p hp => by simp at hp, fun p hp => by simp at hp⟩
    have HGB := Lib.hid (And.intro hg hbm)
    clear NW hS hg hbm hb0 hb1
    go_wp2_with fail
    go_loopw [17, 18, 19] (fun isv wv iv wr => ∃ (j : Nat) (L : List (Who × Nat)) (K : Nat → Kn) (wl : List UInt8), j ≤ len0 ∧ j ≤ len1 ∧ iv = .int .i64 j ∧ isv = .bool (know L K (fw1, fw2)).isSome ∧ wv = .string (B wl) ∧ wl.length ≤ 60 ∧ (∀ v, know L K (fw1, fw2) = some v → wl = v) ∧ Kw wr g bm 0 1 L K ∧ L.length ≤ j ∧ (∀ y, y ∈ footS bm L → w.heap.size ≤ y) ∧ Fr [] w wr) (fun _ _ iv _ => len0 - (intOf iv).toNat)
    case atStart => exact ⟨0, [], _, [], by omega, by omega, rfl, rfl, rfl, by simp, (fun v hv => by simp [know, look] at hv), hK1, by simp, (by
      intro y hy
      simp [footS] at hy
      rw [hy]
      exact HGB.out.2), hF1⟩
    case round =>
      clear hK1 hF1
      obtain ⟨j, L, K, wl, hj0, hj1, rfl, rfl, rfl, hwl, hwv, hK, hLj, hft, hF⟩ := hrel
      have HFw := Lib.hid hF
      have HK := Lib.hid hK
      have HFT := Lib.hid hft
      have HLJ := Lib.hid hLj
      have HWL := Lib.hid hwl
      have HWV := Lib.hid hwv
      obtain ⟨isb, hisb⟩ : ∃ x, (know L K (fw1, fw2)).isSome = x := ⟨_, rfl⟩
      rw [hisb]
      have HIS := Lib.hid hisb
      clear hF hK hft hLj hwl hwv hisb
      have hjb : (j : Int) ≤ 60 := by have := HB.out; omega
      by_cases hjl : j < len0 ∧ j < len1
      · obtain ⟨hj2, hj3⟩ := hjl
        obtain ⟨bn, on, n, rfl, hbn, hxn, _, hcn⟩ := HR0.out.at_ j hj2
        obtain ⟨bs, os, s, rfl, hbs, hxs, _, hcs⟩ := HR1.out.at_ j hj3
        have HX : Hid (∀ W, Fr [] w W → (fun W => (W.cell? ⟨bn, on + j, none⟩ = some (.string (B n)) ∧ W.cell? ⟨bs, os + j, none⟩ = some (.string (B s))) ∧ Fr [] w W) W) := Lib.hid fun W hW => ⟨⟨by simpa using hcn W hW 0 _ rfl, by simpa using hcs W hW 0 _ rfl⟩, hW⟩
        obtain ⟨⟨cn0, cs0⟩, _⟩ := HX.out wr HFw.out
        clear hcn hcs hbn hbs hxn hxs
        have hG0 := HX.out _ HFw.out.drew
        dsimp only at hG0
        by_cases hnl : (60 : Int) < n.length
        · have hdn : decide ((60 : Int) < (n.length : Int)) = true := decide_eq_true hnl
          clear hnl
          go_wp2_with fail
          refine wp_region_held_drew (S := (fun W => (W.cell? ⟨bn, on + j, none⟩ = some (.string (B n)) ∧ W.cell? ⟨bs, os + j, none⟩ = some (.string (B s))) ∧ Fr [] w W)) (by kernel_rfl) ?_ (fun hHeld => ?_)
          · (try dsimp only); exact hG0
          refine take_yes 0 63 rfl rfl (by kernel_rfl) (by kernel_rfl) (by kernel_rfl) (fun _ _ _ h => h) (by rfl) (by assumption) (v := ?_) ?_ ?_
          rotate_left
          · intro w hSw; (try dsimp only at hSw); go_simp; (try with_reducible rfl)
          try simp only [Act.put, List.setIfInBounds_toArray, List.set_cons_zero, List.set_cons_succ]
          refine take_yes 1 64 rfl rfl (by kernel_rfl) (by kernel_rfl) (by kernel_rfl) (fun _ _ _ h => h) (by rfl) (by assumption) (v := ?_) ?_ ?_
          rotate_left
          · intro w hSw; (try dsimp only at hSw); go_simp; (try with_reducible rfl)
          try simp only [Act.put, List.setIfInBounds_toArray, List.set_cons_zero, List.set_cons_succ]
          refine take_yes 2 65 rfl rfl (by kernel_rfl) (by kernel_rfl) (by kernel_rfl) (fun _ _ _ h => h) (by rfl) (by assumption) (v := ?_) ?_ ?_
          rotate_left
          · intro w hSw; (try dsimp only at hSw); go_simp; (try with_reducible rfl)
          try simp only [Act.put, List.setIfInBounds_toArray, List.set_cons_zero, List.set_cons_succ]
          refine take_yes 3 66 rfl rfl (by kernel_rfl) (by kernel_rfl) (by kernel_rfl) (fun _ _ _ h => h) (by rfl) (by assumption) (v := ?_) ?_ ?_
          rotate_left
          · intro w hSw; (try dsimp only at hSw); go_simp; (try with_reducible rfl)
          try simp only [Act.put, List.setIfInBounds_toArray, List.set_cons_zero, List.set_cons_succ]
          refine take_yes 4 67 rfl rfl (by kernel_rfl) (by kernel_rfl) (by kernel_rfl) (fun _ _ _ h => h) (by rfl) (by assumption) (v := ?_) ?_ ?_
          rotate_left
          · intro w hSw; (try dsimp only at hSw); go_simp; (try with_reducible rfl)
          try simp only [Act.put, List.setIfInBounds_toArray, List.set_cons_zero, List.set_cons_succ]
          refine take_yes 5 68 rfl rfl (by kernel_rfl) (by kernel_rfl) (by kernel_rfl) (fun _ _ _ h => h) (by rfl) (by assumption) (v := ?_) ?_ ?_
          rotate_left
          · intro w hSw; (try dsimp only at hSw); go_simp; (try with_reducible rfl)
          try simp only [Act.put, List.setIfInBounds_toArray, List.set_cons_zero, List.set_cons_succ]
          refine take_yes 6 69 rfl rfl (by kernel_rfl) (by kernel_rfl) (by kernel_rfl) (fun _ _ _ h => h) (by rfl) (by assumption) (v := ?_) ?_ ?_
          rotate_left
          · intro w hSw; (try dsimp only at hSw); go_simp; (try with_reducible rfl)
          try simp only [Act.put, List.setIfInBounds_toArray, List.set_cons_zero, List.set_cons_succ]
          refine take_no 7 70 rfl rfl (by kernel_rfl) (by kernel_rfl) (by kernel_rfl) (fun _ _ _ h => h) (by rfl) (by assumption) ?_
          try simp only [Act.put, List.setIfInBounds_toArray, List.set_cons_zero, List.set_cons_succ]
          refine take_no 8 71 rfl rfl (by kernel_rfl) (by kernel_rfl) (by kernel_rfl) (fun _ _ _ h => h) (by rfl) (by assumption) ?_
          try simp only [Act.put, List.setIfInBounds_toArray, List.set_cons_zero, List.set_cons_succ]
          refine take_no 9 72 rfl rfl (by kernel_rfl) (by kernel_rfl) (by kernel_rfl) (fun _ _ _ h => h) (by rfl) (by assumption) ?_
          try simp only [Act.put, List.setIfInBounds_toArray, List.set_cons_zero, List.set_cons_succ]
          refine take_no 10 73 rfl rfl (by kernel_rfl) (by kernel_rfl) (by kernel_rfl) (fun _ _ _ h => h) (by rfl) (by assumption) ?_
          try simp only [Act.put, List.setIfInBounds_toArray, List.set_cons_zero, List.set_cons_succ]
          refine take_no 11 74 rfl rfl (by kernel_rfl) (by kernel_rfl) (by kernel_rfl) (fun _ _ _ h => h) (by rfl) (by assumption) ?_
          try simp only [Act.put, List.setIfInBounds_toArray, List.set_cons_zero, List.set_cons_succ]
          refine take_no 12 75 rfl rfl (by kernel_rfl) (by kernel_rfl) (by kernel_rfl) (fun _ _ _ h => h) (by rfl) (by assumption) ?_
          try simp only [Act.put, List.setIfInBounds_toArray, List.set_cons_zero, List.set_cons_succ]
          refine take_yes 13 76 rfl rfl (by kernel_rfl) (by kernel_rfl) (by kernel_rfl) (fun _ _ _ h => h) (by rfl) (by assumption) (v := ?_) ?_ ?_
          rotate_left
          · intro w hSw; (try dsimp only at hSw); go_simp; (try with_reducible rfl)
          try simp only [Act.put, List.setIfInBounds_toArray, List.set_cons_zero, List.set_cons_succ]
          refine take_yes 14 77 rfl rfl (by kernel_rfl) (by kernel_rfl) (by kernel_rfl) (fun _ _ _ h => h) (by rfl) (by assumption) (v := ?_) ?_ ?_
          rotate_left
          · intro w hSw; (try dsimp only at hSw); go_simp; (try with_reducible rfl)
          try simp only [Act.put, List.setIfInBounds_toArray, List.set_cons_zero, List.set_cons_succ]
          refine take_no 15 78 rfl rfl (by kernel_rfl) (by kernel_rfl) (by kernel_rfl) (fun _ _ _ h => h) (by rfl) (by assumption) ?_
          try simp only [Act.put, List.setIfInBounds_toArray, List.set_cons_zero, List.set_cons_succ]
          refine take_no 16 79 rfl rfl (by kernel_rfl) (by kernel_rfl) (by kernel_rfl) (fun _ _ _ h => h) (by rfl) (by assumption) ?_
          try simp only [Act.put, List.setIfInBounds_toArray, List.set_cons_zero, List.set_cons_succ]
          refine take_no 17 80 rfl rfl (by kernel_rfl) (by kernel_rfl) (by kernel_rfl) (fun _ _ _ h => h) (by rfl) (by assumption) ?_
          try simp only [Act.put, List.setIfInBounds_toArray, List.set_cons_zero, List.set_cons_succ]
          refine take_no 18 81 rfl rfl (by kernel_rfl) (by kernel_rfl) (by kernel_rfl) (fun _ _ _ h => h) (by rfl) (by assumption) ?_
          try simp only [Act.put, List.setIfInBounds_toArray, List.set_cons_zero, List.set_cons_succ]
          refine take_no 19 82 rfl rfl (by kernel_rfl) (by kernel_rfl) (by kernel_rfl) (fun _ _ _ h => h) (by rfl) (by assumption) ?_
          try simp only [Act.put, List.setIfInBounds_toArray, List.set_cons_zero, List.set_cons_succ]
          refine take_no 20 83 rfl rfl (by kernel_rfl) (by kernel_rfl) (by kernel_rfl) (fun _ _ _ h => h) (by rfl) (by assumption) ?_
          try simp only [Act.put, List.setIfInBounds_toArray, List.set_cons_zero, List.set_cons_succ]
          refine take_no 21 84 rfl rfl (by kernel_rfl) (by kernel_rfl) (by kernel_rfl) (fun _ _ _ h => h) (by rfl) (by assumption) ?_
          try simp only [Act.put, List.setIfInBounds_toArray, List.set_cons_zero, List.set_cons_succ]
          refine take_no 22 85 rfl rfl (by kernel_rfl) (by kernel_rfl) (by kernel_rfl) (fun _ _ _ h => h) (by rfl) (by assumption) ?_
          try simp only [Act.put, List.setIfInBounds_toArray, List.set_cons_zero, List.set_cons_succ]
          refine take_no 23 86 rfl rfl (by kernel_rfl) (by kernel_rfl) (by kernel_rfl) (fun _ _ _ h => h) (by rfl) (by assumption) ?_
          try simp only [Act.put, List.setIfInBounds_toArray, List.set_cons_zero, List.set_cons_succ]
          refine take_no 24 87 rfl rfl (by kernel_rfl) (by kernel_rfl) (by kernel_rfl) (fun _ _ _ h => h) (by rfl) (by assumption) ?_
          try simp only [Act.put, List.setIfInBounds_toArray, List.set_cons_zero, List.set_cons_succ]
          refine take_no 25 88 rfl rfl (by kernel_rfl) (by kernel_rfl) (by kernel_rfl) (fun _ _ _ h => h) (by rfl) (by assumption) ?_
          try simp only [Act.put, List.setIfInBounds_toArray, List.set_cons_zero, List.set_cons_succ]
          refine take_yes 26 89 rfl rfl (by kernel_rfl) (by kernel_rfl) (by kernel_rfl) (fun _ _ _ h => h) (by rfl) (by assumption) (v := ?_) ?_ ?_
          rotate_left
          · intro w hSw; (try dsimp only at hSw); go_simp; (try with_reducible rfl)
          try simp only [Act.put, List.setIfInBounds_toArray, List.set_cons_zero, List.set_cons_succ]
          refine wpAnyH_done (by kernel_rfl) ?_ _
          have HFE0 := Lib.hid hHeld.2
          clear hHeld hG0
          go_wp2_with fail
          refine (AL.out _).mono ?_
          rintro e w3 ⟨rfl, hF3⟩
          have HFE := Lib.hid (HFE0.out.trans hF3)
          clear hF3
          go_wp2_with fail
          go_ret
          exact ⟨rfl, HFE.out.below (Nat.le_refl _) (by simp)⟩
        · by_cases hsl : (60 : Int) < s.length
          · have hdn : decide ((60 : Int) < (n.length : Int)) = false := decide_eq_false hnl
            have hds : decide ((60 : Int) < (s.length : Int)) = true := decide_eq_true hsl
            clear hnl hsl
            go_wp2_with fail
            refine wp_region_held_drew (S := (fun W => (W.cell? ⟨bn, on + j, none⟩ = some (.string (B n)) ∧ W.cell? ⟨bs, os + j, none⟩ = some (.string (B s))) ∧ Fr [] w W)) (by kernel_rfl) ?_ (fun hHeld => ?_)
            · (try dsimp only); exact hG0
            refine take_yes 0 63 rfl rfl (by kernel_rfl) (by kernel_rfl) (by kernel_rfl) (fun _ _ _ h => h) (by rfl) (by assumption) (v := ?_) ?_ ?_
            rotate_left
            · intro w hSw; (try dsimp only at hSw); go_simp; (try with_reducible rfl)
            try simp only [Act.put, List.setIfInBounds_toArray, List.set_cons_zero, List.set_cons_succ]
            refine take_yes 1 64 rfl rfl (by kernel_rfl) (by kernel_rfl) (by kernel_rfl) (fun _ _ _ h => h) (by rfl) (by assumption) (v := ?_) ?_ ?_
            rotate_left
            · intro w hSw; (try dsimp only at hSw); go_simp; (try with_reducible rfl)
            try simp only [Act.put, List.setIfInBounds_toArray, List.set_cons_zero, List.set_cons_succ]
            refine take_yes 2 65 rfl rfl (by kernel_rfl) (by kernel_rfl) (by kernel_rfl) (fun _ _ _ h => h) (by rfl) (by assumption) (v := ?_) ?_ ?_
            rotate_left
            · intro w hSw; (try dsimp only at hSw); go_simp; (try with_reducible rfl)
            try simp only [Act.put, List.setIfInBounds_toArray, List.set_cons_zero, List.set_cons_succ]
            refine take_yes 3 66 rfl rfl (by kernel_rfl) (by kernel_rfl) (by kernel_rfl) (fun _ _ _ h => h) (by rfl) (by assumption) (v := ?_) ?_ ?_
            rotate_left
            · intro w hSw; (try dsimp only at hSw); go_simp; (try with_reducible rfl)
            try simp only [Act.put, List.setIfInBounds_toArray, List.set_cons_zero, List.set_cons_succ]
            refine take_yes 4 67 rfl rfl (by kernel_rfl) (by kernel_rfl) (by kernel_rfl) (fun _ _ _ h => h) (by rfl) (by assumption) (v := ?_) ?_ ?_
            rotate_left
            · intro w hSw; (try dsimp only at hSw); go_simp; (try with_reducible rfl)
            try simp only [Act.put, List.setIfInBounds_toArray, List.set_cons_zero, List.set_cons_succ]
            refine take_yes 5 68 rfl rfl (by kernel_rfl) (by kernel_rfl) (by kernel_rfl) (fun _ _ _ h => h) (by rfl) (by assumption) (v := ?_) ?_ ?_
            rotate_left
            · intro w hSw; (try dsimp only at hSw); go_simp; (try with_reducible rfl)
            try simp only [Act.put, List.setIfInBounds_toArray, List.set_cons_zero, List.set_cons_succ]
            refine take_yes 6 69 rfl rfl (by kernel_rfl) (by kernel_rfl) (by kernel_rfl) (fun _ _ _ h => h) (by rfl) (by assumption) (v := ?_) ?_ ?_
            rotate_left
            · intro w hSw; (try dsimp only at hSw); go_simp; (try with_reducible rfl)
            try simp only [Act.put, List.setIfInBounds_toArray, List.set_cons_zero, List.set_cons_succ]
            refine take_yes 7 70 rfl rfl (by kernel_rfl) (by kernel_rfl) (by kernel_rfl) (fun _ _ _ h => h) (by rfl) (by assumption) (v := ?_) ?_ ?_
            rotate_left
            · intro w hSw; (try dsimp only at hSw); go_simp; (try with_reducible rfl)
            try simp only [Act.put, List.setIfInBounds_toArray, List.set_cons_zero, List.set_cons_succ]
            refine take_yes 8 71 rfl rfl (by kernel_rfl) (by kernel_rfl) (by kernel_rfl) (fun _ _ _ h => h) (by rfl) (by assumption) (v := ?_) ?_ ?_
            rotate_left
            · intro w hSw; (try dsimp only at hSw); go_simp; (try with_reducible rfl)
            try simp only [Act.put, List.setIfInBounds_toArray, List.set_cons_zero, List.set_cons_succ]
            refine take_yes 9 72 rfl rfl (by kernel_rfl) (by kernel_rfl) (by kernel_rfl) (fun _ _ _ h => h) (by rfl) (by assumption) (v := ?_) ?_ ?_
            rotate_left
            · intro w hSw; (try dsimp only at hSw); go_simp; (try with_reducible rfl)
            try simp only [Act.put, List.setIfInBounds_toArray, List.set_cons_zero, List.set_cons_succ]
            refine take_yes 10 73 rfl rfl (by kernel_rfl) (by kernel_rfl) (by kernel_rfl) (fun _ _ _ h => h) (by rfl) (by assumption) (v := ?_) ?_ ?_
            rotate_left
            · intro w hSw; (try dsimp only at hSw); go_simp; (try with_reducible rfl)
            try simp only [Act.put, List.setIfInBounds_toArray, List.set_cons_zero, List.set_cons_succ]
            refine take_yes 11 74 rfl rfl (by kernel_rfl) (by kernel_rfl) (by kernel_rfl) (fun _ _ _ h => h) (by rfl) (by assumption) (v := ?_) ?_ ?_
            rotate_left
            · intro w hSw; (try dsimp only at hSw); go_simp; (try with_reducible rfl)
            try simp only [Act.put, List.setIfInBounds_toArray, List.set_cons_zero, List.set_cons_succ]
            refine take_yes 12 75 rfl rfl (by kernel_rfl) (by kernel_rfl) (by kernel_rfl) (fun _ _ _ h => h) (by rfl) (by assumption) (v := ?_) ?_ ?_
            rotate_left
            · intro w hSw; (try dsimp only at hSw); go_simp; (try with_reducible rfl)
            try simp only [Act.put, List.setIfInBounds_toArray, List.set_cons_zero, List.set_cons_succ]
            refine take_yes 13 76 rfl rfl (by kernel_rfl) (by kernel_rfl) (by kernel_rfl) (fun _ _ _ h => h) (by rfl) (by assumption) (v := ?_) ?_ ?_
            rotate_left
            · intro w hSw; (try dsimp only at hSw); go_simp; (try with_reducible rfl)
            try simp only [Act.put, List.setIfInBounds_toArray, List.set_cons_zero, List.set_cons_succ]
            refine take_yes 14 77 rfl rfl (by kernel_rfl) (by kernel_rfl) (by kernel_rfl) (fun _ _ _ h => h) (by rfl) (by assumption) (v := ?_) ?_ ?_
            rotate_left
            · intro w hSw; (try dsimp only at hSw); go_simp; (try with_reducible rfl)
            try simp only [Act.put, List.setIfInBounds_toArray, List.set_cons_zero, List.set_cons_succ]
            refine take_no 15 78 rfl rfl (by kernel_rfl) (by kernel_rfl) (by kernel_rfl) (fun _ _ _ h => h) (by rfl) (by assumption) ?_
            try simp only [Act.put, List.setIfInBounds_toArray, List.set_cons_zero, List.set_cons_succ]
            refine take_no 16 79 rfl rfl (by kernel_rfl) (by kernel_rfl) (by kernel_rfl) (fun _ _ _ h => h) (by rfl) (by assumption) ?_
            try simp only [Act.put, List.setIfInBounds_toArray, List.set_cons_zero, List.set_cons_succ]
            refine take_no 17 80 rfl rfl (by kernel_rfl) (by kernel_rfl) (by kernel_rfl) (fun _ _ _ h => h) (by rfl) (by assumption) ?_
            try simp only [Act.put, List.setIfInBounds_toArray, List.set_cons_zero, List.set_cons_succ]
            refine take_no 18 81 rfl rfl (by kernel_rfl) (by kernel_rfl) (by kernel_rfl) (fun _ _ _ h => h) (by rfl) (by assumption) ?_
            try simp only [Act.put, List.setIfInBounds_toArray, List.set_cons_zero, List.set_cons_succ]
            refine take_no 19 82 rfl rfl (by kernel_rfl) (by kernel_rfl) (by kernel_rfl) (fun _ _ _ h => h) (by rfl) (by assumption) ?_
            try simp only [Act.put, List.setIfInBounds_toArray, List.set_cons_zero, List.set_cons_succ]
            refine take_no 20 83 rfl rfl (by kernel_rfl) (by kernel_rfl) (by kernel_rfl) (fun _ _ _ h => h) (by rfl) (by assumption) ?_
            try simp only [Act.put, List.setIfInBounds_toArray, List.set_cons_zero, List.set_cons_succ]
            refine take_no 21 84 rfl rfl (by kernel_rfl) (by kernel_rfl) (by kernel_rfl) (fun _ _ _ h => h) (by rfl) (by assumption) ?_
            try simp only [Act.put, List.setIfInBounds_toArray, List.set_cons_zero, List.set_cons_succ]
            refine take_no 22 85 rfl rfl (by kernel_rfl) (by kernel_rfl) (by kernel_rfl) (fun _ _ _ h => h) (by rfl) (by assumption) ?_
            try simp only [Act.put, List.setIfInBounds_toArray, List.set_cons_zero, List.set_cons_succ]
            refine take_no 23 86 rfl rfl (by kernel_rfl) (by kernel_rfl) (by kernel_rfl) (fun _ _ _ h => h) (by rfl) (by assumption) ?_
            try simp only [Act.put, List.setIfInBounds_toArray, List.set_cons_zero, List.set_cons_succ]
            refine take_no 24 87 rfl rfl (by kernel_rfl) (by kernel_rfl) (by kernel_rfl) (fun _ _ _ h => h) (by rfl) (by assumption) ?_
            try simp only [Act.put, List.setIfInBounds_toArray, List.set_cons_zero, List.set_cons_succ]
            refine take_no 25 88 rfl rfl (by kernel_rfl) (by kernel_rfl) (by kernel_rfl) (fun _ _ _ h => h) (by rfl) (by assumption) ?_
            try simp only [Act.put, List.setIfInBounds_toArray, List.set_cons_zero, List.set_cons_succ]
            refine take_yes 26 89 rfl rfl (by kernel_rfl) (by kernel_rfl) (by kernel_rfl) (fun _ _ _ h => h) (by rfl) (by assumption) (v := ?_) ?_ ?_
            rotate_left
            · intro w hSw; (try dsimp only at hSw); go_simp; (try with_reducible rfl)
            try simp only [Act.put, List.setIfInBounds_toArray, List.set_cons_zero, List.set_cons_succ]
            refine wpAnyH_done (by kernel_rfl) ?_ _
            have HFE0 := Lib.hid hHeld.2
            clear hHeld hG0
            go_wp2_with fail
            refine (AL.out _).mono ?_
            rintro e w3 ⟨rfl, hF3⟩
            have HFE := Lib.hid (HFE0.out.trans hF3)
            clear hF3
            go_wp2_with fail
            go_ret
            exact ⟨rfl, HFE.out.below (Nat.le_refl _) (by simp)⟩
          · have SETH := Lib.hid fun W (hW : Fr [] wr W) => setk_any n s (by omega) (by omega) (by have := HLJ.out; omega) (HK.out.fr0 hW)
            have SPN := Lib.hid fun W => split_any n W (by omega)
            unfold whoC at SPN
            have HSL : Hid (s.length ≤ 60) := Lib.hid (by omega)
            obtain ⟨n1, hn1⟩ : ∃ x, spN n = x := ⟨_, rfl⟩
            obtain ⟨n2, hn2⟩ : ∃ x, spR n = x := ⟨_, rfl⟩
            rw [hn1, hn2] at SETH SPN
            have hdn : decide ((60 : Int) < (n.length : Int)) = false := decide_eq_false hnl
            have hds : decide ((60 : Int) < (s.length : Int)) = false := decide_eq_false hsl
            clear hn1 hn2 cn0 cs0 hnl hsl
            go_wp2_with fail
            refine wp_region_held_drew (S := (fun W => (W.cell? ⟨bn, on + j, none⟩ = some (.string (B n)) ∧ W.cell? ⟨bs, os + j, none⟩ = some (.string (B s))) ∧ Fr [] w W)) (by kernel_rfl) ?_ (fun hHeld => ?_)
            · (try dsimp only); exact HX.out _ HFw.out.drew
            refine take_yes 0 63 rfl rfl (by kernel_rfl) (by kernel_rfl) (by kernel_rfl) (fun _ _ _ h => h) (by rfl) (by assumption) (v := ?_) ?_ ?_
            rotate_left
            · intro w hSw; (try dsimp only at hSw); go_simp; (try with_reducible rfl)
            try simp only [Act.put, List.setIfInBounds_toArray, List.set_cons_zero, List.set_cons_succ]
            refine take_yes 1 64 rfl rfl (by kernel_rfl) (by kernel_rfl) (by kernel_rfl) (fun _ _ _ h => h) (by rfl) (by assumption) (v := ?_) ?_ ?_
            rotate_left
            · intro w hSw; (try dsimp only at hSw); go_simp; (try with_reducible rfl)
            try simp only [Act.put, List.setIfInBounds_toArray, List.set_cons_zero, List.set_cons_succ]
            refine take_yes 2 65 rfl rfl (by kernel_rfl) (by kernel_rfl) (by kernel_rfl) (fun _ _ _ h => h) (by rfl) (by assumption) (v := ?_) ?_ ?_
            rotate_left
            · intro w hSw; (try dsimp only at hSw); go_simp; (try with_reducible rfl)
            try simp only [Act.put, List.setIfInBounds_toArray, List.set_cons_zero, List.set_cons_succ]
            refine take_yes 3 66 rfl rfl (by kernel_rfl) (by kernel_rfl) (by kernel_rfl) (fun _ _ _ h => h) (by rfl) (by assumption) (v := ?_) ?_ ?_
            rotate_left
            · intro w hSw; (try dsimp only at hSw); go_simp; (try with_reducible rfl)
            try simp only [Act.put, List.setIfInBounds_toArray, List.set_cons_zero, List.set_cons_succ]
            refine take_yes 4 67 rfl rfl (by kernel_rfl) (by kernel_rfl) (by kernel_rfl) (fun _ _ _ h => h) (by rfl) (by assumption) (v := ?_) ?_ ?_
            rotate_left
            · intro w hSw; (try dsimp only at hSw); go_simp; (try with_reducible rfl)
            try simp only [Act.put, List.setIfInBounds_toArray, List.set_cons_zero, List.set_cons_succ]
            refine take_yes 5 68 rfl rfl (by kernel_rfl) (by kernel_rfl) (by kernel_rfl) (fun _ _ _ h => h) (by rfl) (by assumption) (v := ?_) ?_ ?_
            rotate_left
            · intro w hSw; (try dsimp only at hSw); go_simp; (try with_reducible rfl)
            try simp only [Act.put, List.setIfInBounds_toArray, List.set_cons_zero, List.set_cons_succ]
            refine take_yes 6 69 rfl rfl (by kernel_rfl) (by kernel_rfl) (by kernel_rfl) (fun _ _ _ h => h) (by rfl) (by assumption) (v := ?_) ?_ ?_
            rotate_left
            · intro w hSw; (try dsimp only at hSw); go_simp; (try with_reducible rfl)
            try simp only [Act.put, List.setIfInBounds_toArray, List.set_cons_zero, List.set_cons_succ]
            refine take_yes 7 70 rfl rfl (by kernel_rfl) (by kernel_rfl) (by kernel_rfl) (fun _ _ _ h => h) (by rfl) (by assumption) (v := ?_) ?_ ?_
            rotate_left
            · intro w hSw; (try dsimp only at hSw); go_simp; (try with_reducible rfl)
            try simp only [Act.put, List.setIfInBounds_toArray, List.set_cons_zero, List.set_cons_succ]
            refine take_yes 8 71 rfl rfl (by kernel_rfl) (by kernel_rfl) (by kernel_rfl) (fun _ _ _ h => h) (by rfl) (by assumption) (v := ?_) ?_ ?_
            rotate_left
            · intro w hSw; (try dsimp only at hSw); go_simp; (try with_reducible rfl)
            try simp only [Act.put, List.setIfInBounds_toArray, List.set_cons_zero, List.set_cons_succ]
            refine take_yes 9 72 rfl rfl (by kernel_rfl) (by kernel_rfl) (by kernel_rfl) (fun _ _ _ h => h) (by rfl) (by assumption) (v := ?_) ?_ ?_
            rotate_left
            · intro w hSw; (try dsimp only at hSw); go_simp; (try with_reducible rfl)
            try simp only [Act.put, List.setIfInBounds_toArray, List.set_cons_zero, List.set_cons_succ]
            refine take_yes 10 73 rfl rfl (by kernel_rfl) (by kernel_rfl) (by kernel_rfl) (fun _ _ _ h => h) (by rfl) (by assumption) (v := ?_) ?_ ?_
            rotate_left
            · intro w hSw; (try dsimp only at hSw); go_simp; (try with_reducible rfl)
            try simp only [Act.put, List.setIfInBounds_toArray, List.set_cons_zero, List.set_cons_succ]
            refine take_yes 11 74 rfl rfl (by kernel_rfl) (by kernel_rfl) (by kernel_rfl) (fun _ _ _ h => h) (by rfl) (by assumption) (v := ?_) ?_ ?_
            rotate_left
            · intro w hSw; (try dsimp only at hSw); go_simp; (try with_reducible rfl)
            try simp only [Act.put, List.setIfInBounds_toArray, List.set_cons_zero, List.set_cons_succ]
            refine take_yes 12 75 rfl rfl (by kernel_rfl) (by kernel_rfl) (by kernel_rfl) (fun _ _ _ h => h) (by rfl) (by assumption) (v := ?_) ?_ ?_
            rotate_left
            · intro w hSw; (try dsimp only at hSw); go_simp; (try with_reducible rfl)
            try simp only [Act.put, List.setIfInBounds_toArray, List.set_cons_zero, List.set_cons_succ]
            refine take_yes 13 76 rfl rfl (by kernel_rfl) (by kernel_rfl) (by kernel_rfl) (fun _ _ _ h => h) (by rfl) (by assumption) (v := ?_) ?_ ?_
            rotate_left
            · intro w hSw; (try dsimp only at hSw); go_simp; (try with_reducible rfl)
            try simp only [Act.put, List.setIfInBounds_toArray, List.set_cons_zero, List.set_cons_succ]
            refine take_yes 14 77 rfl rfl (by kernel_rfl) (by kernel_rfl) (by kernel_rfl) (fun _ _ _ h => h) (by rfl) (by assumption) (v := ?_) ?_ ?_
            rotate_left
            · intro w hSw; (try dsimp only at hSw); go_simp; (try with_reducible rfl)
            try simp only [Act.put, List.setIfInBounds_toArray, List.set_cons_zero, List.set_cons_succ]
            refine take_yes 15 78 rfl rfl (by kernel_rfl) (by kernel_rfl) (by kernel_rfl) (fun _ _ _ h => h) (by rfl) (by assumption) (v := ?_) ?_ ?_
            rotate_left
            · intro w hSw; (try dsimp only at hSw); go_simp; (try with_reducible rfl)
            try simp only [Act.put, List.setIfInBounds_toArray, List.set_cons_zero, List.set_cons_succ]
            refine take_yes 16 79 rfl rfl (by kernel_rfl) (by kernel_rfl) (by kernel_rfl) (fun _ _ _ h => h) (by rfl) (by assumption) (v := ?_) ?_ ?_
            rotate_left
            · intro w hSw; (try dsimp only at hSw); go_simp; (try with_reducible rfl)
            try simp only [Act.put, List.setIfInBounds_toArray, List.set_cons_zero, List.set_cons_succ]
            refine take_yes 17 80 rfl rfl (by kernel_rfl) (by kernel_rfl) (by kernel_rfl) (fun _ _ _ h => h) (by rfl) (by assumption) (v := ?_) ?_ ?_
            rotate_left
            · intro w hSw; (try dsimp only at hSw); go_simp; (try with_reducible rfl)
            try simp only [Act.put, List.setIfInBounds_toArray, List.set_cons_zero, List.set_cons_succ]
            refine take_yes 18 81 rfl rfl (by kernel_rfl) (by kernel_rfl) (by kernel_rfl) (fun _ _ _ h => h) (by rfl) (by assumption) (v := ?_) ?_ ?_
            rotate_left
            · intro w hSw; (try dsimp only at hSw); go_simp; (try with_reducible rfl)
            try simp only [Act.put, List.setIfInBounds_toArray, List.set_cons_zero, List.set_cons_succ]
            refine take_yes 19 82 rfl rfl (by kernel_rfl) (by kernel_rfl) (by kernel_rfl) (fun _ _ _ h => h) (by rfl) (by assumption) (v := ?_) ?_ ?_
            rotate_left
            · intro w hSw; (try dsimp only at hSw); go_simp; (try with_reducible rfl)
            try simp only [Act.put, List.setIfInBounds_toArray, List.set_cons_zero, List.set_cons_succ]
            refine take_yes 20 83 rfl rfl (by kernel_rfl) (by kernel_rfl) (by kernel_rfl) (fun _ _ _ h => h) (by rfl) (by assumption) (v := ?_) ?_ ?_
            rotate_left
            · intro w hSw; (try dsimp only at hSw); go_simp; (try with_reducible rfl)
            try simp only [Act.put, List.setIfInBounds_toArray, List.set_cons_zero, List.set_cons_succ]
            refine take_yes 21 84 rfl rfl (by kernel_rfl) (by kernel_rfl) (by kernel_rfl) (fun _ _ _ h => h) (by rfl) (by assumption) (v := ?_) ?_ ?_
            rotate_left
            · intro w hSw; (try dsimp only at hSw); go_simp; (try with_reducible rfl)
            try simp only [Act.put, List.setIfInBounds_toArray, List.set_cons_zero, List.set_cons_succ]
            refine take_yes 22 85 rfl rfl (by kernel_rfl) (by kernel_rfl) (by kernel_rfl) (fun _ _ _ h => h) (by rfl) (by assumption) (v := ?_) ?_ ?_
            rotate_left
            · intro w hSw; (try dsimp only at hSw); go_simp; (try with_reducible rfl)
            try simp only [Act.put, List.setIfInBounds_toArray, List.set_cons_zero, List.set_cons_succ]
            refine take_yes 23 86 rfl rfl (by kernel_rfl) (by kernel_rfl) (by kernel_rfl) (fun _ _ _ h => h) (by rfl) (by assumption) (v := ?_) ?_ ?_
            rotate_left
            · intro w hSw; (try dsimp only at hSw); go_simp; (try with_reducible rfl)
            try simp only [Act.put, List.setIfInBounds_toArray, List.set_cons_zero, List.set_cons_succ]
            refine wpAnyH_ready (rs := [24]) (by kernel_rfl) (by simp) ?_
            refine AllReadyH.cons (o := _) rfl (fun K hK => ?_) AllReadyH.nil
            go_simp
            refine (SETH.out _ ((Fr.refl [] wr).drew)).mono ?_
            rintro e w2 ⟨rfl, L2, K2, hK2, hl2, hkn, hF2, hnew⟩
            have hFw2 : Fr [] w w2 := (HFw.out.drew).sub hF2 (fun y hy => Or.inr (HFT.out y hy))
            (try go_wp2_with fail)
            refine hK.out _ _ ?_ (fun hHeld => ?_)
            · (try dsimp only); exact HX.out _ hFw2
            clear hK K
            try simp only [Act.put, List.setIfInBounds_toArray, List.set_cons_zero, List.set_cons_succ]
            refine take_yes 25 88 rfl rfl (by kernel_rfl) (by kernel_rfl) (by kernel_rfl) (fun _ _ _ h => h) (by rfl) (by assumption) (v := ?_) ?_ ?_
            rotate_left
            · intro w hSw; (try dsimp only at hSw); go_simp; (try with_reducible rfl)
            try simp only [Act.put, List.setIfInBounds_toArray, List.set_cons_zero, List.set_cons_succ]
            refine take_yes 26 89 rfl rfl (by kernel_rfl) (by kernel_rfl) (by kernel_rfl) (fun _ _ _ h => h) (by rfl) (by assumption) (v := ?_) ?_ ?_
            rotate_left
            · intro w hSw; (try dsimp only at hSw); go_simp; (try with_reducible rfl)
            try simp only [Act.put, List.setIfInBounds_toArray, List.set_cons_zero, List.set_cons_succ]
            refine wpAnyH_done (by kernel_rfl) ?_ _
            obtain ⟨⟨cn0, cs0⟩, _⟩ := HX.out w2 hFw2
            have HK2 := Lib.hid hK2
            have HL2 := Lib.hid hl2
            have HKN := Lib.hid (hkn (fw1, fw2))
            have HF2 := Lib.hid hFw2
            have HFT2 : Hid (∀ y, y ∈ footS bm L2 → w.heap.size ≤ y) := Lib.hid (by
              intro y hy
              rcases List.mem_cons.1 hy with rfl | hy
              · exact HFT.out _ List.mem_cons_self
              · rcases hnew y hy with h | h
                · exact HFT.out _ (List.mem_cons_of_mem _ h)
                · exact Nat.le_trans HFw.out.size (Nat.le_trans (Fr.refl [] wr).drew.size h))
            clear hK2 hl2 hkn hF2 hFw2 hnew hHeld SETH HK HFT HFw
            go_wp2_with fail
            refine (SPN.out _).mono ?_
            rintro e w3 ⟨rfl, hF3⟩
            go_wp2_with fail
            refine (SPF.out _).mono ?_
            rintro e w4 ⟨rfl, hF4⟩
            have HF4 := Lib.hid (HF2.out.trans (hF3.trans hF4))
            have HK4 := Lib.hid (HK2.out.fr0 (hF3.trans hF4))
            obtain ⟨⟨cn4, cs4⟩, _⟩ := HX.out w4 HF4.out
            have heq := fun W => eq_who n1 n2 fw1 fw2 W
            by_cases hw : (fw1, fw2) = (n1, n2)
            · rw [decide_eq_true hw] at heq
              have HKE : Hid (know L2 K2 (fw1, fw2) = if s = [] then none else some s) := Lib.hid (by rw [HKN.out, if_pos hw])
              clear hF3 hF4 cn0 cs0 hw HKN HF2 HK2
              go_wp2_with fail
              go_quiet (fail)
              go_wp2_with fail
              go_roundw
              case rel =>
                refine ⟨j + 1, L2, K2, s, by omega, by omega, by go_num, ?_, rfl, HSL.out, fun v hv => ?_, HK4.out.fr0 ((Fr.refl [] w4).drewN _), by have := HL2.out; have := HLJ.out; omega, HFT2.out, HF4.out.drewN _⟩
                · rw [HKE.out]
                  by_cases hs0 : s = []
                  · rw [if_pos hs0, hs0]; rfl
                  · rw [if_neg hs0]
                    cases s with
                    | nil => exact absurd rfl hs0
                    | cons => rfl
                · rw [HKE.out] at hv
                  split at hv
                  · cases hv
                  · injection hv
              case measure => (simp [intOf]) <;> omega
            · rw [decide_eq_false hw] at heq
              have HKE : Hid (know L2 K2 (fw1, fw2) = know L K (fw1, fw2)) := Lib.hid (by rw [HKN.out, if_neg hw])
              clear hF3 hF4 cn0 cs0 hw HKN HF2 HK2
              go_wp2_with fail
              go_roundw
              case rel =>
                exact ⟨j + 1, L2, K2, wl, by omega, by omega, by go_num, by rw [HKE.out, HIS.out], rfl, HWL.out, fun v hv => HWV.out v (by rw [← HKE.out]; exact hv), HK4.out, by have := HL2.out; have := HLJ.out; omega, HFT2.out, HF4.out⟩
              case measure => (simp [intOf]) <;> omega
      · have hend : ¬ j < len0 ∨ (j < len0 ∧ ¬ j < len1) := by omega
        clear hjl
        have KP2 := Lib.hid (KP.out wr g bm L K HK.out)
        obtain ⟨kn, hkn⟩ : ∃ x, know L K (fw1, fw2) = x := ⟨_, rfl⟩
        rw [hkn] at KP2 HIS HWV
        have HML : Hid ((md5 (chapL id wl va)).length ≤ 1000) := Lib.hid (by rw [md5_length]; omega)
        have CH2 := Lib.hid fun W => CH.out W wl HWL.out
        have HKN0 := Lib.hid hkn
        have KC2 := Lib.hid fun W K2 (h : Kw W g bm 0 1 L K2) (hk : ∀ who, know L K2 who = know L K who) => show Calls _ _ _ _ _ from (by have := KC.out W g bm L K2 re HB.out.2.2.2.2 h; rw [hk, HKN0.out] at this; exact this)
        have KC4 := Lib.hid fun W K2 (h : Kw W g bm 0 1 L K2) (hk : ∀ who, know L K2 who = know L K who) => show Calls _ _ _ _ _ from (by have := KC.out W g bm L K2 (md5 (chapL id wl va)) HML.out h; rw [hk, HKN0.out] at this; exact this)
        clear hkn KP KC CH HML
        have hwe : kn = none ∧ isb = false ∨ kn = some wl ∧ isb = true := by
          cases kn with
          | none => exact Or.inl ⟨rfl, HIS.out.symm⟩
          | some v => exact Or.inr ⟨by rw [HWV.out v rfl], HIS.out.symm⟩
        clear HIS HWV
        rcases hend with hend | ⟨hend1, hend⟩
        all_goals
          rcases hwe with ⟨rfl, rfl⟩ | ⟨rfl, rfl⟩
          · rw [show ∀ f, saysE f none = 30 from fun _ => rfl] at KP2
            simp only [show ∀ f, saysE f none = 30 from fun _ => rfl] at KC2 KC4
            go_wp2_with fail
            refine KP2.out.mono ?_
            rintro e w2 ⟨rfl, ⟨K2, hK2, hkn2⟩, hF2⟩
            have HFW2 := Lib.hid (HFw.out.sub hF2 (fun y hy => Or.inr (HFT.out y (List.mem_cons_of_mem _ hy))))
            have KC3 := Lib.hid (KC2.out w2 K2 hK2 hkn2)
            have HKN2 := Lib.hid hkn2
            clear hK2 hkn2 hF2
            go_wp2_with fail
            refine KC3.out.mono ?_
            rintro e w3 ⟨rfl, ⟨K3, hK3, hkn3⟩, hF3⟩
            have HFW3 := Lib.hid (HFW2.out.sub hF3 (fun y hy => Or.inr (HFT.out y (List.mem_cons_of_mem _ hy))))
            have HK3 := Lib.hid (And.intro hK3 (fun who => (hkn3 who).trans (HKN2.out who)))
            clear hK3 hkn3 hF3 KC3
            go_wp2_with fail
            refine (CH2.out _).mono ?_
            rintro e w4 ⟨rfl, hF4⟩
            have HFW4 := Lib.hid (HFW3.out.trans hF4)
            have KC5 := Lib.hid (KC4.out w4 K3 (HK3.out.1.fr0 hF4) HK3.out.2)
            clear hF4
            go_wp2_with fail
            refine KC5.out.mono ?_
            rintro e w5 ⟨rfl, _, hF5⟩
            have HFW5 := Lib.hid (HFW4.out.sub hF5 (fun y hy => Or.inr (HFT.out y (List.mem_cons_of_mem _ hy))))
            clear hF5 KC5
            go_wp2_with fail
            refine (AL.out _).mono ?_
            rintro e w6 ⟨rfl, hF6⟩
            have HFW6 := Lib.hid (HFW5.out.trans hF6)
            clear hF6
            go_wp2_with fail
            go_ret
            exact ⟨rfl, HFW6.out.below (Nat.le_refl _) (by simp)⟩
          · rw [show ∀ f, saysE f (some wl) = if f wl = true then 0 else 30 from fun _ => rfl] at KP2
            simp only [show ∀ f, saysE f (some wl) = if f wl = true then 0 else 30 from fun _ => rfl, decide_true, if_true] at KC2 KC4
            by_cases e1 : wl = se
            · subst e1
              rw [decide_eq_true rfl] at KP2
              by_cases e2 : md5 (chapL id wl va) = re
              · subst e2
                simp only [decide_true] at KC2
                simp only [Bool.false_eq_true, if_true, if_false] at KP2 KC2
                go_wp2_with fail
                refine KP2.out.mono ?_
                rintro e w2 ⟨rfl, ⟨K2, hK2, hkn2⟩, hF2⟩
                have HFW2 := Lib.hid (HFw.out.sub hF2 (fun y hy => Or.inr (HFT.out y (List.mem_cons_of_mem _ hy))))
                have KC3 := Lib.hid (KC2.out w2 K2 hK2 hkn2)
                have HKN2 := Lib.hid hkn2
                clear hK2 hkn2 hF2
                go_wp2_with fail
                refine KC3.out.mono ?_
                rintro e w3 ⟨rfl, ⟨K3, hK3, hkn3⟩, hF3⟩
                have HFW3 := Lib.hid (HFW2.out.sub hF3 (fun y hy => Or.inr (HFT.out y (List.mem_cons_of_mem _ hy))))
                have HK3 := Lib.hid (And.intro hK3 (fun who => (hkn3 who).trans (HKN2.out who)))
                clear hK3 hkn3 hF3 KC3
                go_wp2_with fail
                refine (CH2.out _).mono ?_
                rintro e w4 ⟨rfl, hF4⟩
                have HFW4 := Lib.hid (HFW3.out.trans hF4)
                have KC5 := Lib.hid (KC4.out w4 K3 (HK3.out.1.fr0 hF4) HK3.out.2)
                clear hF4
                go_wp2_with fail
                refine KC5.out.mono ?_
                rintro e w5 ⟨rfl, _, hF5⟩
                have HFW5 := Lib.hid (HFW4.out.sub hF5 (fun y hy => Or.inr (HFT.out y (List.mem_cons_of_mem _ hy))))
                clear hF5 KC5
                go_wp2_with fail
                refine (AL.out _).mono ?_
                rintro e w6 ⟨rfl, hF6⟩
                have HFW6 := Lib.hid (HFW5.out.trans hF6)
                clear hF6
                go_wp2_with fail
                refine (CH2.out _).mono ?_
                rintro e w7 ⟨rfl, hF7⟩
                have HFW7 := Lib.hid (HFW6.out.trans hF7)
                clear hF7
                go_wp2_with fail
                go_ret
                exact ⟨rfl, HFW7.out.below (Nat.le_refl _) (by simp)⟩
              · have hx2 : ¬ re = (md5 (chapL id wl va)) := fun e => e2 e.symm
                have hy2 : ¬ B re = B (md5 (chapL id wl va)) := fun e => hx2 (B_inj.1 e)
                have hz2 : (B re == B (md5 (chapL id wl va))) = false := by rw [str_eq_b]; exact decide_eq_false hx2
                have hw2 : (re == (md5 (chapL id wl va))) = false := by simpa using hx2
                simp only [decide_eq_false e2] at KC2
                simp only [Bool.false_eq_true, if_true, if_false] at KP2 KC2
                clear e2
                go_wp2_with fail
                refine KP2.out.mono ?_
                rintro e w2 ⟨rfl, ⟨K2, hK2, hkn2⟩, hF2⟩
                have HFW2 := Lib.hid (HFw.out.sub hF2 (fun y hy => Or.inr (HFT.out y (List.mem_cons_of_mem _ hy))))
                have KC3 := Lib.hid (KC2.out w2 K2 hK2 hkn2)
                have HKN2 := Lib.hid hkn2
                clear hK2 hkn2 hF2
                go_wp2_with fail
                refine KC3.out.mono ?_
                rintro e w3 ⟨rfl, ⟨K3, hK3, hkn3⟩, hF3⟩
                have HFW3 := Lib.hid (HFW2.out.sub hF3 (fun y hy => Or.inr (HFT.out y (List.mem_cons_of_mem _ hy))))
                have HK3 := Lib.hid (And.intro hK3 (fun who => (hkn3 who).trans (HKN2.out who)))
                clear hK3 hkn3 hF3 KC3
                go_wp2_with fail
                refine (CH2.out _).mono ?_
                rintro e w4 ⟨rfl, hF4⟩
                have HFW4 := Lib.hid (HFW3.out.trans hF4)
                have KC5 := Lib.hid (KC4.out w4 K3 (HK3.out.1.fr0 hF4) HK3.out.2)
                clear hF4
                go_wp2_with fail
                refine KC5.out.mono ?_
                rintro e w5 ⟨rfl, _, hF5⟩
                have HFW5 := Lib.hid (HFW4.out.sub hF5 (fun y hy => Or.inr (HFT.out y (List.mem_cons_of_mem _ hy))))
                clear hF5 KC5
                go_wp2_with fail
                refine (AL.out _).mono ?_
                rintro e w6 ⟨rfl, hF6⟩
                have HFW6 := Lib.hid (HFW5.out.trans hF6)
                clear hF6
                go_wp2_with fail
                refine (CH2.out _).mono ?_
                rintro e w7 ⟨rfl, hF7⟩
                have HFW7 := Lib.hid (HFW6.out.trans hF7)
                clear hF7
                go_wp2_with fail
                go_ret
                exact ⟨rfl, HFW7.out.below (Nat.le_refl _) (by simp)⟩
            · have hx1 : ¬ se = wl := fun e => e1 e.symm
              have hy1 : ¬ B se = B wl := fun e => hx1 (B_inj.1 e)
              have hz1 : (B se == B wl) = false := by rw [str_eq_b]; exact decide_eq_false hx1
              have hw1 : (se == wl) = false := by simpa using hx1
              rw [decide_eq_false e1] at KP2
              by_cases e2 : md5 (chapL id wl va) = re
              · subst e2
                simp only [decide_true] at KC2
                simp only [Bool.false_eq_true, if_true, if_false] at KP2 KC2
                clear e1
                go_wp2_with fail
                refine KP2.out.mono ?_
                rintro e w2 ⟨rfl, ⟨K2, hK2, hkn2⟩, hF2⟩
                have HFW2 := Lib.hid (HFw.out.sub hF2 (fun y hy => Or.inr (HFT.out y (List.mem_cons_of_mem _ hy))))
                have KC3 := Lib.hid (KC2.out w2 K2 hK2 hkn2)
                have HKN2 := Lib.hid hkn2
                clear hK2 hkn2 hF2
                go_wp2_with fail
                refine KC3.out.mono ?_
                rintro e w3 ⟨rfl, ⟨K3, hK3, hkn3⟩, hF3⟩
                have HFW3 := Lib.hid (HFW2.out.sub hF3 (fun y hy => Or.inr (HFT.out y (List.mem_cons_of_mem _ hy))))
                have HK3 := Lib.hid (And.intro hK3 (fun who => (hkn3 who).trans (HKN2.out who)))
                clear hK3 hkn3 hF3 KC3
                go_wp2_with fail
                refine (CH2.out _).mono ?_
                rintro e w4 ⟨rfl, hF4⟩
                have HFW4 := Lib.hid (HFW3.out.trans hF4)
                have KC5 := Lib.hid (KC4.out w4 K3 (HK3.out.1.fr0 hF4) HK3.out.2)
                clear hF4
                go_wp2_with fail
                refine KC5.out.mono ?_
                rintro e w5 ⟨rfl, _, hF5⟩
                have HFW5 := Lib.hid (HFW4.out.sub hF5 (fun y hy => Or.inr (HFT.out y (List.mem_cons_of_mem _ hy))))
                clear hF5 KC5
                go_wp2_with fail
                refine (AL.out _).mono ?_
                rintro e w6 ⟨rfl, hF6⟩
                have HFW6 := Lib.hid (HFW5.out.trans hF6)
                clear hF6
                go_wp2_with fail
                refine (CH2.out _).mono ?_
                rintro e w7 ⟨rfl, hF7⟩
                have HFW7 := Lib.hid (HFW6.out.trans hF7)
                clear hF7
                go_wp2_with fail
                go_ret
                exact ⟨rfl, HFW7.out.below (Nat.le_refl _) (by simp)⟩
              · have hx2 : ¬ re = (md5 (chapL id wl va)) := fun e => e2 e.symm
                have hy2 : ¬ B re = B (md5 (chapL id wl va)) := fun e => hx2 (B_inj.1 e)
                have hz2 : (B re == B (md5 (chapL id wl va))) = false := by rw [str_eq_b]; exact decide_eq_false hx2
                have hw2 : (re == (md5 (chapL id wl va))) = false := by simpa using hx2
                simp only [decide_eq_false e2] at KC2
                simp only [Bool.false_eq_true, if_true, if_false] at KP2 KC2
                clear e1
                clear e2
                go_wp2_with fail
                refine KP2.out.mono ?_
                rintro e w2 ⟨rfl, ⟨K2, hK2, hkn2⟩, hF2⟩
                have HFW2 := Lib.hid (HFw.out.sub hF2 (fun y hy => Or.inr (HFT.out y (List.mem_cons_of_mem _ hy))))
                have KC3 := Lib.hid (KC2.out w2 K2 hK2 hkn2)
                have HKN2 := Lib.hid hkn2
                clear hK2 hkn2 hF2
                go_wp2_with fail
                refine KC3.out.mono ?_
                rintro e w3 ⟨rfl, ⟨K3, hK3, hkn3⟩, hF3⟩
                have HFW3 := Lib.hid (HFW2.out.sub hF3 (fun y hy => Or.inr (HFT.out y (List.mem_cons_of_mem _ hy))))
                have HK3 := Lib.hid (And.intro hK3 (fun who => (hkn3 who).trans (HKN2.out who)))
                clear hK3 hkn3 hF3 KC3
                go_wp2_with fail
                refine (CH2.out _).mono ?_
                rintro e w4 ⟨rfl, hF4⟩
                have HFW4 := Lib.hid (HFW3.out.trans hF4)
                have KC5 := Lib.hid (KC4.out w4 K3 (HK3.out.1.fr0 hF4) HK3.out.2)
                clear hF4
                go_wp2_with fail
                refine KC5.out.mono ?_
                rintro e w5 ⟨rfl, _, hF5⟩
                have HFW5 := Lib.hid (HFW4.out.sub hF5 (fun y hy => Or.inr (HFT.out y (List.mem_cons_of_mem _ hy))))
                clear hF5 KC5
                go_wp2_with fail
                refine (AL.out _).mono ?_
                rintro e w6 ⟨rfl, hF6⟩
                have HFW6 := Lib.hid (HFW5.out.trans hF6)
                clear hF6
                go_wp2_with fail
                refine (CH2.out _).mono ?_
                rintro e w7 ⟨rfl, hF7⟩
                have HFW7 := Lib.hid (HFW6.out.trans hF7)
                clear hF7
                go_wp2_with fail
                go_ret
                exact ⟨rfl, HFW7.out.below (Nat.le_refl _) (by simp)⟩
  · have hcase : (60 : Int) < len0 ∨ (¬ (60 : Int) < len0 ∧ (1000 : Int) < (fu.length : Int) + se.length + va.length + re.length) := by omega
    clear hb
    rcases hcase with hc | ⟨hc1, hc⟩
    all_goals
      go_enter Try.func11, Try.ntmps11
      go_wp2_with fail
      refine (AL.out _).mono ?_
      rintro e w1 ⟨rfl, hF1⟩
      go_wp2_with fail
      go_ret
      exact ⟨rfl, hF1.below (Nat.le_refl _) (by simp)⟩
end Go.Proofs.Ytpljdnocdhppmaa
