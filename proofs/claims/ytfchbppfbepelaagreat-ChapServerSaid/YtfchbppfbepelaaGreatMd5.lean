/- The digest: the program's. -/
import Derived.Test.YtfchbppfbepelaaGreatOn
import Derived.Test.YtfchbppfbepelaaGreatOwn
namespace Go.Proofs.YtfchbppfbepelaaGreat
open Go.RowKit
set_option linter.unusedVariables false

def lenV : Value → Nat
  | .slice _ n _ => n
  | _ => 0
theorem infoU8 : (Tryz.prog.info? 5).map (fun i => (i.zero, i.size, i.bytes)) = some (some (.int .u8 0), 1, 1) := by kernel_rfl
def tailI (k : Nat) : List Int := 128 :: List.replicate k 0
theorem tailI_succ (k : Nat) : tailI (k + 1) = tailI k ++ [0] := by simp [tailI, List.replicate_succ']
def arr8 (bs : List UInt8) : Array Value := (bs.map fun b : UInt8 => Value.int .u8 (b.toNat : Int)).toArray
theorem own_at {w : World} {base : Nat} {e : TypeId} {v : Value} {n : Nat} {xs : List Value} (h : w.ownsRow base e 1 v (n + 1) xs) : ∃ g cap, v = .slice (some ⟨g, 0, none⟩) (n + 1) cap ∧ base ≤ g ∧ g < w.heap.size := by
  rcases h.2 with ⟨_, h0⟩ | ⟨g, cap, cur, hv, hb, hg, _⟩
  · omega
  · exact ⟨g, cap, hv, hb, lt_of_block hg⟩
theorem Blk.grown {w w' : World} {b : Nat} {cs : Array Value} {T : Nat} {row : Option Nat} (h : Blk w b cs T) (hg : w.grownBy w' row) (hn : ∀ g, row = some g → b < g) : Blk w' b cs T := by
  have hlt := h.lt
  unfold Blk at *
  rw [hg.block b hlt (fun e => by have := hn b e.symm; omega)]; exact h
def longI (n k : Nat) : List Int := (List.range k).map fun i => (n : Int) * 8 / 2 ^ (8 * i) % 256
theorem longI_succ (n k : Nat) : longI n (k + 1) = longI n k ++ [(n : Int) * 8 / 2 ^ (8 * k) % 256] := by simp [longI, List.range_succ]
theorem tail_eq (n : Nat) : bytesOf (tailI (zerosN n) ++ longI n 8) = tailL n := by
  have h : ∀ i : Nat, (UInt8.ofNat ((n : Int) * 8 / 2 ^ (8 * i) % 256).toNat) = UInt8.ofNat (n * 8 / 256 ^ i % 256) := fun i => by
    have e : (n : Int) * 8 / 2 ^ (8 * i) % 256 = ((n * 8 / 256 ^ i % 256 : Nat) : Int) := by
      rw [show (256 : Nat) ^ i = 2 ^ (8 * i) from by rw [Nat.pow_mul]]
      simp
    rw [e, Int.toNat_natCast]
  have e8 : (longI n 8).map (fun x => UInt8.ofNat x.toNat) = longL n := by
    unfold longI longL
    rw [List.map_map]
    apply List.map_congr_left
    intro i _
    exact h i
  unfold bytesOf tailL tailI
  rw [List.map_append, e8, List.map_cons, List.map_replicate]
  rfl
theorem fc4 {w : World} {g T : Nat} {a b c d : Value} (h : Blk w g #[a, b, c, d] T) :
    w.cell? ⟨g, 0, none⟩ = some a ∧ w.cell? ⟨g, 1, none⟩ = some b ∧ w.cell? ⟨g, 2, none⟩ = some c ∧ w.cell? ⟨g, 3, none⟩ = some d ∧
    w.frozen? ⟨g, 0, none⟩ = false ∧ w.frozen? ⟨g, 1, none⟩ = false ∧ w.frozen? ⟨g, 2, none⟩ = false ∧ w.frozen? ⟨g, 3, none⟩ = false :=
  ⟨h.c 0 _ rfl, h.c 1 _ rfl, h.c 2 _ rfl, h.c 3 _ rfl, h.fz 0, h.fz 1, h.fz 2, h.fz 3⟩
theorem st4 {w : World} {g T : Nat} {a b c d : Value} (h : Blk w g #[a, b, c, d] T) (x y z u : Value) :
    Blk ((((w.setCell ⟨g, 0, none⟩ x).setCell ⟨g, 1, none⟩ y).setCell ⟨g, 2, none⟩ z).setCell ⟨g, 3, none⟩ u) g #[x, y, z, u] T := (((h.set 0 x).set 1 y).set 2 z).set 3 u
theorem wordsL_lt (L : List UInt8) (j : Nat) : (wordsL L).getD j 0 < 4294967296 := by
  have hw : ∀ j, wordAt L j < 4294967296 := fun j => by
    have h := fun i => (L.getD i 0).toNat_lt
    have h0 := h (4 * j)
    have h1 := h (4 * j + 1)
    have h2 := h (4 * j + 2)
    have h3 := h (4 * j + 3)
    unfold wordAt
    omega
  have hd : ∀ (m : List Nat) (f : Nat → Nat), (∀ x, f x < 4294967296) → (m.map f).getD j 0 < 4294967296 := fun m f hf => by
    rw [List.getD, List.getElem?_map]
    cases m[j]? with
    | none => simp
    | some x => simpa using hf x
  exact hd _ _ hw
theorem on_lit (s : St) (ws : List Nat) (w : World) (hs : s.Ok) (hw : ws.length = 16) (hw32 : ∀ j, ws.getD j 0 < 4294967296) :
    Calls Tryz.prog 320 #[.agg #[.int .u32 (s.a : Int), .int .u32 (s.b : Int), .int .u32 (s.c : Int), .int .u32 (s.d : Int)], .agg (arr32 ws)] w
      fun e w' => e = .returned (.agg #[.int .u32 ((onS s ws).a : Int), .int .u32 ((onS s ws).b : Int), .int .u32 ((onS s ws).c : Int), .int .u32 ((onS s ws).d : Int)]) ∧ Fr [] w w' := on_any s ws w hs hw hw32
theorem info16b : (Tryz.prog.info? 381).map (·.size) = some 16 := by kernel_rfl
theorem arr8_size (l : List UInt8) : (arr8 l).size = l.length := by simp [arr8]
theorem arr8_one (l : List UInt8) : (arr8 l).all (·.oneCell') = true := by simp [arr8, Value.oneCell']
def outC (t : St) (k : Nat) : Array Value := ((List.range 16).map fun i => Value.int .u8 ((if i < k then outAt t i else 0 : Nat) : Int)).toArray
theorem outC_size (t : St) (k : Nat) : (outC t k).size = 16 := by simp [outC]
theorem outC_get (t : St) (k j : Nat) (hj : j < 16) : (outC t k)[j]? = some (.int .u8 ((if j < k then outAt t j else 0 : Nat) : Int)) := by simp [outC, hj]
theorem outC_next (t : St) (k : Nat) (hk : k < 16) : (outC t k).setIfInBounds k (.int .u8 ((outAt t k : Nat) : Int)) = outC t (k + 1) := by
  apply Array.ext
  · simp [outC]
  · intro j h1 h2
    rw [outC_size] at h2
    rw [Array.getElem_setIfInBounds (by rw [outC_size]; exact h2)]
    by_cases h : k = j
    · subst h
      simp [outC]
    · rw [if_neg h]
      have e : (j < k + 1) = (j < k) := by apply propext; omega
      simp [outC, e]
theorem outC_zero (t : St) : outC t 0 = #[.int .u8 0, .int .u8 0, .int .u8 0, .int .u8 0, .int .u8 0, .int .u8 0, .int .u8 0, .int .u8 0, .int .u8 0, .int .u8 0, .int .u8 0, .int .u8 0, .int .u8 0, .int .u8 0, .int .u8 0, .int .u8 0] := by
  simp [outC, List.range_succ]
theorem outC_end (t : St) : outC t 16 = arr8 (outL t) := by
  have h : ((List.range 16).map fun i => Value.int .u8 ((if i < 16 then outAt t i else 0 : Nat) : Int)) = ((List.range 16).map fun i => UInt8.ofNat (outAt t i)).map fun b : UInt8 => Value.int .u8 (b.toNat : Int) := by
    rw [List.map_map]
    apply List.map_congr_left
    intro j hj
    rw [if_pos (List.mem_range.1 hj)]
    show Value.int .u8 _ = Value.int .u8 (((UInt8.ofNat (outAt t j)).toNat : Nat) : Int)
    have : outAt t j < 256 := by unfold outAt; omega
    rw [show (UInt8.ofNat (outAt t j)).toNat = outAt t j from by simp; omega]
  exact congrArg List.toArray h
theorem stC_get (t : St) (j : Nat) (hj : j < 4) : (stC t)[j]? = some (.int .u32 (t.get j : Nat)) := by
  have h : j = 0 ∨ j = 1 ∨ j = 2 ∨ j = 3 := by omega
  rcases h with rfl | rfl | rfl | rfl <;> rfl
theorem St.get_lt {t : St} (h : t.Ok) (j : Nat) : t.get j < 4294967296 := by
  unfold St.get
  split
  · exact h.a
  · split
    · exact h.b
    · split
      · exact h.c
      · exact h.d
def strV : Value → Nat
  | .string s => s.size
  | _ => 0
def z16 : Array Value := #[.int .u8 0, .int .u8 0, .int .u8 0, .int .u8 0, .int .u8 0, .int .u8 0, .int .u8 0, .int .u8 0, .int .u8 0, .int .u8 0, .int .u8 0, .int .u8 0, .int .u8 0, .int .u8 0, .int .u8 0, .int .u8 0]

set_option maxRecDepth 100000 in
set_option maxHeartbeats 2000000 in
theorem md5_any (l : List UInt8) (w : World) (hl : l.length ≤ 100000) :
    Calls Tryz.prog 284 #[.string (B l)] w fun e w' => e = .returned (.agg (arr8 (md5 l))) ∧ Fr [] w w' := by
  obtain ⟨i0, hi, hz0, hz1, hz2⟩ := info_parts infoU8
  obtain ⟨R, hR⟩ : ∃ R, R = z16 := ⟨_, rfl⟩
  go_enter Tryz.func284, Tryz.ntmps284
  go_wp2
  go_loopw [3] (fun v wr => ∃ k : Nat, k ≤ zerosN l.length ∧ wr.ownsRow (w.heap.size + 1) 5 1 v (k + 1) ((tailI k).map (Value.int .u8)) ∧ Blk wr w.heap.size R 381 ∧ Fr [] w wr) (fun v _ => 70 - lenV v)
  case atStart =>
    refine ⟨0, Nat.zero_le _, ?_, ?_, ((Fr.refl _ _).alloc _).alloc _⟩
    · have := World.ownsRow_lit (base := w.heap.size + 1) (e := 5) (size := 1) (w.alloc (.cells z16 381)) #[.int .u8 128] 1 (by simp) (by decide) rfl
      rw [World.size_alloc] at this
      exact this
    · rw [hR]; exact (Blk.new _ _ _).alloc _
  case round =>
    obtain ⟨k, hk, hown, hB, hF⟩ := hrel
    have HR := Lib.hid hR
    clear hR
    obtain ⟨g, cap, rfl, hg0, hg1⟩ := own_at hown
    have hZ : zerosN l.length < 64 := by unfold zerosN; omega
    by_cases hlt : k < zerosN l.length
    · have hb : (((l.length : Int) + ((k : Int) + 1)) % 64 != 56) = true := by
        rw [bne_iff_ne]; unfold zerosN at hlt; omega
      have HZ := Lib.hid hZ
      have Hlt := Lib.hid hlt
      clear hZ hlt hk
      have k64 : k < 64 := by have := HZ.out; have := Hlt.out; omega
      go_wp2_with (at_builtin; refine wpList_append_own _ rfl _ _ 383 rfl (w.heap.size + 1) 5 i0 (.int .u8 0) 1 1 Tryz.underlying383 hi hz0 hz1 hz2 rfl (by decide) _ _ _ rfl (hown.alloc _) ⟨wr.heap.size, 0, none⟩ 1 1 [.int .u8 0] rfl rfl ?c1 ?c2 ?c3 ?c4 ?c5 ?_)
      case c1 => exact new_cells _ _ _
      case c2 => simp [Value.oneCell']
      case c3 => unfold maxLen; omega
      case c4 => omega
      case c5 => simp; omega
      intro v' w1 hown' hgr' _
      have hF1 : Fr [] w w1 := (hF.alloc _).grown hgr' (fun k hk => by have := own_new hown k hk; omega)
      have hB1 : Blk w1 w.heap.size R 381 := (hB.alloc _).grown hgr' (fun k hk => by have := own_new hown k hk; omega)
      obtain ⟨g', cap', rfl, hg0', hg1'⟩ := own_at hown'
      clear hgr' hown hF hB
      go_wp2
      go_roundw
      case rel => exact ⟨k + 1, Hlt.out, by rw [tailI_succ, List.map_append]; exact hown', hB1, hF1⟩
      case measure => simp [lenV]; omega
    · have hkz : k = zerosN l.length := by omega
      have hb : (((l.length : Int) + ((k : Int) + 1)) % 64 != 56) = false := by
        rw [bne_eq_false_iff_eq]; unfold zerosN at hkz; omega
      clear hk hlt
      have Hk := Lib.hid hkz
      have k64 : k < 64 := by omega
      clear hkz hZ
      go_wp2
      obtain ⟨wo, rfl⟩ : ∃ wo : World, wo = wr := ⟨_, rfl⟩
      go_loopw [3, 24] (fun v cv wr => ∃ j : Nat, j ≤ 8 ∧ cv = .int .i64 j ∧ wr.ownsRow (w.heap.size + 1) 5 1 v (k + 1 + j) ((tailI k ++ longI l.length j).map (Value.int .u8)) ∧ Blk wr w.heap.size R 381 ∧ Fr [] w wr) (fun _ cv _ => 8 - (intOf cv).toNat)
      case atStart => exact ⟨0, by omega, rfl, by simpa [longI] using hown, hB, hF⟩
      case round =>
        clear hown hB hF
        obtain ⟨j, hj, rfl, hown, hB, hF⟩ := hrel
        by_cases hlt : j < 8
        · go_wp2_with (at_builtin; refine wpList_append_own _ rfl _ _ 383 rfl (w.heap.size + 1) 5 i0 (.int .u8 0) 1 1 Tryz.underlying383 hi hz0 hz1 hz2 rfl (by decide) _ _ _ rfl (hown.alloc _) ⟨wr.heap.size, 0, none⟩ 1 1 [.int .u8 ((l.length : Int) * 8 / 2 ^ (8 * j) % 256)] rfl rfl ?c1 ?c2 ?c3 ?c4 ?c5 ?_)
          case c1 => exact new_cells _ _ _
          case c2 => simp [Value.oneCell']
          case c3 => unfold maxLen; omega
          case c4 => omega
          case c5 => have := hF.size; have := hB.lt; simp; omega
          intro v' w1 hown' hgr' _
          have hF1 : Fr [] w w1 := (hF.alloc _).grown hgr' (fun k hk => by have := own_new hown k hk; omega)
          have hB1 : Blk w1 w.heap.size R 381 := (hB.alloc _).grown hgr' (fun k hk => by have := own_new hown k hk; omega)
          clear hgr' hown hF hB
          go_wp2
          go_roundw
          case rel => exact ⟨j + 1, by omega, by go_num, by rw [longI_succ]; have h := hown'; simp only [List.map_append, List.append_assoc, List.map_cons, List.map_nil] at h ⊢; exact h, hB1, hF1⟩
          case measure => (simp [intOf]) <;> omega
        · have h8 : j = 8 := by omega
          rw [show longI l.length j = longI l.length 8 from by rw [h8]] at hown
          have H8 := Lib.hid h8
          have hd8 : decide ((j : Int) < 8) = false := by simp; omega
          clear h8
          have hcv := run_str_any (P := Tryz.prog) Tryz.underlying383 Tryz.underlying5 Tryz.underlying9 (tailI k ++ longI l.length 8) _ hown
          have hpl : bytesOf (tailI k ++ longI l.length 8) = tailL l.length := by rw [Hk.out]; exact tail_eq _
          rw [hpl] at hcv
          have htl := tailL_length l.length
          have hq : ¬ 9223372036854775807 < l.length + (tailL l.length).length := by rw [htl]; unfold zerosN; omega
          obtain ⟨T, hT⟩ : ∃ T, tailL l.length = T := ⟨_, rfl⟩
          rw [hT] at hcv hq
          have HT := Lib.hid hT
          have Htl := Lib.hid htl
          clear hpl htl hT
          go_wp2
          clear hcv hown
          have hpad : l ++ T = padL l := by rw [← HT.out]; rfl
          rw [hpad]
          have hp := padL_length l
          obtain ⟨M, hM⟩ : ∃ M, padL l = M := ⟨_, rfl⟩
          rw [hM] at hp ⊢
          have HM := Lib.hid hM
          have Hp := Lib.hid hp
          clear hpad hq hM hp
          obtain ⟨wp, rfl⟩ : ∃ wp : World, wp = wr := ⟨_, rfl⟩
          have gg : w.heap.size < wp.heap.size := hB.lt
          go_loopw [0] (fun bv wr => ∃ m : Nat, 64 * m ≤ M.length ∧ bv = .string (B (M.drop (64 * m))) ∧ Blk wr wp.heap.size (stC (mdAt M m)) 410 ∧ Blk wr w.heap.size R 381 ∧ Fr [] w wr) (fun bv _ => strV bv)
          case atStart => exact ⟨0, by omega, rfl, Blk.new _ _ _, hB.alloc _, hF.alloc _⟩
          case round =>
            clear hB hF
            obtain ⟨m, hm, rfl, hS, hB, hF⟩ := hrel
            obtain ⟨p64, plen, plt⟩ := Hp.out
            have ok := mdAt_ok M m
            have hnext : mdAt M (m + 1) = onS (mdAt M m) (wordsL (M.drop (64 * m))) := rfl
            obtain ⟨t, ht⟩ : ∃ t, mdAt M m = t := ⟨_, rfl⟩
            rw [ht] at ok hS hnext
            by_cases hlt : 64 * m < M.length
            · have hsz : 64 ≤ (M.drop (64 * m)).length := by rw [List.length_drop]; omega
              have hsz2 : (M.drop (64 * m)).length ≤ 1000000 := by rw [List.length_drop]; omega
              have hdd : (M.drop (64 * m)).drop 64 = M.drop (64 * (m + 1)) := by rw [List.drop_drop]; congr 1
              have hll : (M.drop (64 * (m + 1))).length + 64 = (M.drop (64 * m)).length := by rw [List.length_drop, List.length_drop]; omega
              obtain ⟨L, hL⟩ : ∃ L, M.drop (64 * m) = L := ⟨_, rfl⟩
              rw [hL] at hsz hsz2 hdd hll hnext ⊢
              have hne : L.isEmpty = false := by cases L with
                | nil => simp at hsz
                | cons => rfl
              have hne2 : (!L.isEmpty) = true := by rw [hne]; rfl
              have htk : (L.drop 64).take (L.length - 64) = L.drop 64 := List.take_of_length_le (by simp)
              have Hdd := Lib.hid hdd
              have Hll := Lib.hid hll
              have Hn := Lib.hid hnext
              have i64 : (64 : Int) ≤ L.length := by omega
              have Hm : Hid (64 * (m + 1) ≤ M.length) := Lib.hid (by omega)
              clear hdd hll hL hnext ht hlt plen plt p64 hm
              have Hok := Lib.hid ok
              have hS : Blk wr wp.heap.size #[.int .u32 (t.a : Int), .int .u32 (t.b : Int), .int .u32 (t.c : Int), .int .u32 (t.d : Int)] 410 := hS
              have k0 := fc4 hS
              clear ok
              go_wp2_with fail
              go_region_with (first
                  | (go_at_call 321; refine (words_any L _ hsz hsz2).mono ?_; rintro e w3 ⟨rfl, hF3⟩; have hS3 := hF3.blk hS.drew (by simp); have hB3 := hF3.blk hB.drew (by simp); have k3 := fc4 hS3)
                  | (go_at_call 320; refine (on_lit t (wordsL L) _ Hok.out rfl (wordsL_lt L)).mono ?_; rintro e w4 ⟨rfl, hF4⟩; have hS4 := hF4.blk hS3 (by simp); have hB4 := hF4.blk hB3 (by simp); have k4 := fc4 hS4))
              all_goals
                clear k0 k3
                go_wp2
                go_roundw
                case rel =>
                  refine ⟨m + 1, Hm.out, ?_, ?_, ?_, ?_⟩
                  · rw [Hdd.out]
                  · rw [Hn.out]
                    exact st4 hS4 _ _ _ _
                  · exact (((hB4.set_other _ (by simp; omega) _).set_other _ (by simp; omega) _).set_other _ (by simp; omega) _).set_other _ (by simp; omega) _
                  · exact ((((hF.drew.trans hF3).trans hF4 |>.setNew (by simp; omega) _).setNew (by simp; omega) _).setNew (by simp; omega) _).setNew (by simp; omega) _
                case measure =>
                  have := Hll.out
                  simp [strV, B_size]
                  omega
            · have hfin : 64 * m = M.length := by omega
              have hm' : mdAt M m = md5S l := by unfold md5S; rw [HM.out, show M.length / 64 = m from by omega]
              rw [ht] at hm'
              rw [List.drop_of_length_le (by omega)]
              have Hmd := Lib.hid hm'
              have Hok := Lib.hid ok
              clear hm' hfin ht hnext ok hlt hm p64 plen plt
              go_wp2
              obtain ⟨wq, rfl⟩ : ∃ wq : World, wq = wr := ⟨_, rfl⟩
              have gq : wp.heap.size < wq.heap.size := hS.lt
              have hz := outC_zero t
              go_loopw [49] (fun cv wr => ∃ i : Nat, i ≤ 16 ∧ cv = .int .i64 i ∧ Blk wr wq.heap.size (outC t i) 381 ∧ Blk wr wp.heap.size (stC t) 410 ∧ Blk wr w.heap.size R 381 ∧ Fr [] w wr) (fun cv _ => 16 - (intOf cv).toNat)
              case atStart =>
                rw [← hz]
                exact ⟨0, by omega, rfl, Blk.new _ _ _, hS.alloc _, hB.alloc _, hF.alloc _⟩
              case round =>
                clear hS hB hF hz
                obtain ⟨i, hi', rfl, hO, hS, hB, hF⟩ := hrel
                by_cases hlt : i < 16
                · have hc := hS.c (i / 4) _ (stC_get t (i / 4) (by omega))
                  have hO1 := hO.c i _ (outC_get t i i hlt)
                  have hO2 := hO.fz i
                  obtain ⟨X, hX⟩ : ∃ X : Int, ((t.get (i / 4) : Nat) : Int) = X := ⟨_, rfl⟩
                  have hb := St.get_lt Hok.out (i / 4)
                  have x0 : 0 ≤ X := by omega
                  have x1 : X < 4294967296 := by omega
                  rw [hX] at hc
                  have HX := Lib.hid hX
                  clear hX hb
                  go_wp2
                  go_roundw
                  case rel =>
                    have e : X / 2 ^ (8 * (i % 4)) % 256 = ((outAt t i : Nat) : Int) := by
                      unfold outAt
                      rw [← HX.out, show (256 : Nat) ^ (i % 4) = 2 ^ (8 * (i % 4)) from by rw [Nat.pow_mul]]
                      simp
                    rw [e]
                    exact ⟨i + 1, by omega, by go_num, by have := hO.set i (.int .u8 ((outAt t i : Nat) : Int)); rw [outC_next t i hlt] at this; exact this, hS.set_other _ (by simp; omega) _, hB.set_other _ (by simp; omega) _, hF.setNew (by simp; omega) _⟩
                  case measure => (simp [intOf]) <;> omega
                · have h16 : i = 16 := by omega
                  have rs : R.size = 16 := by rw [HR.out]; rfl
                  have hO' : Blk wr wq.heap.size (arr8 (md5 l)) 381 := by
                    have := hO; rw [h16, outC_end, Hmd.out] at this; exact this
                  clear hO h16
                  have ws : (arr8 (md5 l)).size = 16 := by rw [arr8_size, md5_length]
                  have w1 : (arr8 (md5 l)).all (·.oneCell') = true := arr8_one _
                  obtain ⟨W, hW⟩ : ∃ W, arr8 (md5 l) = W := ⟨_, rfl⟩
                  rw [hW] at hO' ws w1
                  have HW := Lib.hid hW
                  clear hW
                  go_wp2_with (first | (refine wpList_load_blk rfl 381 (.tmp 7) rfl wq.heap.size 381 W _ hO' rfl Tryz.underlying381 rfl (by rw [ws]; exact info16b) ?_) | (refine wpList_store_blk rfl 381 (.tmp 2) (.tmp 64) rfl w.heap.size 381 R W hB rfl rfl (by rw [ws, rs]) (by rw [ws]; exact info16b) w1 ?_; intro w' hw' hB'))
                  refine ret_cell1 2 381 rfl w.heap.size 381 W _ hB' rfl Tryz.underlying381 rfl (by rw [ws]; exact info16b) rfl ⟨by rw [HW.out], ?_⟩
                  rw [hw'.out]
                  exact hF.setCells _ _ _ (Or.inl (Nat.le_refl _))
end Go.Proofs.YtfchbppfbepelaaGreat
