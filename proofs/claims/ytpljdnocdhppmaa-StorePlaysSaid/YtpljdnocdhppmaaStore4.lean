/- package store: try. -/
import Derived.Test.YtpljdnocdhppmaaStore3
import Derived.Deep.RegionHeld3
namespace Go.Proofs.Ytpljdnocdhppmaa
open Go.RowKit Go.Maps
set_option linter.unusedVariables false

theorem zero_ptr (w : World) : (zeroValue 86).run Try.prog w = .ok (.pointer none) w := by kernel_rfl
theorem look_nil_map (w : World) (a b : List UInt8) (ha : a.length ≤ maxLen) (hb : b.length ≤ maxLen) :
    (Instr.lookup 69 (.map none) (.agg (whoC a b)) false).run Try.prog w = .ok (.pointer none) w := by
  obtain ⟨kl, hk⟩ := whoE.ok (a, b) ⟨ha, hb⟩
  have hk' : keyOf Try.prog 24 (.agg (whoC a b)) = some kl := hk
  rcases who_law.find w hk' [] (by simp) with ⟨h1, _⟩ | ⟨j, e0, _, h2, _⟩
  · simp [Instr.lookup, run_underlying Try.underlying69, who_law.check w _ hk', h1, zero_ptr w, Result.andThen]
  · simp at h2
theorem MapAt.fr {w w' : World} {mp : Option Nat} {L : List (Who × Nat)} (h : MapAt w mp L) {S : List Nat} (hF : Fr S w w') (hn : ∀ b, mp = some b → b ∉ S) : MapAt w' mp L := by
  rcases h with h | ⟨b, rfl, h⟩
  · exact Or.inl h
  · exact Or.inr ⟨b, rfl, h.fr hF (hn b rfl)⟩
def lookV (r : Option Nat) : Value := match r with | none => .pointer none | some x => ptrV x
theorem MapAt.look1 {w : World} {mp : Option Nat} {L : List (Who × Nat)} (h : MapAt w mp L) (a b : List UInt8) (ha : a.length ≤ maxLen) (hb : b.length ≤ maxLen) :
    (Instr.lookup 69 (.map mp) (.agg (whoC a b)) false).run Try.prog w = .ok (lookV (look L (a, b))) w := by
  rcases h with ⟨rfl, rfl⟩ | ⟨m, rfl, h⟩
  · exact look_nil_map w a b ha hb
  · have := h.lookup Try.underlying69 (zero_ptr w) false (a, b) ⟨ha, hb⟩
    refine this.trans ?_
    cases look L (a, b) <;> rfl
/-- what the drawn region that looks a name up leaves as it is -/
theorem tryS_step {w w1 w2 : World} {g : Nat} {mp : Option Nat} {key R : Value} (HK : Hid (∀ w', Fr [] w w' → w'.cell? ⟨g, 2, none⟩ = some (.map mp) ∧ (Instr.lookup 69 (.map mp) key false).run Try.prog w' = .ok R w'))
    (h : (w1.cell? ⟨g, 2, none⟩ = some (.map mp) ∧ (Instr.lookup 69 (.map mp) key false).run Try.prog w1 = .ok R w1) ∧ Fr [] w w1) (hF : Fr [] w1 w2) :
    (w2.cell? ⟨g, 2, none⟩ = some (.map mp) ∧ (Instr.lookup 69 (.map mp) key false).run Try.prog w2 = .ok R w2) ∧ Fr [] w w2 := ⟨HK.out _ (h.2.trans hF), h.2.trans hF⟩
def Good (w : World) (F : Nat) (caps : Array Value) (s : List UInt8) (ok : Bool) : Prop := (∀ (args : Array Value) (w : World), (callFunc F args).run Try.prog w = .ok (.enter F args) w) ∧ ∀ W, Fr [] w W → Calls Try.prog F (#[.string (B s)] ++ caps) W fun e w' => e = .returned (.bool ok) ∧ Fr [] W w'
theorem StoreIs.keepL {w : World} {g : Nat} {lim calm : Int} {mp : Option Nat} {L : List (Who × Nat)} {K : Nat → Kn} (h : StoreIs w g lim calm mp L K) (a b : List UInt8) (ha : a.length ≤ maxLen) (hb : b.length ≤ maxLen) (R : Value) (hR : lookV (look L (a, b)) = R) :
    ∀ w', Fr [] w w' → w'.cell? ⟨g, 2, none⟩ = some (.map mp) ∧ (Instr.lookup 69 (.map mp) (.agg (whoC a b)) false).run Try.prog w' = .ok R w' := fun w' hF => by
  refine ⟨(hF.blk h.st (by simp)).c 2 _ rfl, ?_⟩
  rw [← hR]
  exact (h.mapAt.fr hF (by simp)).look1 a b ha hb
theorem ent51 (args : Array Value) (w : World) : (callFunc 51 args).run Try.prog w = .ok (.enter 51 args) w := by
  have h1 : ¬ Try.f51.name = "runtime.NumGoroutine" := of_decide_eq_false (by kernel_rfl)
  have h2 : ¬ Try.f51.body = none := fun h => by
    have : Try.f51.body.isNone = false := by kernel_rfl
    rw [h] at this
    cases this
  simp [callFunc, go_sem, Try.func51, h1, h2]
section
variable {w : World} {g x : Nat} {lim calm t : Int} {mp : Option Nat} {L : List (Who × Nat)} {K : Nat → Kn} {F : Nat} {caps : Array Value}
set_option maxHeartbeats 1000000 in
theorem try_none (f : List UInt8) (hf : f.length ≤ 140737488355328) (h : StoreIs w g lim calm mp L K) (hl : look L (spN f, spR f) = none) :
    Calls Try.prog 50 #[.pointer (some ⟨g, 0, none⟩), .string (B f), .int .i64 t, .func (Fn.func F) #[] caps] w fun e w' => e = .returned (.int .i64 30) ∧ Fr [] w w' := by
  have hsN := spN_le f
  have hsR := spR_le f
  have HK := Lib.hid (h.keepL (spN f) (spR f) (by unfold maxLen; omega) (by unfold maxLen; omega) (.pointer none) (by rw [hl]; rfl))
  clear h hl hsN hsR
  obtain ⟨key, hkey⟩ : ∃ key, Value.agg (whoC (spN f) (spR f)) = key := ⟨_, rfl⟩
  have SP := Lib.hid fun W => split_any f W hf
  rw [hkey] at HK SP
  clear hkey
  go_enter Try.func50, Try.ntmps50
  go_wp2_with fail
  have hG : (w.drew.cell? ⟨g, 2, none⟩ = some (.map mp) ∧ (Instr.lookup 69 (.map mp) key false).run Try.prog w.drew = .ok (.pointer none) w.drew) ∧ Fr [] w w.drew := ⟨HK.out _ (Fr.refl _ _).drew, (Fr.refl _ _).drew⟩
  go_region_held3 (fun w' => (w'.cell? ⟨g, 2, none⟩ = some (.map mp) ∧ (Instr.lookup 69 (.map mp) key false).run Try.prog w' = .ok (.pointer none) w') ∧ Fr [] w w')
    (first | exact hG | assumption | exact tryS_step HK (by assumption) hF3)
    (first | (go_at_call 14; refine (SP.out _).mono ?_; rintro e w3 ⟨rfl, hF3⟩))
  all_goals
    have hS : (w3.cell? ⟨g, 2, none⟩ = some (.map mp) ∧ (Instr.lookup 69 (.map mp) key false).run Try.prog w3 = .ok (.pointer none) w3) ∧ Fr [] w w3 := by assumption
    clear hG
    go_wp2_with fail
    go_ret
    exact ⟨rfl, hS.2⟩
set_option maxHeartbeats 1000000 in
theorem try_shut (f : List UInt8) (hf : f.length ≤ 140737488355328) (h : StoreIs w g lim calm mp L K) (hl : look L (spN f, spR f) = some x) (KO : KnOk (K x)) (hsh : shutB lim calm (K x) t = true)
    (t0 : -9223372036854775808 ≤ t) (t1 : t ≤ 9223372036854775807) (m0 : 0 ≤ calm) (m1 : calm ≤ 1000) :
    Calls Try.prog 50 #[.pointer (some ⟨g, 0, none⟩), .string (B f), .int .i64 t, .func (Fn.func F) #[] caps] w fun e w' => e = .returned (.int .i64 20) ∧ Fr [] w w' := by
  have hsN := spN_le f
  have hsR := spR_le f
  have HK := Lib.hid (h.keepL (spN f) (spR f) (by unfold maxLen; omega) (by unfold maxLen; omega) (ptrV x) (by rw [hl]; rfl))
  have hnd : (L.map (·.1)).Nodup ∧ ∃ who, (who, x) ∈ L := by
    rcases h.mapAt with ⟨_, rfl⟩ | ⟨b, _, hm⟩
    · cases hl
    · exact ⟨hm.nodup, _, (look_some hm.nodup).1 hl⟩
  obtain ⟨_, who, hmem⟩ := hnd
  have hKx := h.kn _ hmem
  have hxg := h.apart _ hmem
  have hB := h.st
  have H := Lib.hid h
  have HX := Lib.hid hl
  simp only at hKx hxg
  obtain ⟨k, hkx⟩ : ∃ k, K x = k := ⟨_, rfl⟩
  rw [hkx] at hKx KO hsh
  have HKX := Lib.hid hkx
  clear h hl hsN hsR hkx hmem
  obtain ⟨key, hkey⟩ : ∃ key, Value.agg (whoC (spN f) (spR f)) = key := ⟨_, rfl⟩
  have SP := Lib.hid fun W => split_any f W hf
  rw [hkey] at HK SP
  clear hkey
  go_enter Try.func50, Try.ntmps50
  go_wp2_with fail
  have hG : (w.drew.cell? ⟨g, 2, none⟩ = some (.map mp) ∧ (Instr.lookup 69 (.map mp) key false).run Try.prog w.drew = .ok (ptrV x) w.drew) ∧ Fr [] w w.drew := ⟨HK.out _ (Fr.refl _ _).drew, (Fr.refl _ _).drew⟩
  go_region_held3 (fun w' => (w'.cell? ⟨g, 2, none⟩ = some (.map mp) ∧ (Instr.lookup 69 (.map mp) key false).run Try.prog w' = .ok (ptrV x) w') ∧ Fr [] w w')
    (first | exact hG | assumption | exact tryS_step HK (by assumption) hF3)
    (first | (go_at_call 14; refine (SP.out _).mono ?_; rintro e w3 ⟨rfl, hF3⟩))
  all_goals
    have hS : (w3.cell? ⟨g, 2, none⟩ = some (.map mp) ∧ (Instr.lookup 69 (.map mp) key false).run Try.prog w3 = .ok (ptrV x) w3) ∧ Fr [] w w3 := by assumption
    have hF4 := hS.2
    clear hG hS HK SP
    have SH := Lib.hid (shut_any (w := w3) (t := t) KO t0 t1 m0 m1 (hF4.blk hB (by simp)) (hF4.blk hKx (by simp)))
    rw [hsh] at SH
    unfold ptrV
    go_wp2_with fail
    refine SH.out.mono ?_
    rintro e w4 ⟨rfl, hF5⟩
    have hF6 := hF4.trans hF5
    have hB6 := hF6.blk hB (by simp)
    have hK6 := hF6.blk hKx (by simp)
    clear SH hF4 hF5
    go_wp2_with fail
    go_ret
    exact ⟨rfl, hF6⟩
def kupd (K : Nat → Kn) (x : Nat) (k : Kn) : Nat → Kn := fun y => if y = x then k else K y
theorem StoreIs.upd {w w' : World} {g x : Nat} {lim calm : Int} {mp : Option Nat} {L : List (Who × Nat)} {K : Nat → Kn} (h : StoreIs w g lim calm mp L K) {who : Who} (hl : look L who = some x) (k : Kn) (hF : Fr [x] w w') (hB : Blk w' x (knC k) 89) :
    StoreIs w' g lim calm mp L (kupd K x k) := by
  have hm : (who, x) ∈ L := by
    rcases h.mapAt with ⟨_, rfl⟩ | ⟨b, _, hm⟩
    · cases hl
    · exact (look_some hm.nodup).1 hl
  have hKx := h.kn _ hm
  refine ⟨hF.blk h.st (by simpa using (h.apart _ hm).symm), h.mapAt.fr hF (fun b hb => ?_), fun p hp => ?_, h.nd, h.apart⟩
  · rintro hbx
    rcases h.mapAt with ⟨h1, _⟩ | ⟨b', hb', hm'⟩
    · rw [h1] at hb; cases hb
    · rw [hb'] at hb
      cases hb
      simp only [List.mem_singleton] at hbx
      subst hbx
      obtain ⟨es, cl, he, _⟩ := hm'
      unfold Blk at hKx
      simp only at hKx
      rw [he] at hKx
      cases hKx
  · unfold kupd
    by_cases hpx : p.2 = x
    · rw [if_pos hpx, hpx]; exact hB
    · rw [if_neg hpx]; exact hF.blk (h.kn p hp) (by simpa using hpx)
def badK (k : Kn) (t : Int) : Kn := ⟨k.s, min (k.wr + 1) 2147483647, t⟩
def okK (k : Kn) : Kn := ⟨k.s, 0, k.la⟩
set_option maxHeartbeats 1000000 in
theorem try_bad (f : List UInt8) (hf : f.length ≤ 140737488355328) (h : StoreIs w g lim calm mp L K) (hl : look L (spN f, spR f) = some x) (KO : KnOk (K x)) (hsh : shutB lim calm (K x) t = false) (hgood : Good w F caps (K x).s false)
    (t0 : -9223372036854775808 ≤ t) (t1 : t ≤ 9223372036854775807) (m0 : 0 ≤ calm) (m1 : calm ≤ 1000) :
    Calls Try.prog 50 #[.pointer (some ⟨g, 0, none⟩), .string (B f), .int .i64 t, .func (Fn.func F) #[] caps] w fun e w' => e = .returned (.int .i64 30) ∧ StoreIs w' g lim calm mp L (kupd K x (badK (K x) t)) ∧ Fr [x] w w' := by
  have HG := Lib.hid hgood.2
  have hent := hgood.1
  clear hgood
  have hsN := spN_le f
  have hsR := spR_le f
  have HK := Lib.hid (h.keepL (spN f) (spR f) (by unfold maxLen; omega) (by unfold maxLen; omega) (ptrV x) (by rw [hl]; rfl))
  have hnd : (L.map (·.1)).Nodup ∧ ∃ who, (who, x) ∈ L := by
    rcases h.mapAt with ⟨_, rfl⟩ | ⟨b, _, hm⟩
    · cases hl
    · exact ⟨hm.nodup, _, (look_some hm.nodup).1 hl⟩
  obtain ⟨_, who, hmem⟩ := hnd
  have hKx := h.kn _ hmem
  have hxg := h.apart _ hmem
  have hB := h.st
  have H := Lib.hid h
  have HX := Lib.hid hl
  simp only at hKx hxg
  obtain ⟨k, hkx⟩ : ∃ k, K x = k := ⟨_, rfl⟩
  rw [hkx] at hKx KO hsh HG
  have HKX := Lib.hid hkx
  clear h hl hsN hsR hkx hmem
  obtain ⟨key, hkey⟩ : ∃ key, Value.agg (whoC (spN f) (spR f)) = key := ⟨_, rfl⟩
  have SP := Lib.hid fun W => split_any f W hf
  rw [hkey] at HK SP
  clear hkey
  go_enter Try.func50, Try.ntmps50
  go_wp2_with fail
  have hG : (w.drew.cell? ⟨g, 2, none⟩ = some (.map mp) ∧ (Instr.lookup 69 (.map mp) key false).run Try.prog w.drew = .ok (ptrV x) w.drew) ∧ Fr [] w w.drew := ⟨HK.out _ (Fr.refl _ _).drew, (Fr.refl _ _).drew⟩
  go_region_held3 (fun w' => (w'.cell? ⟨g, 2, none⟩ = some (.map mp) ∧ (Instr.lookup 69 (.map mp) key false).run Try.prog w' = .ok (ptrV x) w') ∧ Fr [] w w')
    (first | exact hG | assumption | exact tryS_step HK (by assumption) hF3)
    (first | (go_at_call 14; refine (SP.out _).mono ?_; rintro e w3 ⟨rfl, hF3⟩))
  all_goals
    have hS : (w3.cell? ⟨g, 2, none⟩ = some (.map mp) ∧ (Instr.lookup 69 (.map mp) key false).run Try.prog w3 = .ok (ptrV x) w3) ∧ Fr [] w w3 := by assumption
    have hF4 := hS.2
    clear hG hS HK SP
    have SH := Lib.hid (shut_any (w := w3) (t := t) KO t0 t1 m0 m1 (hF4.blk hB (by simp)) (hF4.blk hKx (by simp)))
    rw [hsh] at SH
    unfold ptrV
    go_wp2_with fail
    refine SH.out.mono ?_
    rintro e w4 ⟨rfl, hF5⟩
    have hF6 := hF4.trans hF5
    have hB6 := hF6.blk hB (by simp)
    have hK6 := hF6.blk hKx (by simp)
    clear SH hF4 hF5
    have c0 : w4.cell? ⟨x, 0, none⟩ = some (.string (B k.s)) := hK6.c 0 _ rfl
    clear hB hKx
    go_wp2_with fail
    refine (HG.out _ hF6).mono ?_
    rintro e w5 ⟨rfl, hF7⟩
    have hF8 := hF6.trans hF7
    have hK8 := hF7.blk hK6 (by simp)
    clear c0 hF7 hF6 HG hB6 hK6
    have k0 := KO.2.2.1
    have k1 := KO.2.2.2
    have c1 : w5.cell? ⟨x, 1, none⟩ = some (.int .i64 k.wr) := hK8.c 1 _ rfl
    have c2 : w5.cell? ⟨x, 2, none⟩ = some (.int .i64 k.la) := hK8.c 2 _ rfl
    have f1 := hK8.fz 1
    have f2 := hK8.fz 2
    have hB9 : Blk ((w5.setCell ⟨x, 1, none⟩ (.int .i64 (min (k.wr + 1) 2147483647))).setCell ⟨x, 2, none⟩ (.int .i64 t)) x (knC (badK k t)) 89 := by
      have := (hK8.set 1 (.int .i64 (min (k.wr + 1) 2147483647))).set 2 (.int .i64 t)
      simpa [knC, badK] using this
    have hF9 : Fr [x] w ((w5.setCell ⟨x, 1, none⟩ (.int .i64 (min (k.wr + 1) 2147483647))).setCell ⟨x, 2, none⟩ (.int .i64 t)) := ((hF8.mono (by simp)).setCell (by simp) _).setCell (by simp) _
    clear hK8 hF8
    go_wp2_with fail
    go_ret
    refine ⟨rfl, ?_, hF9⟩
    rw [HKX.out]
    exact H.out.upd HX.out _ hF9 hB9
set_option maxHeartbeats 1000000 in
theorem try_ok (f : List UInt8) (hf : f.length ≤ 140737488355328) (h : StoreIs w g lim calm mp L K) (hl : look L (spN f, spR f) = some x) (KO : KnOk (K x)) (hsh : shutB lim calm (K x) t = false) (hgood : Good w F caps (K x).s true)
    (t0 : -9223372036854775808 ≤ t) (t1 : t ≤ 9223372036854775807) (m0 : 0 ≤ calm) (m1 : calm ≤ 1000) :
    Calls Try.prog 50 #[.pointer (some ⟨g, 0, none⟩), .string (B f), .int .i64 t, .func (Fn.func F) #[] caps] w fun e w' => e = .returned (.int .i64 0) ∧ StoreIs w' g lim calm mp L (kupd K x (okK (K x))) ∧ Fr [x] w w' := by
  have HG := Lib.hid hgood.2
  have hent := hgood.1
  clear hgood
  have hsN := spN_le f
  have hsR := spR_le f
  have HK := Lib.hid (h.keepL (spN f) (spR f) (by unfold maxLen; omega) (by unfold maxLen; omega) (ptrV x) (by rw [hl]; rfl))
  have hnd : (L.map (·.1)).Nodup ∧ ∃ who, (who, x) ∈ L := by
    rcases h.mapAt with ⟨_, rfl⟩ | ⟨b, _, hm⟩
    · cases hl
    · exact ⟨hm.nodup, _, (look_some hm.nodup).1 hl⟩
  obtain ⟨_, who, hmem⟩ := hnd
  have hKx := h.kn _ hmem
  have hxg := h.apart _ hmem
  have hB := h.st
  have H := Lib.hid h
  have HX := Lib.hid hl
  simp only at hKx hxg
  obtain ⟨k, hkx⟩ : ∃ k, K x = k := ⟨_, rfl⟩
  rw [hkx] at hKx KO hsh HG
  have HKX := Lib.hid hkx
  clear h hl hsN hsR hkx hmem
  obtain ⟨key, hkey⟩ : ∃ key, Value.agg (whoC (spN f) (spR f)) = key := ⟨_, rfl⟩
  have SP := Lib.hid fun W => split_any f W hf
  rw [hkey] at HK SP
  clear hkey
  go_enter Try.func50, Try.ntmps50
  go_wp2_with fail
  have hG : (w.drew.cell? ⟨g, 2, none⟩ = some (.map mp) ∧ (Instr.lookup 69 (.map mp) key false).run Try.prog w.drew = .ok (ptrV x) w.drew) ∧ Fr [] w w.drew := ⟨HK.out _ (Fr.refl _ _).drew, (Fr.refl _ _).drew⟩
  go_region_held3 (fun w' => (w'.cell? ⟨g, 2, none⟩ = some (.map mp) ∧ (Instr.lookup 69 (.map mp) key false).run Try.prog w' = .ok (ptrV x) w') ∧ Fr [] w w')
    (first | exact hG | assumption | exact tryS_step HK (by assumption) hF3)
    (first | (go_at_call 14; refine (SP.out _).mono ?_; rintro e w3 ⟨rfl, hF3⟩))
  all_goals
    have hS : (w3.cell? ⟨g, 2, none⟩ = some (.map mp) ∧ (Instr.lookup 69 (.map mp) key false).run Try.prog w3 = .ok (ptrV x) w3) ∧ Fr [] w w3 := by assumption
    have hF4 := hS.2
    clear hG hS HK SP
    have SH := Lib.hid (shut_any (w := w3) (t := t) KO t0 t1 m0 m1 (hF4.blk hB (by simp)) (hF4.blk hKx (by simp)))
    rw [hsh] at SH
    unfold ptrV
    go_wp2_with fail
    refine SH.out.mono ?_
    rintro e w4 ⟨rfl, hF5⟩
    have hF6 := hF4.trans hF5
    have hB6 := hF6.blk hB (by simp)
    have hK6 := hF6.blk hKx (by simp)
    clear SH hF4 hF5
    have c0 : w4.cell? ⟨x, 0, none⟩ = some (.string (B k.s)) := hK6.c 0 _ rfl
    clear hB hKx
    go_wp2_with fail
    refine (HG.out _ hF6).mono ?_
    rintro e w5 ⟨rfl, hF7⟩
    have hF8 := hF6.trans hF7
    have hK8 := hF7.blk hK6 (by simp)
    clear c0 hF7 hF6 HG hB6 hK6
    have c1 : w5.cell? ⟨x, 1, none⟩ = some (.int .i64 k.wr) := hK8.c 1 _ rfl
    have f1 := hK8.fz 1
    have hB9 : Blk (w5.setCell ⟨x, 1, none⟩ (.int .i64 0)) x (knC (okK k)) 89 := by
      have := hK8.set 1 (.int .i64 0)
      simpa [knC, okK] using this
    have hF9 : Fr [x] w (w5.setCell ⟨x, 1, none⟩ (.int .i64 0)) := (hF8.mono (by simp)).setCell (by simp) _
    clear hK8 hF8
    go_wp2_with fail
    go_ret
    refine ⟨rfl, ?_, hF9⟩
    rw [HKX.out]
    exact H.out.upd HX.out _ hF9 hB9
end
end Go.Proofs.Ytpljdnocdhppmaa
