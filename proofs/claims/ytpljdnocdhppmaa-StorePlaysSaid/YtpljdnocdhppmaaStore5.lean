/- package store: try in one; Pap, New, Wrong, Len; of nil. -/
import Derived.Test.YtpljdnocdhppmaaStore4
namespace Go.Proofs.Ytpljdnocdhppmaa
open Go.RowKit Go.Maps
set_option linter.unusedVariables false

def tryE (lim calm t : Int) (ok : Kn → Bool) (r : Option Kn) : Int := match r with
  | none => 30
  | some k => if shutB lim calm k t = true then 20 else if ok k = true then 0 else 30
def tryK (lim calm t : Int) (ok : Kn → Bool) (k : Kn) : Kn := if shutB lim calm k t = true then k else if ok k = true then okK k else badK k t
def tryKs (lim calm t : Int) (ok : Kn → Bool) (K : Nat → Kn) (r : Option Nat) : Nat → Kn := match r with
  | none => K
  | some x => kupd K x (tryK lim calm t ok (K x))
theorem kupd_self (K : Nat → Kn) (x : Nat) : kupd K x (K x) = K := by
  funext y; unfold kupd; split
  · subst_vars; rfl
  · rfl
theorem StoreIs.fr {w w' : World} {g : Nat} {lim calm : Int} {mp : Option Nat} {L : List (Who × Nat)} {K : Nat → Kn} (h : StoreIs w g lim calm mp L K) {S : List Nat} (hF : Fr S w w') (h0 : g ∉ S) (h1 : ∀ b, mp = some b → b ∉ S) (h2 : ∀ p, p ∈ L → p.2 ∉ S) : StoreIs w' g lim calm mp L K :=
  ⟨hF.blk h.st h0, h.mapAt.fr hF h1, fun p hp => hF.blk (h.kn p hp) (h2 p hp), h.nd, h.apart⟩
theorem StoreIs.fr0 {w w' : World} {g : Nat} {lim calm : Int} {mp : Option Nat} {L : List (Who × Nat)} {K : Nat → Kn} (h : StoreIs w g lim calm mp L K) (hF : Fr [] w w') : StoreIs w' g lim calm mp L K :=
  h.fr hF (by simp) (by simp) (by simp)
theorem StoreIs.mem {w : World} {g x : Nat} {lim calm : Int} {mp : Option Nat} {L : List (Who × Nat)} {K : Nat → Kn} (h : StoreIs w g lim calm mp L K) {who : Who} (hl : look L who = some x) : (who, x) ∈ L := by
  rcases h.mapAt with ⟨_, rfl⟩ | ⟨b, _, hm⟩
  · cases hl
  · exact (look_some hm.nodup).1 hl
theorem StoreIs.xmem {w : World} {g x : Nat} {lim calm : Int} {mp : Option Nat} {L : List (Who × Nat)} {K : Nat → Kn} (h : StoreIs w g lim calm mp L K) {who : Who} (hl : look L who = some x) : ∀ y, y ∈ [x] → y ∈ L.map (·.2) := by
  intro y hy
  simp only [List.mem_singleton] at hy
  subst hy
  exact List.mem_map.2 ⟨_, h.mem hl, rfl⟩
/-- every name's counts are ints -/
def KsOk (L : List (Who × Nat)) (K : Nat → Kn) : Prop := ∀ p, p ∈ L → KnOk (K p.2)
section
variable {w : World} {g x : Nat} {lim calm t : Int} {mp : Option Nat} {L : List (Who × Nat)} {K : Nat → Kn} {F : Nat} {caps : Array Value}
theorem try_any (f : List UInt8) (hf : f.length ≤ 140737488355328) (h : StoreIs w g lim calm mp L K) (KO : KsOk L K) (ok : Kn → Bool) (hgood : ∀ x, look L (spN f, spR f) = some x → Good w F caps (K x).s (ok (K x)))
    (t0 : -9223372036854775808 ≤ t) (t1 : t ≤ 9223372036854775807) (m0 : 0 ≤ calm) (m1 : calm ≤ 1000) :
    Calls Try.prog 50 #[.pointer (some ⟨g, 0, none⟩), .string (B f), .int .i64 t, .func (Fn.func F) #[] caps] w fun e w' =>
      e = .returned (.int .i64 (tryE lim calm t ok ((look L (spN f, spR f)).map K))) ∧ StoreIs w' g lim calm mp L (tryKs lim calm t ok K (look L (spN f, spR f))) ∧ Fr (L.map (·.2)) w w' := by
  cases hl : look L (spN f, spR f) with
  | none => exact (try_none f hf h hl).mono fun e w' ⟨he, hF⟩ => ⟨he, h.fr0 hF, hF.mono (by simp)⟩
  | some x =>
    have hko : KnOk (K x) := KO _ (h.mem hl)
    simp only [Option.map_some, tryE, tryKs, tryK]
    cases hs : shutB lim calm (K x) t with
    | true =>
      refine (try_shut f hf h hl hko hs t0 t1 m0 m1).mono fun e w' ⟨he, hF⟩ => ⟨he, ?_, hF.mono (by simp)⟩
      rw [if_pos rfl, kupd_self]
      exact h.fr0 hF
    | false =>
      have hg := hgood x hl
      cases ho : ok (K x) with
      | true =>
        rw [ho] at hg
        exact (try_ok f hf h hl hko hs hg t0 t1 m0 m1).mono fun e w' ⟨he, hs, hF⟩ => ⟨he, hs, hF.mono (h.xmem hl)⟩
      | false =>
        rw [ho] at hg
        exact (try_bad f hf h hl hko hs hg t0 t1 m0 m1).mono fun e w' ⟨he, hs, hF⟩ => ⟨he, hs, hF.mono (h.xmem hl)⟩

theorem clo_pap {c : Nat} (own s : List UInt8) (ho : own.length ≤ 140737488351232) (hs : s.length ≤ 140737488351232) (hB : Blk w c #[.string (B s)] 9) :
    Calls Try.prog 51 #[.string (B own), .pointer (some ⟨c, 0, none⟩)] w fun e w' => e = .returned (.bool (decide (own = s))) ∧ Fr [] w w' := by
  have c0 : w.cell? ⟨c, 0, none⟩ = some (.string (B s)) := hB.c 0 _ rfl
  have SA := Lib.hid fun W => same_any own s W ho hs
  clear hB
  obtain ⟨b, hb⟩ : ∃ b, decide (own = s) = b := ⟨_, rfl⟩
  rw [hb] at SA ⊢
  clear hb
  go_enter Try.func51, Try.ntmps51
  go_wp2_with fail
  refine (SA.out _).mono ?_
  rintro e w1 ⟨rfl, n, rfl⟩
  go_wp2
  go_ret
  exact ⟨rfl, (Fr.refl _ _).drewN _⟩
/-- every secret is short -/
def KsLen (L : List (Who × Nat)) (K : Nat → Kn) : Prop := ∀ p, p ∈ L → (K p.2).s.length ≤ 60
theorem pap_any (f s : List UInt8) (hf : f.length ≤ 140737488355328) (hs : s.length ≤ 140737488351232) (h : StoreIs w g lim calm mp L K) (KO : KsOk L K) (KL : KsLen L K)
    (t0 : -9223372036854775808 ≤ t) (t1 : t ≤ 9223372036854775807) (m0 : 0 ≤ calm) (m1 : calm ≤ 1000) :
    Calls Try.prog 26 #[.pointer (some ⟨g, 0, none⟩), .string (B f), .string (B s), .int .i64 t] w fun e w' =>
      e = .returned (.int .i64 (tryE lim calm t (fun k => decide (k.s = s)) ((look L (spN f, spR f)).map K))) ∧ StoreIs w' g lim calm mp L (tryKs lim calm t (fun k => decide (k.s = s)) K (look L (spN f, spR f))) ∧ Fr (L.map (·.2)) w w' := by
  have hA : Fr [] w (w.alloc (.cells #[.string (B s)] 9 (0, 0))) := (Fr.refl _ _).alloc _
  have TA := Lib.hid (try_any (F := 51) (caps := #[.pointer (some ⟨w.heap.size, 0, none⟩)]) f hf (h.fr0 hA) KO (fun k => decide (k.s = s))
    (fun x hl => ⟨ent51, fun W hW => clo_pap (K x).s s (by have := KL _ (h.mem hl); simp only at this; omega) hs (hW.blk (Blk.new w #[.string (B s)] 9) (by simp))⟩) t0 t1 m0 m1)
  clear h KO KL
  go_enter Try.func26, Try.ntmps26
  go_wp2_with fail
  refine TA.out.mono ?_
  rintro e w1 ⟨rfl, hS, hF⟩
  have HS := Lib.hid hS
  clear hS TA
  go_wp2
  go_ret
  exact ⟨rfl, HS.out, (hA.mono (by simp)).trans hF⟩
theorem snew_ok (l0 : 0 ≤ lim) (l1 : lim ≤ 100) (c0 : 1 ≤ calm) (c1 : calm ≤ 1000) :
    Calls Try.prog 24 #[.int .i64 lim, .int .i64 calm] w fun e w' => ∃ g b, e = .returned (.tuple #[.pointer (some ⟨g, 0, none⟩), .int .i64 0]) ∧ w.heap.size ≤ g ∧ w.heap.size ≤ b ∧ StoreIs w' g lim calm (some b) [] (fun _ => ⟨[], 0, 0⟩) ∧ Fr [] w w' := by
  have hmm := @run_makeMap Try.prog
  go_enter Try.func24, Try.ntmps24
  go_wp2
  go_ret2
  have hM : MapIs whoE ptrV (w.alloc (.map #[] 0)) w.heap.size ([] : List (Who × Nat)) := MapIs.new w
  have hM2 : MapIs whoE ptrV ((w.alloc (.map #[] 0)).alloc (.cells #[.int .i64 lim, .int .i64 calm, .map (some w.heap.size)] 71 (0, 0))) w.heap.size ([] : List (Who × Nat)) := hM.fr ((Fr.refl [] _).alloc _) (by simp)
  refine ⟨w.heap.size + 1, w.heap.size, rfl, by omega, Nat.le_refl _, ⟨?_, Or.inr ⟨_, rfl, hM2⟩, by simp, by simp, by simp⟩, ((Fr.refl _ _).alloc _).alloc _⟩
  have := Blk.new (w.alloc (.map #[] 0)) #[.int .i64 lim, .int .i64 calm, .map (some w.heap.size)] 71
  simpa [stv] using this
theorem snew_bad (h : lim < 0 ∨ ¬ lim < 0 ∧ 100 < lim ∨ ¬ lim < 0 ∧ ¬ 100 < lim ∧ calm < 1 ∨ ¬ lim < 0 ∧ ¬ 100 < lim ∧ ¬ calm < 1 ∧ 1000 < calm) :
    Calls Try.prog 24 #[.int .i64 lim, .int .i64 calm] w fun e w' => e = .returned (.tuple #[.pointer none, .int .i64 1]) ∧ w = w' := by
  rcases h with hX | ⟨h1, hX⟩ | ⟨h1, h2, hX⟩ | ⟨h1, h2, h3, hX⟩
  all_goals
    go_enter Try.func24, Try.ntmps24
    go_wp2
    go_ret2
    exact ⟨rfl, rfl⟩
theorem len_store_any (h : StoreIs w g lim calm mp L K) :
    Calls Try.prog 28 #[.pointer (some ⟨g, 0, none⟩)] w fun e w' => e = .returned (.int .i64 L.length) ∧ w = w' := by
  have c2 : w.cell? ⟨g, 2, none⟩ = some (.map mp) := h.st.c 2 _ rfl
  have hln : ∀ ty, (Builtin.len_ #[69] ty #[.map mp]).run Try.prog w = .ok (.int .i64 L.length) w := fun ty => by
    rcases h.mapAt with ⟨rfl, rfl⟩ | ⟨b, rfl, hm⟩
    · simp [Builtin.len_, run_underlying Try.underlying69, Result.andThen, goInt]
    · exact hm.len Try.underlying69 ty
  clear h
  go_enter Try.func28, Try.ntmps28
  go_wp2
  go_ret
  exact ⟨rfl, rfl⟩
def wrongE (r : Option Kn) : Int := match r with | none => 0 | some k => k.wr
set_option maxHeartbeats 1000000 in
theorem wrong_none (f : List UInt8) (hf : f.length ≤ 140737488355328) (h : StoreIs w g lim calm mp L K) (hl : look L (spN f, spR f) = none) :
    Calls Try.prog 27 #[.pointer (some ⟨g, 0, none⟩), .string (B f)] w fun e w' => e = .returned (.int .i64 0) ∧ Fr [] w w' := by
  have hsN := spN_le f
  have hsR := spR_le f
  have HK := Lib.hid (h.keepL (spN f) (spR f) (by unfold maxLen; omega) (by unfold maxLen; omega) (.pointer none) (by rw [hl]; rfl))
  clear h hl hsN hsR
  obtain ⟨key, hkey⟩ : ∃ key, Value.agg (whoC (spN f) (spR f)) = key := ⟨_, rfl⟩
  have SP := Lib.hid fun W => split_any f W hf
  rw [hkey] at HK SP
  clear hkey
  go_enter Try.func27, Try.ntmps27
  go_wp2_with fail
  have hG : (w.drew.cell? ⟨g, 2, none⟩ = some (.map mp) ∧ (Instr.lookup 69 (.map mp) key false).run Try.prog w.drew = .ok (.pointer none) w.drew) ∧ Fr [] w w.drew := ⟨HK.out _ (Fr.refl _ _).drew, (Fr.refl _ _).drew⟩
  go_region_held3 (fun w' => (w'.cell? ⟨g, 2, none⟩ = some (.map mp) ∧ (Instr.lookup 69 (.map mp) key false).run Try.prog w' = .ok (.pointer none) w') ∧ Fr [] w w')
    (first | exact hG | assumption | exact tryS_step HK (by assumption) hF3)
    (first | (go_at_call 14; refine (SP.out _).mono ?_; rintro e w3 ⟨rfl, hF3⟩))
  all_goals
    have hS : (w3.cell? ⟨g, 2, none⟩ = some (.map mp) ∧ (Instr.lookup 69 (.map mp) key false).run Try.prog w3 = .ok (.pointer none) w3) ∧ Fr [] w w3 := by assumption
    clear hG
    go_wp2_with fail
    go_ret
    exact ⟨rfl, hS.2⟩
/-- with a cell of what is known besides -/
theorem wrS_step {w w1 w2 : World} {g x : Nat} {v : Value} {mp : Option Nat} {key R : Value} (HK : Hid (∀ w', Fr [] w w' → w'.cell? ⟨x, 1, none⟩ = some v ∧ w'.cell? ⟨g, 2, none⟩ = some (.map mp) ∧ (Instr.lookup 69 (.map mp) key false).run Try.prog w' = .ok R w'))
    (h : (w1.cell? ⟨x, 1, none⟩ = some v ∧ w1.cell? ⟨g, 2, none⟩ = some (.map mp) ∧ (Instr.lookup 69 (.map mp) key false).run Try.prog w1 = .ok R w1) ∧ Fr [] w w1) (hF : Fr [] w1 w2) :
    (w2.cell? ⟨x, 1, none⟩ = some v ∧ w2.cell? ⟨g, 2, none⟩ = some (.map mp) ∧ (Instr.lookup 69 (.map mp) key false).run Try.prog w2 = .ok R w2) ∧ Fr [] w w2 := ⟨HK.out _ (h.2.trans hF), h.2.trans hF⟩
set_option maxHeartbeats 2000000 in
theorem wrong_some (f : List UInt8) (hf : f.length ≤ 140737488355328) (h : StoreIs w g lim calm mp L K) (hl : look L (spN f, spR f) = some x) :
    Calls Try.prog 27 #[.pointer (some ⟨g, 0, none⟩), .string (B f)] w fun e w' => e = .returned (.int .i64 (K x).wr) ∧ Fr [] w w' := by
  have hsN := spN_le f
  have hsR := spR_le f
  have HK0 := Lib.hid (h.keepL (spN f) (spR f) (by unfold maxLen; omega) (by unfold maxLen; omega) (ptrV x) (by rw [hl]; rfl))
  have hKx := h.kn _ (h.mem hl)
  simp only at hKx
  obtain ⟨k, hkx⟩ : ∃ k, K x = k := ⟨_, rfl⟩
  rw [hkx] at hKx ⊢
  clear h hl hsN hsR hkx
  obtain ⟨key, hkey⟩ : ∃ key, Value.agg (whoC (spN f) (spR f)) = key := ⟨_, rfl⟩
  have SP := Lib.hid fun W => split_any f W hf
  rw [hkey] at HK0 SP
  clear hkey
  have HK : Hid (∀ w', Fr [] w w' → w'.cell? ⟨x, 1, none⟩ = some (.int .i64 k.wr) ∧ w'.cell? ⟨g, 2, none⟩ = some (.map mp) ∧ (Instr.lookup 69 (.map mp) key false).run Try.prog w' = .ok (ptrV x) w') :=
    Lib.hid fun w' hF => ⟨(hF.blk hKx (by simp)).c 1 _ rfl, HK0.out w' hF⟩
  clear HK0 hKx
  unfold ptrV at HK
  go_enter Try.func27, Try.ntmps27
  go_wp2_with fail
  have hG : (w.drew.cell? ⟨x, 1, none⟩ = some (.int .i64 k.wr) ∧ w.drew.cell? ⟨g, 2, none⟩ = some (.map mp) ∧ (Instr.lookup 69 (.map mp) key false).run Try.prog w.drew = .ok (.pointer (some ⟨x, 0, none⟩)) w.drew) ∧ Fr [] w w.drew := ⟨HK.out _ (Fr.refl _ _).drew, (Fr.refl _ _).drew⟩
  go_region_held3 (fun w' => (w'.cell? ⟨x, 1, none⟩ = some (.int .i64 k.wr) ∧ w'.cell? ⟨g, 2, none⟩ = some (.map mp) ∧ (Instr.lookup 69 (.map mp) key false).run Try.prog w' = .ok (.pointer (some ⟨x, 0, none⟩)) w') ∧ Fr [] w w')
    (first | exact hG | assumption | exact wrS_step HK (by assumption) hF3)
    (first | (go_at_call 14; refine (SP.out _).mono ?_; rintro e w3 ⟨rfl, hF3⟩))
  all_goals
    have hS : (w3.cell? ⟨x, 1, none⟩ = some (.int .i64 k.wr) ∧ w3.cell? ⟨g, 2, none⟩ = some (.map mp) ∧ (Instr.lookup 69 (.map mp) key false).run Try.prog w3 = .ok (.pointer (some ⟨x, 0, none⟩)) w3) ∧ Fr [] w w3 := by assumption
    have hF4 := hS.2
    have HK4 : Hid (∀ w', Fr [] w3 w' → w'.cell? ⟨x, 1, none⟩ = some (.int .i64 k.wr) ∧ w'.cell? ⟨g, 2, none⟩ = some (.map mp) ∧ (Instr.lookup 69 (.map mp) key false).run Try.prog w' = .ok (ptrV x) w') :=
      Lib.hid fun w' hF => HK.out w' (hF4.trans hF)
    unfold ptrV at HK4
    clear hG hS HK hF3
    go_wp2_with fail
    have hG : (w3.drew.cell? ⟨x, 1, none⟩ = some (.int .i64 k.wr) ∧ w3.drew.cell? ⟨g, 2, none⟩ = some (.map mp) ∧ (Instr.lookup 69 (.map mp) key false).run Try.prog w3.drew = .ok (.pointer (some ⟨x, 0, none⟩)) w3.drew) ∧ Fr [] w3 w3.drew := ⟨HK4.out _ (Fr.refl _ _).drew, (Fr.refl _ _).drew⟩
    go_region_held3 (fun w' => (w'.cell? ⟨x, 1, none⟩ = some (.int .i64 k.wr) ∧ w'.cell? ⟨g, 2, none⟩ = some (.map mp) ∧ (Instr.lookup 69 (.map mp) key false).run Try.prog w' = .ok (.pointer (some ⟨x, 0, none⟩)) w') ∧ Fr [] w3 w')
      (first | exact hG | assumption | exact wrS_step HK4 (by assumption) hF5)
      (first | (go_at_call 14; refine (SP.out _).mono ?_; rintro e w5 ⟨rfl, hF5⟩))
    all_goals
      have hS : (w5.cell? ⟨x, 1, none⟩ = some (.int .i64 k.wr) ∧ w5.cell? ⟨g, 2, none⟩ = some (.map mp) ∧ (Instr.lookup 69 (.map mp) key false).run Try.prog w5 = .ok (.pointer (some ⟨x, 0, none⟩)) w5) ∧ Fr [] w3 w5 := by assumption
      clear hG
      go_wp2_with fail
      go_ret
      exact ⟨rfl, hF4.trans hS.2⟩
theorem wrong_any (f : List UInt8) (hf : f.length ≤ 140737488355328) (h : StoreIs w g lim calm mp L K) :
    Calls Try.prog 27 #[.pointer (some ⟨g, 0, none⟩), .string (B f)] w fun e w' => e = .returned (.int .i64 (wrongE ((look L (spN f, spR f)).map K))) ∧ Fr [] w w' := by
  cases hl : look L (spN f, spR f) with
  | none => exact wrong_none f hf h hl
  | some x => exact wrong_some f hf h hl
end
end Go.Proofs.Ytpljdnocdhppmaa
