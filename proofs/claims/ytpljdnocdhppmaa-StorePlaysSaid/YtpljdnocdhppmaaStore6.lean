/- package store: Set. -/
import Derived.Test.YtpljdnocdhppmaaStore5
import Derived.StillTailTactics
namespace Go.Proofs.Ytpljdnocdhppmaa
open Go.RowKit Go.Maps
set_option linter.unusedVariables false

def lookOk (r : Option Nat) : Value := match r with | none => .tuple #[.pointer none, .bool false] | some x => .tuple #[ptrV x, .bool true]
theorem MapAt.look2 {w : World} {mp : Option Nat} {L : List (Who × Nat)} (h : MapAt w mp L) (a b : List UInt8) (ha : a.length ≤ maxLen) (hb : b.length ≤ maxLen) :
    (Instr.lookup 69 (.map mp) (.agg #[.string (B a), .string (B b)]) true).run Try.prog w = .ok (lookOk (look L (a, b))) w := by
  rcases h with ⟨rfl, rfl⟩ | ⟨m, rfl, h⟩
  · obtain ⟨kl, hk⟩ := whoE.ok (a, b) ⟨ha, hb⟩
    have hk' : keyOf Try.prog 24 (.agg #[.string (B a), .string (B b)]) = some kl := hk
    rcases who_law.find w hk' [] (by simp) with ⟨h1, _⟩ | ⟨j, e0, _, h2, _⟩
    · simp [Instr.lookup, run_underlying Try.underlying69, who_law.check w _ hk', h1, zero_ptr w, Result.andThen, lookOk, look]
    · simp at h2
  · have := h.lookup Try.underlying69 (zero_ptr w) true (a, b) ⟨ha, hb⟩
    refine this.trans ?_
    cases look L (a, b) <;> rfl
/-- a map's block is no row -/
theorem MapIs.not_blk {w : World} {b : Nat} {L : List (Who × Nat)} (h : MapIs whoE ptrV w b L) {g T : Nat} {cs : Array Value} (hB : Blk w g cs T) : g ≠ b := fun e => by
  subst e
  obtain ⟨es, cl, he, _⟩ := h
  unfold Blk at hB
  rw [he] at hB
  cases hB
theorem StoreIs.map {w : World} {g bm : Nat} {lim calm : Int} {L : List (Who × Nat)} {K : Nat → Kn} (h : StoreIs w g lim calm (some bm) L K) : MapIs whoE ptrV w bm L := by
  rcases h.mapAt with ⟨hc, _⟩ | ⟨b', hb', hm⟩
  · cases hc
  · cases hb'; exact hm
theorem StoreIs.delX {w w' : World} {g bm : Nat} {lim calm : Int} {L : List (Who × Nat)} {K : Nat → Kn} {who : Who} (h : StoreIs w g lim calm (some bm) L K) (hm : MapIs whoE ptrV w' bm (del L who)) (hF : Fr [bm] w w') :
    StoreIs w' g lim calm (some bm) (del L who) K := by
  have hsub : ∀ p, p ∈ del L who → p ∈ L := fun p hp => (List.mem_filter.1 hp).1
  refine ⟨hF.blk h.st (by simpa using h.map.not_blk h.st), Or.inr ⟨_, rfl, hm⟩, fun p hp => hF.blk (h.kn p (hsub p hp)) (by simpa using h.map.not_blk (h.kn p (hsub p hp))), ?_, fun p hp => h.apart p (hsub p hp)⟩
  exact h.nd.sublist (List.Sublist.map _ List.filter_sublist)
section
variable {w : World} {g x bm : Nat} {lim calm t : Int} {mp : Option Nat} {L : List (Who × Nat)} {K : Nat → Kn}
set_option maxRecDepth 100000 in
set_option maxHeartbeats 2000000 in
theorem set_long (f s : List UInt8) (hf : f.length ≤ 140737488355328) (hs : s.length ≤ 140737488355328) (hlong : 60 < f.length ∨ 60 < s.length) (h : StoreIs w g lim calm mp L K) :
    Calls Try.prog 25 #[.pointer (some ⟨g, 0, none⟩), .string (B f), .string (B s)] w fun e w' => e = .returned (.int .i64 2) ∧ Fr [] w w' := by
  have hsN := spN_le f
  have hsR := spR_le f
  have SP := Lib.hid fun W => split_any f W hf
  obtain ⟨a, ha⟩ : ∃ a, spN f = a := ⟨_, rfl⟩
  obtain ⟨b, hb⟩ : ∃ a, spR f = a := ⟨_, rfl⟩
  rw [ha, hb] at SP
  rw [ha] at hsN
  rw [hb] at hsR
  unfold whoC at SP
  have H := Lib.hid h
  have hX : (60 : Int) < f.length ∨ ¬ (60 : Int) < f.length ∧ (60 : Int) < s.length := by omega
  clear ha hb h hlong
  rcases hX with hX | ⟨h1, hX⟩
  all_goals
    go_enter Try.func25, Try.ntmps25
    go_wp2_with fail
    refine (SP.out _).mono ?_
    rintro e w1 ⟨rfl, hF1⟩
    have hF2 := hF1.alloc (.cells #[.string (B a), .string (B b)] 24 (0, 0))
    have hS2 := H.out.fr0 hF2
    have hlk : ∀ N, (Instr.lookup 69 (.map mp) (.agg #[.string (B a), .string (B b)]) true).run Try.prog ((w1.alloc (.cells #[.string (B a), .string (B b)] 24 (0, 0))).drewN N) = .ok (lookOk (look L (a, b))) ((w1.alloc (.cells #[.string (B a), .string (B b)] 24 (0, 0))).drewN N) :=
      fun N => (hS2.fr0 ((Fr.refl _ _).drewN N)).mapAt.look2 a b (by unfold maxLen; omega) (by unfold maxLen; omega)
    have c2 : (w1.alloc (.cells #[.string (B a), .string (B b)] 24 (0, 0))).cell? ⟨g, 2, none⟩ = some (.map mp) := hS2.st.c 2 _ rfl
    obtain ⟨v1, v2, hv⟩ : ∃ v1 v2, lookOk (look L (a, b)) = .tuple #[v1, v2] := by cases look L (a, b) <;> exact ⟨_, _, rfl⟩
    rw [hv] at hlk
    clear hS2 hv
    go_wp2
    go_quiet (fail)
    go_wp2
    go_ret
    exact ⟨rfl, hF2.drewN _⟩
set_option maxRecDepth 100000 in
set_option maxHeartbeats 2000000 in
theorem set_full (f s : List UInt8) (hf : f.length ≤ 60) (hs : s.length ≤ 60) (hl : look L (spN f, spR f) = none) (hfull : 100 ≤ L.length) (h : StoreIs w g lim calm (some bm) L K) :
    Calls Try.prog 25 #[.pointer (some ⟨g, 0, none⟩), .string (B f), .string (B s)] w fun e w' => e = .returned (.int .i64 10) ∧ Fr [] w w' := by
  have hsN := spN_le f
  have hsR := spR_le f
  have SP := Lib.hid fun W => split_any f W (by omega)
  obtain ⟨a, ha⟩ : ∃ a, spN f = a := ⟨_, rfl⟩
  obtain ⟨b, hb⟩ : ∃ a, spR f = a := ⟨_, rfl⟩
  rw [ha, hb] at SP hl
  rw [ha] at hsN
  rw [hb] at hsR
  unfold whoC at SP
  have H := Lib.hid h
  have h1 : ¬ (60 : Int) < f.length := by omega
  have h2 : ¬ (60 : Int) < s.length := by omega
  have h3 : (100 : Int) ≤ L.length := by omega
  have HL := Lib.hid hl
  clear ha hb h hl hfull
  go_enter Try.func25, Try.ntmps25
  go_wp2_with fail
  refine (SP.out _).mono ?_
  rintro e w1 ⟨rfl, hF1⟩
  have hF2 := hF1.alloc (.cells #[.string (B a), .string (B b)] 24 (0, 0))
  have hS2 := H.out.fr0 hF2
  have hlk : ∀ N, (Instr.lookup 69 (.map (some bm)) (.agg #[.string (B a), .string (B b)]) true).run Try.prog ((w1.alloc (.cells #[.string (B a), .string (B b)] 24 (0, 0))).drewN N) = .ok (lookOk (look L (a, b))) ((w1.alloc (.cells #[.string (B a), .string (B b)] 24 (0, 0))).drewN N) :=
    fun N => (hS2.fr0 ((Fr.refl _ _).drewN N)).mapAt.look2 a b (by unfold maxLen; omega) (by unfold maxLen; omega)
  have c2 : (w1.alloc (.cells #[.string (B a), .string (B b)] 24 (0, 0))).cell? ⟨g, 2, none⟩ = some (.map (some bm)) := hS2.st.c 2 _ rfl
  rw [HL.out] at hlk
  unfold lookOk at hlk
  have hln : ∀ N ty, (Builtin.len_ #[69] ty #[.map (some bm)]).run Try.prog ((w1.alloc (.cells #[.string (B a), .string (B b)] 24 (0, 0))).drewN N) = .ok (.int .i64 L.length) ((w1.alloc (.cells #[.string (B a), .string (B b)] 24 (0, 0))).drewN N) := fun N ty => by
    rcases (hS2.fr0 ((Fr.refl _ _).drewN N)).mapAt with ⟨hc, _⟩ | ⟨b', hb', hm⟩
    · cases hc
    · cases hb'
      exact hm.len Try.underlying69 ty
  clear hS2
  go_wp2
  go_quiet (fail)
  go_wp2
  go_ret
  exact ⟨rfl, hF2.drewN _⟩
set_option maxRecDepth 100000 in
set_option maxHeartbeats 2000000 in
theorem set_del (f : List UInt8) (hf : f.length ≤ 60) (hroom : (look L (spN f, spR f)).isSome ∨ L.length < 100) (h : StoreIs w g lim calm (some bm) L K) :
    Calls Try.prog 25 #[.pointer (some ⟨g, 0, none⟩), .string (B f), .string (B [])] w fun e w' => e = .returned (.int .i64 0) ∧ StoreIs w' g lim calm (some bm) (del L (spN f, spR f)) K ∧ Fr [bm] w w' := by
  have hsN := spN_le f
  have hsR := spR_le f
  have SP := Lib.hid fun W => split_any f W (by omega)
  obtain ⟨a, ha⟩ : ∃ a, spN f = a := ⟨_, rfl⟩
  obtain ⟨b, hb⟩ : ∃ a, spR f = a := ⟨_, rfl⟩
  rw [ha, hb] at SP hroom ⊢
  rw [ha] at hsN
  rw [hb] at hsR
  unfold whoC at SP
  have H := Lib.hid h
  have h1 : ¬ (60 : Int) < f.length := by omega
  have HL := Lib.hid hroom
  clear ha hb h hroom
  go_enter Try.func25, Try.ntmps25
  go_wp2_with fail
  refine (SP.out _).mono ?_
  rintro e w1 ⟨rfl, hF1⟩
  have hF2 := hF1.alloc (.cells #[.string (B a), .string (B b)] 24 (0, 0))
  have hS2 := H.out.fr0 hF2
  have hlk : ∀ N, (Instr.lookup 69 (.map (some bm)) (.agg #[.string (B a), .string (B b)]) true).run Try.prog ((w1.alloc (.cells #[.string (B a), .string (B b)] 24 (0, 0))).drewN N) = .ok (lookOk (look L (a, b))) ((w1.alloc (.cells #[.string (B a), .string (B b)] 24 (0, 0))).drewN N) :=
    fun N => (hS2.fr0 ((Fr.refl _ _).drewN N)).mapAt.look2 a b (by unfold maxLen; omega) (by unfold maxLen; omega)
  have c2 : (w1.alloc (.cells #[.string (B a), .string (B b)] 24 (0, 0))).cell? ⟨g, 2, none⟩ = some (.map (some bm)) := hS2.st.c 2 _ rfl
  obtain ⟨v1, v2, hv, hv2⟩ : ∃ v1, ∃ v2 : Bool, lookOk (look L (a, b)) = .tuple #[v1, .bool v2] ∧ (v2 = true ∨ v2 = false ∧ (L.length : Int) < 100) := by
    rcases HL.out with hh | hh
    · cases hq : look L (a, b) with
      | none => rw [hq] at hh; cases hh
      | some x => exact ⟨_, _, rfl, Or.inl rfl⟩
    · cases look L (a, b) with
      | none => exact ⟨_, _, rfl, Or.inr ⟨rfl, by omega⟩⟩
      | some x => exact ⟨_, _, rfl, Or.inl rfl⟩
  rw [hv] at hlk
  have hln : ∀ N ty, (Builtin.len_ #[69] ty #[.map (some bm)]).run Try.prog ((w1.alloc (.cells #[.string (B a), .string (B b)] 24 (0, 0))).drewN N) = .ok (.int .i64 L.length) ((w1.alloc (.cells #[.string (B a), .string (B b)] 24 (0, 0))).drewN N) := fun N ty => by
    rcases (hS2.fr0 ((Fr.refl _ _).drewN N)).mapAt with ⟨hc, _⟩ | ⟨b', hb', hm⟩
    · cases hc
    · cases hb'
      exact hm.len Try.underlying69 ty
  have HS2 := Lib.hid hS2
  clear hS2 hv
  rcases hv2 with rfl | ⟨rfl, hlt⟩
  all_goals
    go_wp2
    go_quiet (fail)
    go_wp2
    obtain ⟨W, hW⟩ : ∃ W, (w1.alloc (.cells #[.string (B a), .string (B b)] 24 (0, 0))).drewN nq = W := ⟨_, rfl⟩
    have hSW := HS2.out.fr0 ((Fr.refl _ _).drewN nq)
    have hBq := (Blk.new w1 #[.string (B a), .string (B b)] 24).drewN nq
    have hFW := hF2.drewN nq
    rw [hW] at hSW hBq hFW ⊢
    obtain ⟨q, hq⟩ : ∃ q, w1.heap.size = q := ⟨_, rfl⟩
    rw [hq] at hBq ⊢
    clear hW hq hlk hln c2 HS2 hF2
    obtain ⟨W2, hrun, hm2, hF3⟩ : ∃ W2, (Builtin.delete_ #[69, 24] 0 #[.map (some bm), .agg #[.string (B a), .string (B b)]]).run Try.prog W.drew = .ok (.tuple #[]) W2 ∧ MapIs whoE ptrV W2 bm (del L (a, b)) ∧ Fr [bm] W W2 := by
      rcases hSW.mapAt with ⟨hc, _⟩ | ⟨b', hb', hm⟩
      · cases hc
      · cases hb'
        obtain ⟨W2, h1, h2, h3⟩ := (hm.fr (Fr.refl [] W).drew (by simp)).delete Try.underlying69 (a, b) ⟨by show a.length ≤ _; unfold maxLen; omega, by show b.length ≤ _; unfold maxLen; omega⟩ 0
        exact ⟨W2, h1, h2, ((Fr.refl _ _).drew).trans h3⟩
    have hBm : ∀ p, p ∈ (a, b) :: [] → True := fun _ _ => trivial
    have hSt : StoreIs W2 g lim calm (some bm) (del L (a, b)) K := hSW.delX hm2 hF3
    have c2 : W.cell? ⟨g, 2, none⟩ = some (.map (some bm)) := hSW.st.c 2 _ rfl
    have q0 := hBq.c 0 _ rfl
    have q1 := hBq.c 1 _ rfl
    have HSt := Lib.hid hSt
    clear hSt hSW hm2 hBq hBm
    go_region
    all_goals
      go_wp2_with fail
      go_ret
      exact ⟨rfl, HSt.out, (hFW.mono (by simp)).trans hF3⟩
set_option maxRecDepth 100000 in
set_option maxHeartbeats 2000000 in
theorem set_old (f s : List UInt8) (hf : f.length ≤ 60) (hs : s.length ≤ 60) (s0 : s ≠ []) (hl : look L (spN f, spR f) = some x) (h : StoreIs w g lim calm (some bm) L K) :
    Calls Try.prog 25 #[.pointer (some ⟨g, 0, none⟩), .string (B f), .string (B s)] w fun e w' => e = .returned (.int .i64 0) ∧ StoreIs w' g lim calm (some bm) L (kupd K x ⟨s, (K x).wr, (K x).la⟩) ∧ Fr [x] w w' := by
  have hsN := spN_le f
  have hsR := spR_le f
  have SP := Lib.hid fun W => split_any f W (by omega)
  have CL := Lib.hid fun W => clone_any s W (by omega)
  obtain ⟨a, ha⟩ : ∃ a, spN f = a := ⟨_, rfl⟩
  obtain ⟨b, hb⟩ : ∃ a, spR f = a := ⟨_, rfl⟩
  rw [ha, hb] at SP hl
  rw [ha] at hsN
  rw [hb] at hsR
  unfold whoC at SP
  have H := Lib.hid h
  have h1 : ¬ (60 : Int) < f.length := by omega
  have h2 : ¬ (60 : Int) < s.length := by omega
  have hs1 : s.isEmpty = false := by simpa using s0
  have HL := Lib.hid hl
  clear ha hb h hl s0
  go_enter Try.func25, Try.ntmps25
  go_wp2_with fail
  refine (SP.out _).mono ?_
  rintro e w1 ⟨rfl, hF1⟩
  have hF2 := hF1.alloc (.cells #[.string (B a), .string (B b)] 24 (0, 0))
  have hS2 := H.out.fr0 hF2
  have hlk : ∀ N, (Instr.lookup 69 (.map (some bm)) (.agg #[.string (B a), .string (B b)]) true).run Try.prog ((w1.alloc (.cells #[.string (B a), .string (B b)] 24 (0, 0))).drewN N) = .ok (lookOk (look L (a, b))) ((w1.alloc (.cells #[.string (B a), .string (B b)] 24 (0, 0))).drewN N) :=
    fun N => (hS2.fr0 ((Fr.refl _ _).drewN N)).mapAt.look2 a b (by unfold maxLen; omega) (by unfold maxLen; omega)
  have c2 : (w1.alloc (.cells #[.string (B a), .string (B b)] 24 (0, 0))).cell? ⟨g, 2, none⟩ = some (.map (some bm)) := hS2.st.c 2 _ rfl
  rw [HL.out] at hlk
  unfold lookOk at hlk
  have hKx := hS2.kn _ (hS2.mem HL.out)
  simp only at hKx
  obtain ⟨k, hk⟩ : ∃ k, K x = k := ⟨_, rfl⟩
  rw [hk] at hKx
  have HK := Lib.hid hk
  have HS2 := Lib.hid hS2
  clear hS2 hk
  unfold ptrV at hlk
  go_wp2
  go_quiet (fail)
  have hnm := fun W : World => run_eql_map_nil (P := Try.prog) W 69 24 86 (some bm) Try.underlying69
  go_wp2_with fail
  refine (CL.out _).mono ?_
  rintro e w3 ⟨rfl, hF3⟩
  have hF4 := hF2.trans (((Fr.refl _ _).drewN nq).trans hF3)
  have hK3 := hF3.blk (hKx.drewN nq) (by simp)
  have d0 : w3.cell? ⟨x, 0, none⟩ = some (.string (B k.s)) := hK3.c 0 _ rfl
  have f0 := hK3.fz 0
  have hB9 : Blk (w3.setCell ⟨x, 0, none⟩ (.string (B s))) x (knC ⟨s, k.wr, k.la⟩) 89 := by
    have := hK3.set 0 (.string (B s))
    simpa [knC] using this
  have hF9 : Fr [x] w (w3.setCell ⟨x, 0, none⟩ (.string (B s))) := (hF4.mono (by simp)).setCell (by simp) _
  clear hlk c2 hF2 hF4 hF3 hK3 hKx
  go_wp2
  go_ret
  refine ⟨rfl, ?_, hF9⟩
  rw [HK.out]
  exact H.out.upd HL.out _ hF9 hB9
theorem put_new {L : List (Who × Nat)} {who : Who} (hl : look L who = none) (x : Nat) : put L who x = L ++ [(who, x)] := by unfold put; rw [hl]; rfl
/-- a new name laid in -/
theorem StoreIs.putX {w w' : World} {g bm x : Nat} {lim calm : Int} {L : List (Who × Nat)} {K : Nat → Kn} {who : Who} (h : StoreIs w g lim calm (some bm) L K) (hl : look L who = none) (hx : w.heap.size ≤ x) (k : Kn) (hm : MapIs whoE ptrV w' bm (put L who x)) (hB : Blk w' x (knC k) 89) (hF : Fr [bm] w w') :
    StoreIs w' g lim calm (some bm) (put L who x) (kupd K x k) := by
  have hg := h.st.lt
  have hne : ∀ p, p ∈ L → p.2 ≠ x := fun p hp => by have := (h.kn p hp).lt; omega
  rw [put_new hl] at hm ⊢
  refine ⟨hF.blk h.st (by simpa using h.map.not_blk h.st), Or.inr ⟨_, rfl, hm⟩, fun p hp => ?_, ?_, fun p hp => ?_⟩
  · rcases List.mem_append.1 hp with hp | hp
    · unfold kupd
      rw [if_neg (hne p hp)]
      exact hF.blk (h.kn p hp) (by simpa using h.map.not_blk (h.kn p hp))
    · simp at hp; subst hp
      unfold kupd
      rw [if_pos rfl]; exact hB
  · rw [List.map_append, List.nodup_append]
    refine ⟨h.nd, by simp, fun y hy z hz => ?_⟩
    obtain ⟨p, hp, rfl⟩ := List.mem_map.1 hy
    simp at hz; subst hz
    exact hne p hp
  · rcases List.mem_append.1 hp with hp | hp
    · exact h.apart p hp
    · simp at hp; subst hp
      show x ≠ g
      omega
set_option maxRecDepth 100000 in
set_option maxHeartbeats 4000000 in
theorem set_new (f s : List UInt8) (hf : f.length ≤ 60) (hs : s.length ≤ 60) (s0 : s ≠ []) (hl : look L (spN f, spR f) = none) (hroom : L.length < 100) (h : StoreIs w g lim calm (some bm) L K) :
    Calls Try.prog 25 #[.pointer (some ⟨g, 0, none⟩), .string (B f), .string (B s)] w fun e w' => ∃ x, e = .returned (.int .i64 0) ∧ w.heap.size ≤ x ∧ StoreIs w' g lim calm (some bm) (put L (spN f, spR f) x) (kupd K x ⟨s, 0, 0⟩) ∧ Fr [bm] w w' := by
  have hsN := spN_le f
  have hsR := spR_le f
  have SP := Lib.hid fun W => split_any f W (by omega)
  have CL := Lib.hid fun W => clone_any s W (by omega)
  obtain ⟨a, ha⟩ : ∃ a, spN f = a := ⟨_, rfl⟩
  obtain ⟨b, hb⟩ : ∃ a, spR f = a := ⟨_, rfl⟩
  rw [ha, hb] at SP hl ⊢
  rw [ha] at hsN
  rw [hb] at hsR
  unfold whoC at SP
  have H := Lib.hid h
  have h1 : ¬ (60 : Int) < f.length := by omega
  have h2 : ¬ (60 : Int) < s.length := by omega
  have h3 : ¬ (100 : Int) ≤ L.length := by omega
  have hs1 : s.isEmpty = false := by simpa using s0
  have HL := Lib.hid hl
  clear ha hb h hl s0
  go_enter Try.func25, Try.ntmps25
  go_wp2_with fail
  refine (SP.out _).mono ?_
  rintro e w1 ⟨rfl, hF1⟩
  have hF2 := hF1.alloc (.cells #[.string (B a), .string (B b)] 24 (0, 0))
  have hS2 := H.out.fr0 hF2
  have hlk : ∀ N, (Instr.lookup 69 (.map (some bm)) (.agg #[.string (B a), .string (B b)]) true).run Try.prog ((w1.alloc (.cells #[.string (B a), .string (B b)] 24 (0, 0))).drewN N) = .ok (lookOk (look L (a, b))) ((w1.alloc (.cells #[.string (B a), .string (B b)] 24 (0, 0))).drewN N) :=
    fun N => (hS2.fr0 ((Fr.refl _ _).drewN N)).mapAt.look2 a b (by unfold maxLen; omega) (by unfold maxLen; omega)
  have c2 : (w1.alloc (.cells #[.string (B a), .string (B b)] 24 (0, 0))).cell? ⟨g, 2, none⟩ = some (.map (some bm)) := hS2.st.c 2 _ rfl
  rw [HL.out] at hlk
  unfold lookOk at hlk
  have hln : ∀ N ty, (Builtin.len_ #[69] ty #[.map (some bm)]).run Try.prog ((w1.alloc (.cells #[.string (B a), .string (B b)] 24 (0, 0))).drewN N) = .ok (.int .i64 L.length) ((w1.alloc (.cells #[.string (B a), .string (B b)] 24 (0, 0))).drewN N) := fun N ty =>
    (hS2.fr0 ((Fr.refl _ _).drewN N)).map.len Try.underlying69 ty
  have HS2 := Lib.hid hS2
  clear hS2
  go_wp2
  go_quiet (fail)
  have hnm := fun W : World => run_eql_map_nil (P := Try.prog) W 69 24 86 (some bm) Try.underlying69
  go_wp2_with fail
  obtain ⟨W, hW⟩ : ∃ W, ((w1.alloc (.cells #[.string (B a), .string (B b)] 24 (0, 0))).drewN nq).alloc (.cells #[.string ⟨#[]⟩, .int .i64 0, .int .i64 0] 89 (0, 0)) = W := ⟨_, rfl⟩
  have hFx : Fr [] (w1.alloc (.cells #[.string (B a), .string (B b)] 24 (0, 0))) W := by rw [← hW]; exact ((Fr.refl _ _).drewN nq).alloc _
  have hSW := HS2.out.fr0 hFx
  have hBq := hFx.blk (Blk.new w1 #[.string (B a), .string (B b)] 24) (by simp)
  have hBx := Blk.new ((w1.alloc (.cells #[.string (B a), .string (B b)] 24 (0, 0))).drewN nq) #[.string ⟨#[]⟩, .int .i64 0, .int .i64 0] 89
  rw [hW] at hBx ⊢
  have hFW := hF2.trans hFx
  obtain ⟨q, hq⟩ : ∃ q, w1.heap.size = q := ⟨_, rfl⟩
  have hz1 := hF1.size
  rw [show ((w1.alloc (.cells #[.string (B a), .string (B b)] 24 (0, 0))).drewN nq).heap.size = w1.heap.size + 1 by show (w1.alloc (.cells #[.string (B a), .string (B b)] 24 (0, 0))).heap.size = _; simp] at hBx
  rw [hq] at hBq hBx hz1 ⊢
  clear hW hq hlk hln c2 HS2 hF2 hF1
  obtain ⟨W2, hrun, hm2, hF3⟩ : ∃ W2, (Instr.mapUpdate 69 (.map (some bm)) (.agg #[.string (B a), .string (B b)]) (.pointer (some ⟨q + 1, 0, none⟩))).run Try.prog W.drew = .ok () W2 ∧ MapIs whoE ptrV W2 bm (put L (a, b) (q + 1)) ∧ Fr [bm] W W2 := by
    obtain ⟨W2, h1, h2, h3⟩ := (hSW.map.fr (Fr.refl [] W).drew (by simp)).update Try.underlying69 (by unfold maxLen; omega) (a, b) ⟨by show a.length ≤ _; unfold maxLen; omega, by show b.length ≤ _; unfold maxLen; omega⟩ (q + 1)
    exact ⟨W2, h1, h2, ((Fr.refl _ _).drew).trans h3⟩
  have c2 : W.cell? ⟨g, 2, none⟩ = some (.map (some bm)) := hSW.st.c 2 _ rfl
  have q0 := hBq.c 0 _ rfl
  have q1 := hBq.c 1 _ rfl
  have hB2 := hF3.blk hBx (by simpa using hSW.map.not_blk hBx)
  have hF4 := (hFW.mono (by simp)).trans hF3
  have HW := Lib.hid hm2
  clear hm2 hBq hSW hBx
  go_region
  all_goals
    go_wp2_with fail
    refine (CL.out _).mono ?_
    rintro e w3 ⟨rfl, hF5⟩
    have hB3 := hF5.blk hB2 (by simp)
    have hm3 := HW.out.fr hF5 (by simp)
    have hF6 := hF4.trans (hF5.mono (by simp))
    have d0 := hB3.c 0 _ rfl
    have f0 := hB3.fz 0
    have hB4 : Blk (w3.setCell ⟨q + 1, 0, none⟩ (.string (B s))) (q + 1) (knC ⟨s, 0, 0⟩) 89 := by
      have := hB3.set 0 (.string (B s))
      simpa [knC] using this
    have hbm : bm ≠ q + 1 := fun e => by
      subst e
      exact HW.out.not_blk hB2 rfl
    have hF7 : Fr [bm] w (w3.setCell ⟨q + 1, 0, none⟩ (.string (B s))) := hF6.setNew (by show _ ≤ q + 1; omega) _
    have hm4 : MapIs whoE ptrV (w3.setCell ⟨q + 1, 0, none⟩ (.string (B s))) bm (put L (a, b) (q + 1)) := hm3.fr (S := [q + 1]) ((Fr.refl _ _).setCell (by simp) _) (by simpa using hbm)
    have HM4 := Lib.hid hm4
    clear hm4 hm3 hB3 hB2 hF6 hF5 hF4 hF3 hrun c2 q0 q1
    go_wp2
    go_ret
    exact ⟨q + 1, rfl, by omega, H.out.putX HL.out (by omega) _ HM4.out hB4 hF7, hF7⟩
end
end Go.Proofs.Ytpljdnocdhppmaa
