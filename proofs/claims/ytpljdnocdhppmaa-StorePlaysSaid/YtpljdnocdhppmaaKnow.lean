/- package store: Chap; what a store knows (printed by tools/gen_know.py). -/
import Derived.Test.YtpljdnocdhppmaaStore7
import Derived.Test.YtpljdnocdhppmaaChapP
namespace Go.Proofs.Ytpljdnocdhppmaa
open Go.RowKit Go.Maps
set_option linter.unusedVariables false
theorem entC (args : Array Value) (w : World) : (callFunc 56 args).run Try.prog w = .ok (.enter 56 args) w := by
  have h1 : ¬ Try.f56.name = "runtime.NumGoroutine" := of_decide_eq_false (by kernel_rfl)
  have h2 : ¬ Try.f56.body = none := fun h => by
    have : Try.f56.body.isNone = false := by kernel_rfl
    rw [h] at this
    cases this
  simp [callFunc, go_sem, Try.func56, h1, h2]
theorem nodup_snd {α β : Type} {l : List (α × β)} (h : (l.map (·.2)).Nodup) {a b : α} {x : β} (h1 : (a, x) ∈ l) (h2 : (b, x) ∈ l) : (a, x) = (b, x) := by
  induction l with
  | nil => cases h1
  | cons p r ih =>
    rw [List.map_cons, List.nodup_cons] at h
    rcases List.mem_cons.1 h1 with e1 | m1
    · rcases List.mem_cons.1 h2 with e2 | m2
      · rw [e1, e2]
      · exact absurd (List.mem_map.2 ⟨_, m2, by rw [← e1]⟩) h.1
    · rcases List.mem_cons.1 h2 with e2 | m2
      · exact absurd (List.mem_map.2 ⟨_, m1, by rw [← e2]⟩) h.1
      · exact ih h.2 m1 m2
section
variable {w : World} {g x bm : Nat} {lim calm t : Int} {mp : Option Nat} {L : List (Who × Nat)} {K : Nat → Kn}
set_option maxRecDepth 100000 in
theorem clo_chap {c1 c2 c3 : Nat} (id : Int) (own v r : List UInt8) (ho : own.length ≤ 60) (hv : v.length ≤ 1000) (hr : r.length ≤ 140737488351232) (h1 : Blk w c1 #[.int .i64 id] 3) (h2 : Blk w c2 #[.string (B v)] 9) (h3 : Blk w c3 #[.string (B r)] 9) :
    Calls Try.prog 56 #[.string (B own), .pointer (some ⟨c1, 0, none⟩), .pointer (some ⟨c2, 0, none⟩), .pointer (some ⟨c3, 0, none⟩)] w fun e w' => e = .returned (.bool (decide (md5 (chapL id own v) = r))) ∧ Fr [] w w' := by
  have HX : Hid (∀ W, Fr [] w W → (fun W => (W.cell? ⟨c1, 0, none⟩ = some (.int .i64 id) ∧ W.cell? ⟨c2, 0, none⟩ = some (.string (B v)) ∧ W.cell? ⟨c3, 0, none⟩ = some (.string (B r))) ∧ Fr [] w W) W) := Lib.hid fun W hW => ⟨⟨(hW.blk h1 (by simp)).c 0 _ rfl, (hW.blk h2 (by simp)).c 0 _ rfl, (hW.blk h3 (by simp)).c 0 _ rfl⟩, hW⟩
  have CH := Lib.hid fun W => chap_any id own v W (by omega) (by omega)
  have hml : (md5 (chapL id own v)).length = 16 := md5_length _
  have SA := Lib.hid fun W => same_any (md5 (chapL id own v)) r W (by omega) hr
  obtain ⟨M, hM⟩ : ∃ m, md5 (chapL id own v) = m := ⟨_, rfl⟩
  rw [hM] at CH SA ⊢
  obtain ⟨b, hb⟩ : ∃ b, decide (M = r) = b := ⟨_, rfl⟩
  rw [hb] at SA ⊢
  clear hb hM hml h1 h2 h3 ho hv hr
  go_enter Try.func56, Try.ntmps56
  go_wp2_with fail
  refine wp_region_held_drew (S := (fun W => (W.cell? ⟨c1, 0, none⟩ = some (.int .i64 id) ∧ W.cell? ⟨c2, 0, none⟩ = some (.string (B v)) ∧ W.cell? ⟨c3, 0, none⟩ = some (.string (B r))) ∧ Fr [] w W)) (by kernel_rfl) ?_ (fun hHeld => ?_)
  · (try dsimp only); exact HX.out _ (Fr.refl [] w).drew
  refine take_yes 0 6 rfl rfl (by kernel_rfl) (by kernel_rfl) (by kernel_rfl) (fun _ _ _ h => h) (by rfl) (by assumption) (v := ?_) ?_ ?_
  rotate_left
  · intro w hSw; (try dsimp only at hSw); go_simp; (try with_reducible rfl)
  try simp only [Act.put, List.setIfInBounds_toArray, List.set_cons_zero, List.set_cons_succ]
  refine take_yes 1 7 rfl rfl (by kernel_rfl) (by kernel_rfl) (by kernel_rfl) (fun _ _ _ h => h) (by rfl) (by assumption) (v := ?_) ?_ ?_
  rotate_left
  · intro w hSw; (try dsimp only at hSw); go_simp; (try with_reducible rfl)
  try simp only [Act.put, List.setIfInBounds_toArray, List.set_cons_zero, List.set_cons_succ]
  refine take_yes 2 8 rfl rfl (by kernel_rfl) (by kernel_rfl) (by kernel_rfl) (fun _ _ _ h => h) (by rfl) (by assumption) (v := ?_) ?_ ?_
  rotate_left
  · intro w hSw; (try dsimp only at hSw); go_simp; (try with_reducible rfl)
  try simp only [Act.put, List.setIfInBounds_toArray, List.set_cons_zero, List.set_cons_succ]
  refine take_yes 4 10 rfl rfl (by kernel_rfl) (by kernel_rfl) (by kernel_rfl) (fun _ _ _ h => h) (by rfl) (by assumption) (v := ?_) ?_ ?_
  rotate_left
  · intro w hSw; (try dsimp only at hSw); go_simp; (try with_reducible rfl)
  try simp only [Act.put, List.setIfInBounds_toArray, List.set_cons_zero, List.set_cons_succ]
  refine wpAnyH_ready (rs := [3]) (by kernel_rfl) (by simp) ?_
  refine AllReadyH.cons (o := _) rfl (fun K hK => ?_) AllReadyH.nil
  go_simp
  refine (CH.out _).mono ?_
  rintro e w1 ⟨rfl, hF1⟩
  (try go_wp2_with fail)
  refine hK.out _ _ ?_ (fun hHeld => ?_)
  · (try dsimp only); exact HX.out _ (Fr.trans (And.right hHeld) hF1)
  clear hK K
  try simp only [Act.put, List.setIfInBounds_toArray, List.set_cons_zero, List.set_cons_succ]
  refine wpAnyH_ready (rs := [5]) (by kernel_rfl) (by simp) ?_
  refine AllReadyH.cons (o := _) rfl (fun K hK => ?_) AllReadyH.nil
  go_simp
  refine (SA.out _).mono ?_
  rintro e w2 ⟨rfl, n, rfl⟩
  (try go_wp2_with fail)
  refine hK.out _ _ ?_ (fun hHeld => ?_)
  · (try dsimp only); exact HX.out _ ((And.right hHeld).drewN _)
  clear hK K
  try simp only [Act.put, List.setIfInBounds_toArray, List.set_cons_zero, List.set_cons_succ]
  refine take_yes 6 5 rfl rfl (by kernel_rfl) (by kernel_rfl) (by kernel_rfl) (fun _ _ _ h => h) (by rfl) (by assumption) (v := ?_) ?_ ?_
  rotate_left
  · intro w hSw; (try dsimp only at hSw); go_simp; (try with_reducible rfl)
  try simp only [Act.put, List.setIfInBounds_toArray, List.set_cons_zero, List.set_cons_succ]
  refine wpAnyH_done (by kernel_rfl) ?_ _
  go_wp2_with fail
  go_ret
  exact ⟨rfl, And.right hHeld⟩
theorem schap_any (f v r : List UInt8) (id : Int) (hf : f.length ≤ 140737488355328) (hv : v.length ≤ 1000) (hr : r.length ≤ 140737488351232) (h : StoreIs w g lim calm mp L K) (KO : KsOk L K) (KL : KsLen L K)
    (t0 : -9223372036854775808 ≤ t) (t1 : t ≤ 9223372036854775807) (m0 : 0 ≤ calm) (m1 : calm ≤ 1000) :
    Calls Try.prog 36 #[.pointer (some ⟨g, 0, none⟩), .string (B f), .int .i64 id, .string (B v), .string (B r), .int .i64 t] w fun e w' =>
      e = .returned (.int .i64 (tryE lim calm t (fun k => decide (md5 (chapL id k.s v) = r)) ((look L (spN f, spR f)).map K))) ∧ StoreIs w' g lim calm mp L (tryKs lim calm t (fun k => decide (md5 (chapL id k.s v) = r)) K (look L (spN f, spR f))) ∧ Fr (L.map (·.2)) w w' := by
  have hA := (((Fr.refl [] w).alloc (.cells #[.int .i64 id] 3 (0, 0))).alloc (.cells #[.string (B v)] 9 (0, 0))).alloc (.cells #[.string (B r)] 9 (0, 0))
  have b1 := ((Blk.new w #[.int .i64 id] 3).alloc (.cells #[.string (B v)] 9 (0, 0))).alloc (.cells #[.string (B r)] 9 (0, 0))
  have b2 := (Blk.new (w.alloc (.cells #[.int .i64 id] 3 (0, 0))) #[.string (B v)] 9).alloc (.cells #[.string (B r)] 9 (0, 0))
  have b3 := Blk.new ((w.alloc (.cells #[.int .i64 id] 3 (0, 0))).alloc (.cells #[.string (B v)] 9 (0, 0))) #[.string (B r)] 9
  rw [show (w.alloc (.cells #[.int .i64 id] 3 (0, 0))).heap.size = w.heap.size + 1 by simp] at b2
  rw [show ((w.alloc (.cells #[.int .i64 id] 3 (0, 0))).alloc (.cells #[.string (B v)] 9 (0, 0))).heap.size = w.heap.size + 1 + 1 by simp] at b3
  have TA := Lib.hid (try_any (F := 56) (caps := #[.pointer (some ⟨w.heap.size, 0, none⟩), .pointer (some ⟨w.heap.size + 1, 0, none⟩), .pointer (some ⟨w.heap.size + 1 + 1, 0, none⟩)]) f hf (h.fr0 hA) KO (fun k => decide (md5 (chapL id k.s v) = r))
    (fun x hl => ⟨entC, fun W hW => clo_chap id (K x).s v r (by have := KL _ (h.mem hl); simp only at this; omega) hv hr (hW.blk b1 (by simp)) (hW.blk b2 (by simp)) (hW.blk b3 (by simp))⟩) t0 t1 m0 m1)
  clear h KO KL b1 b2 b3
  obtain ⟨EV, hEV⟩ : ∃ x, tryE lim calm t (fun k => decide (md5 (chapL id k.s v) = r)) ((look L (spN f, spR f)).map K) = x := ⟨_, rfl⟩
  obtain ⟨KV, hKV⟩ : ∃ x, tryKs lim calm t (fun k => decide (md5 (chapL id k.s v) = r)) K (look L (spN f, spR f)) = x := ⟨_, rfl⟩
  rw [hEV, hKV] at TA ⊢
  clear hEV hKV
  have HA := Lib.hid hA
  go_enter Try.func36, Try.ntmps36
  go_wp2_with fail
  refine TA.out.mono ?_
  rintro e w1 ⟨rfl, hS, hF⟩
  have HS := Lib.hid hS
  clear hS TA
  go_wp2
  go_ret
  exact ⟨rfl, HS.out, (HA.out.mono (by simp)).trans hF⟩
/-- the secret of a name -/
def know (L : List (Who × Nat)) (K : Nat → Kn) (who : Who) : Option (List UInt8) := (look L who).map fun x => (K x).s
structure Kw (w : World) (g bm : Nat) (lim calm : Int) (L : List (Who × Nat)) (K : Nat → Kn) : Prop where
  st : StoreIs w g lim calm (some bm) L K
  ok : KsOk L K
  len : KsLen L K
theorem Kw.fr0 {w' : World} (h : Kw w g bm lim calm L K) (hF : Fr [] w w') : Kw w' g bm lim calm L K := ⟨h.st.fr0 hF, h.ok, h.len⟩
/-- what Set may touch -/
def footS (bm : Nat) (L : List (Who × Nat)) : List Nat := bm :: L.map (·.2)
theorem setk_any (f s : List UInt8) (hf : f.length ≤ 60) (hs : s.length ≤ 60) (hroom : L.length < 100) (h : Kw w g bm lim calm L K) :
    Calls Try.prog 25 #[.pointer (some ⟨g, 0, none⟩), .string (B f), .string (B s)] w fun e w' => e = .returned (.int .i64 0) ∧ ∃ L' K', Kw w' g bm lim calm L' K' ∧ L'.length ≤ L.length + 1 ∧ (∀ who, know L' K' who = if who = (spN f, spR f) then (if s = [] then none else some s) else know L K who) ∧
      Fr (footS bm L) w w' ∧ (∀ y, y ∈ L'.map (·.2) → y ∈ L.map (·.2) ∨ w.heap.size ≤ y) := by
  by_cases s0 : s = []
  · subst s0
    refine (set_del f hf (Or.inr hroom) h.st).mono ?_
    rintro e w' ⟨rfl, hS, hF⟩
    have hsub : ∀ p, p ∈ del L (spN f, spR f) → p ∈ L := fun p hp => (List.mem_filter.1 hp).1
    refine ⟨rfl, _, K, ⟨hS, fun p hp => h.ok p (hsub p hp), fun p hp => h.len p (hsub p hp)⟩, ?_, fun who => ?_, hF.mono (by simp [footS]), fun y hy => ?_⟩
    · have : (del L (spN f, spR f)).length ≤ L.length := List.length_filter_le _ _
      omega
    · unfold know
      by_cases hw : who = (spN f, spR f)
      · subst hw
        rw [look_del_same]
        simp
      · rw [look_del_other _ _ _ hw]
        simp [hw]
    · obtain ⟨p, hp, rfl⟩ := List.mem_map.1 hy
      exact Or.inl (List.mem_map.2 ⟨p, hsub p hp, rfl⟩)
  · cases hl : look L (spN f, spR f) with
    | some x =>
      have hmem := h.st.mem hl
      refine (set_old f s hf hs s0 hl h.st).mono ?_
      rintro e w' ⟨rfl, hS, hF⟩
      refine ⟨rfl, L, _, ⟨hS, fun p hp => ?_, fun p hp => ?_⟩, by omega, fun who => ?_, hF.mono (by
        intro y hy
        simp at hy
        subst hy
        exact List.mem_cons_of_mem _ (List.mem_map.2 ⟨_, hmem, rfl⟩)), fun y hy => Or.inl hy⟩
      · unfold kupd
        split
        · exact h.ok _ hmem
        · exact h.ok p hp
      · unfold kupd
        split
        · exact hs
        · exact h.len p hp
      · unfold know
        by_cases hw : who = (spN f, spR f)
        · subst hw
          rw [hl]
          simp [kupd, s0]
        · rw [if_neg hw]
          cases hk : look L who with
          | none => rfl
          | some y =>
            have hyx : y ≠ x := fun e => by
              subst e
              have h1 := h.st.mem hk
              have h2 := h.st.nd
              have : (who, y) = ((spN f, spR f), y) := nodup_snd h2 h1 hmem
              exact hw (congrArg Prod.fst this)
            simp [kupd, hyx]
    | none =>
      refine (set_new f s hf hs s0 hl hroom h.st).mono ?_
      rintro e w' ⟨x, rfl, hx, hS, hF⟩
      have hne : ∀ p, p ∈ L → p.2 ≠ x := fun p hp => by
        have := (h.st.kn p hp).lt
        omega
      rw [put_new hl] at hS
      refine ⟨rfl, _, _, ⟨hS, fun p hp => ?_, fun p hp => ?_⟩, by simp, fun who => ?_, hF.mono (by simp [footS]), fun y hy => ?_⟩
      · unfold kupd
        split
        · unfold KnOk; simp
        · rename_i hpx
          rcases List.mem_append.1 hp with hp | hp
          · exact h.ok p hp
          · simp at hp
            subst hp
            exact absurd rfl hpx
      · unfold kupd
        split
        · exact hs
        · rename_i hpx
          rcases List.mem_append.1 hp with hp | hp
          · exact h.len p hp
          · simp at hp
            subst hp
            exact absurd rfl hpx
      · unfold know
        rw [← put_new hl x]
        by_cases hw : who = (spN f, spR f)
        · subst hw
          rw [look_put_same]
          simp [kupd, s0]
        · rw [look_put_other _ _ _ _ hw, if_neg hw]
          cases hk : look L who with
          | none => rfl
          | some y =>
            have hyx : y ≠ x := hne _ (h.st.mem hk)
            simp [kupd, hyx]
      · rw [List.map_append, List.mem_append] at hy
        rcases hy with hy | hy
        · exact Or.inl hy
        · simp at hy
          exact Or.inr (by omega)
theorem tryK_s (ok : Kn → Bool) (k : Kn) : (tryK lim calm t ok k).s = k.s := by
  unfold tryK okK badK
  split
  · rfl
  · split <;> rfl
theorem tryK_ok (t0 : -9223372036854775808 ≤ t) (t1 : t ≤ 9223372036854775807) (ok : Kn → Bool) (k : Kn) (h : KnOk k) : KnOk (tryK lim calm t ok k) := by
  unfold tryK okK badK KnOk at *
  split
  · exact h
  · split
    · simp only; omega
    · simp only; omega
theorem tryKs_s (ok : Kn → Bool) (r : Option Nat) (y : Nat) : (tryKs lim calm t ok K r y).s = (K y).s := by
  cases r with
  | none => rfl
  | some x =>
    simp only [tryKs, kupd]
    split
    · rename_i e; rw [tryK_s, e]
    · rfl
theorem Kw.tried {w' : World} (h : Kw w g bm lim calm L K) (t0 : -9223372036854775808 ≤ t) (t1 : t ≤ 9223372036854775807) (ok : Kn → Bool) (r : Option Nat) (hr : ∀ x, r = some x → ∃ who, (who, x) ∈ L) (hS : StoreIs w' g lim calm (some bm) L (tryKs lim calm t ok K r)) : Kw w' g bm lim calm L (tryKs lim calm t ok K r) := by
  refine ⟨hS, fun p hp => ?_, fun p hp => ?_⟩
  · cases r with
    | none => exact h.ok p hp
    | some x =>
      simp only [tryKs, kupd]
      split
      · obtain ⟨who, hx⟩ := hr x rfl
        exact tryK_ok t0 t1 ok _ (h.ok _ hx)
      · exact h.ok p hp
  · rw [tryKs_s]
    exact h.len p hp
theorem know_tried (ok : Kn → Bool) (r : Option Nat) (who : Who) : know L (tryKs lim calm t ok K r) who = know L K who := by
  unfold know
  cases look L who with
  | none => rfl
  | some y => simp [tryKs_s]
/-- what a store without a limit says -/
def saysE (ok : List UInt8 → Bool) (r : Option (List UInt8)) : Int := match r with | none => 30 | some s => if ok s = true then 0 else 30
theorem tryE_free (ok : List UInt8 → Bool) (who : Who) : tryE 0 calm t (fun k => ok k.s) ((look L who).map K) = saysE ok (know L K who) := by
  unfold know tryE saysE
  cases look L who with
  | none => rfl
  | some y =>
    have : shutB 0 calm (K y) t = false := by unfold shutB; simp
    simp [this]
theorem kpap_any (f s : List UInt8) (hf : f.length ≤ 1000) (hs : s.length ≤ 1000) (h : Kw w g bm 0 1 L K) :
    Calls Try.prog 26 #[.pointer (some ⟨g, 0, none⟩), .string (B f), .string (B s), .int .i64 0] w fun e w' => e = .returned (.int .i64 (saysE (fun o => decide (o = s)) (know L K (spN f, spR f)))) ∧ (∃ K', Kw w' g bm 0 1 L K' ∧ ∀ who, know L K' who = know L K who) ∧ Fr (L.map (·.2)) w w' := by
  refine (pap_any f s (by omega) (by omega) h.st h.ok h.len (by decide) (by decide) (by decide) (by decide)).mono ?_
  rintro e w' ⟨rfl, hS, hF⟩
  rw [tryE_free (fun o => decide (o = s))]
  exact ⟨rfl, ⟨_, h.tried (by decide) (by decide) _ _ (fun x hx => ⟨_, h.st.mem hx⟩) hS, fun who => know_tried _ _ who⟩, hF⟩
theorem kchap_any (f v r : List UInt8) (id : Int) (hf : f.length ≤ 1000) (hv : v.length ≤ 1000) (hr : r.length ≤ 1000) (h : Kw w g bm 0 1 L K) :
    Calls Try.prog 36 #[.pointer (some ⟨g, 0, none⟩), .string (B f), .int .i64 id, .string (B v), .string (B r), .int .i64 0] w fun e w' => e = .returned (.int .i64 (saysE (fun o => decide (md5 (chapL id o v) = r)) (know L K (spN f, spR f)))) ∧ (∃ K', Kw w' g bm 0 1 L K' ∧ ∀ who, know L K' who = know L K who) ∧ Fr (L.map (·.2)) w w' := by
  refine (schap_any f v r id (by omega) hv (by omega) h.st h.ok h.len (by decide) (by decide) (by decide) (by decide)).mono ?_
  rintro e w' ⟨rfl, hS, hF⟩
  rw [tryE_free (fun o => decide (md5 (chapL id o v) = r))]
  exact ⟨rfl, ⟨_, h.tried (by decide) (by decide) _ _ (fun x hx => ⟨_, h.st.mem hx⟩) hS, fun who => know_tried _ _ who⟩, hF⟩
end
end Go.Proofs.Ytpljdnocdhppmaa
