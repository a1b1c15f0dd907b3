/- a store and the document's, side by side: a name tried; a secret set. -/
import Derived.Test.YtpljdnocdhppmaaSPl
namespace Go.Proofs.Ytpljdnocdhppmaa
open Go.RowKit Go.Maps
set_option linter.unusedVariables false
section
variable {b n j : Nat} {w : World} {g g2 : Nat} {lim calm calm' : Int} {mp : Option Nat} {L : List (Who × Nat)} {K : Nat → Kn} {r : Value}
theorem SP.lenD (h : SP b n j w g g2 lim calm calm' mp L K r) : (relD L K).length = L.length := by unfold relD; rw [List.length_map]
theorem SP.foot1 (h : SP b n j w g g2 lim calm calm' mp L K r) : ∀ x, x ∈ mp.toList ++ L.map (·.2) → b ≤ x ∧ x < n := fun x hx => h.fb x (by simp only [List.mem_cons, List.mem_append] at hx ⊢; exact Or.inr (Or.inr (Or.inl hx)))
theorem SP.foot2 (h : SP b n j w g g2 lim calm calm' mp L K r) : ∀ x, x ∈ g2 :: r.ownBlock.toList → b ≤ x ∧ x < n := fun x hx => h.fb x (by
  simp only [List.mem_cons, List.mem_append] at hx ⊢
  rcases hx with h | h
  · exact Or.inr (Or.inl h)
  · exact Or.inr (Or.inr (Or.inr h)))
theorem play_try {w1 : World} {e : Ending} (h : SP b n j w g g2 lim calm calm' mp L K r) (hj : j ≤ 1000) (t : Int) (t0 : -9223372036854775808 ≤ t) (t1 : t ≤ 9223372036854775807) (ok : Kn → Bool) (who : Who) (args2 : Array Value) (f2 : Nat)
    (he : e = .returned (.int .i64 (tryE lim calm t ok ((look L who).map K)))) (hS : StoreIs w1 g lim calm mp L (tryKs lim calm t ok K (look L who))) (hF : Fr (L.map (·.2)) w w1)
    (DN : dfind (relD L K) who = none → ∀ W, DSt W g2 lim calm' r (relD L K) → Calls Try.prog f2 args2 W fun e w' => e = .returned (.int .i64 30) ∧ Fr [] W w')
    (DY : ∀ i x, dfind (relD L K) who = some i → (relD L K)[i]? = some (who, K x) → KnOk (K x) → (K x).wr ≤ 1000000 → ∀ W, DSt W g2 lim calm' r (relD L K) → Calls Try.prog f2 args2 W fun e w' => e = .returned (.int .i64 (tryE lim calm' t (fun _ => ok (K x)) (some (K x)))) ∧ DSt w' g2 lim calm' r ((relD L K).set i (who, tryK lim calm' t (fun _ => ok (K x)) (K x))) ∧ Fr r.ownBlock.toList W w') :
    Both b n (j + 1) g g2 lim calm calm' w args2 f2 e w1 := by
  have hF' : FrB b n w w1 := FrB.mk' hF (fun x hx => h.foot1 x (List.mem_append_right _ hx))
  have hD1 := h.keepD hF (fun x hx => List.mem_append_right _ hx)
  cases hl : look L who with
  | none =>
    rw [hl] at he hS
    refine ⟨30, he, hF', fun W hW => (DN (rel_none.2 hl) W (hD1.fr0 hW)).mono fun e w2 ⟨he2, hF2⟩ => ⟨he2, FrB.of _ _ hF2, mp, L, K, r, (hS.fr0 hW).fr0 hF2, h.ok, h.ln, fun p hp => Int.le_trans (h.wr p hp) (by omega), (hD1.fr0 hW).fr0 hF2, h.l0, h.c0, h.c1, h.eqc, h.nd, h.len, fun x hx => by have := h.fb x hx; omega⟩⟩
  | some x =>
    rw [hl] at he hS
    have hxL : (who, x) ∈ L := (look_some h.nd).1 hl
    have hkx := h.ok _ hxL
    have hwx := h.wr _ hxL
    cases hd : dfind (relD L K) who with
    | none => rw [rel_none.1 hd] at hl; cases hl
    | some i =>
      obtain ⟨x', hx', hl', hg'⟩ := rel_some h.nd hd
      obtain rfl : x = x' := by rw [hl] at hl'; injection hl'
      refine ⟨_, he, hF', fun W hW => (DY i x hd hg' hkx (by simp only at hwx; omega) W (hD1.fr0 hW)).mono fun e w2 ⟨he2, hDw, hF2⟩ => ?_⟩
      rw [tryE_calm h.eqc] at he2
      rw [tryK_calm h.eqc, rel_set h.st.nd hx'] at hDw
      refine ⟨he2, FrB.mk' hF2 (fun y hy => h.foot2 y (List.mem_cons_of_mem _ hy)), mp, L, kupd K x (tryK lim calm t ok (K x)), r, (hS.fr0 hW).keepS (hD1.fr0 hW) hF2 (fun y hy => List.mem_cons_of_mem _ hy), fun p hp => ?_, fun p hp => ?_, fun p hp => ?_, hDw, h.l0, h.c0, h.c1, h.eqc, h.nd, h.len, fun x hx => by have := h.fb x hx; omega⟩
      · unfold kupd
        split
        · exact tryK_ok t0 t1 ok _ hkx
        · exact h.ok p hp
      · unfold kupd
        split
        · rw [tryK_s]; exact h.ln _ hxL
        · exact h.ln p hp
      · unfold kupd
        split
        · unfold tryK
          simp only at hwx
          split
          · omega
          · split
            · unfold okK; simp only; omega
            · unfold badK; simp only; omega
        · have := h.wr p hp; omega
theorem play_pap (f s : List UInt8) (t : Int) (hf : f.length ≤ 1000) (hs : s.length ≤ 1000) (t0 : -9223372036854775808 ≤ t) (t1 : t ≤ 9223372036854775807) (hj : j ≤ 1000) (h : SPx b n j w g g2 lim calm calm') :
    Calls Try.prog 26 #[.pointer (some ⟨g, 0, none⟩), .string (B f), .string (B s), .int .i64 t] w (Both b n (j + 1) g g2 lim calm calm' w #[.pointer (some ⟨g2, 0, none⟩), .string (B f), .string (B s), .int .i64 t] 40) := by
  obtain ⟨mp, L, K, r, h⟩ := h
  have hl := h.lenD
  have hl2 := h.len
  refine (pap_any f s (by omega) (by omega) h.st h.ok h.ln t0 t1 h.c0.1 h.c0.2).mono fun e w1 ⟨he, hS, hF⟩ => ?_
  exact play_try h hj t t0 t1 (fun k => decide (k.s = s)) (spN f, spR f) _ _ he hS hF (fun hn W hD => dspap_none f s t (by omega) (by omega) hn hD) (fun i x hd hi hk hw W hD => dspap_some f s t i (K x) (by omega) (by omega) hd hi t0 t1 hk hw h.l0.1 h.l0.2 h.c1.1 h.c1.2 hD)
theorem play_chap (f v s : List UInt8) (id t : Int) (hf : f.length ≤ 1000) (hv : v.length ≤ 1000) (hs : s.length ≤ 1000) (i0 : -9223372036854775808 ≤ id) (i1 : id ≤ 9223372036854775807) (t0 : -9223372036854775808 ≤ t) (t1 : t ≤ 9223372036854775807) (hj : j ≤ 1000) (h : SPx b n j w g g2 lim calm calm') :
    Calls Try.prog 36 #[.pointer (some ⟨g, 0, none⟩), .string (B f), .int .i64 id, .string (B v), .string (B s), .int .i64 t] w (Both b n (j + 1) g g2 lim calm calm' w #[.pointer (some ⟨g2, 0, none⟩), .string (B f), .int .i64 id, .string (B v), .string (B s), .int .i64 t] 41) := by
  obtain ⟨mp, L, K, r, h⟩ := h
  have hl := h.lenD
  have hl2 := h.len
  refine (schap_any f v s id (by omega) hv (by omega) h.st h.ok h.ln t0 t1 h.c0.1 h.c0.2).mono fun e w1 ⟨he, hS, hF⟩ => ?_
  refine play_try h hj t t0 t1 (fun k => decide (md5 (chapL id k.s v) = s)) (spN f, spR f) _ _ he hS hF (fun hn W hD => dschap_none f v s id t (by omega) (by omega) hn hD) (fun i x hd hi hk hw W hD => ?_)
  obtain ⟨x', hx', hl', hg'⟩ := rel_some h.nd hd
  have hks : (K x).s.length ≤ 60 := by
    rw [hi] at hg'
    injection hg' with hg'
    injection hg' with _ hg'
    rw [hg']
    exact h.ln _ ((look_some h.nd).1 hl')
  exact dschap_some f v s id t i (K x) (by omega) hv (by omega) i0 i1 (by omega) hd hi t0 t1 hk hw h.l0.1 h.l0.2 h.c1.1 h.c1.2 hD
theorem play_wrong (f : List UInt8) (hf : f.length ≤ 1000) (h : SPx b n j w g g2 lim calm calm') : ∃ c : Int,
    (∀ W, Fr [] w W → Calls Try.prog 27 #[.pointer (some ⟨g, 0, none⟩), .string (B f)] W fun e w' => e = .returned (.int .i64 c) ∧ Fr [] W w') ∧
    (∀ W, Fr [] w W → Calls Try.prog 43 #[.pointer (some ⟨g2, 0, none⟩), .string (B f)] W fun e w' => e = .returned (.int .i64 c) ∧ Fr [] W w') := by
  obtain ⟨mp, L, K, r, h⟩ := h
  have hl := h.lenD
  have hl2 := h.len
  refine ⟨wrongE ((look L (spN f, spR f)).map K), fun W hW => wrong_any f (by omega) (h.st.fr0 hW), fun W hW => (dswrong_any f (by omega) (by omega) (h.ds.fr0 hW)).mono fun e w' ⟨he, hF⟩ => ⟨?_, hF⟩⟩
  rw [he]
  congr 3
  cases hd : dfind (relD L K) (spN f, spR f) with
  | none => rw [rel_none.1 hd]; rfl
  | some i =>
    obtain ⟨x', hx', hl', hg'⟩ := rel_some h.nd hd
    rw [hl']
    simp only [Option.bind_some, hg']
    rfl
theorem play_len (h : SPx b n j w g g2 lim calm calm') : ∃ (c : Nat) (A : Option Addr) (cap : Nat), c ≤ 100 ∧ c ≤ cap ∧
    (∀ W, Fr [] w W → Calls Try.prog 28 #[.pointer (some ⟨g, 0, none⟩)] W fun e w' => e = .returned (.int .i64 c) ∧ W = w') ∧ (∀ W, Fr [] w W → W.cell? ⟨g2, 2, none⟩ = some (.slice A c cap)) := by
  obtain ⟨mp, L, K, r, h⟩ := h
  obtain ⟨A, cap, hr⟩ := rown_slice h.ds.row
  have hcp := h.ds.row
  rw [hr] at hcp
  have := rown_caps hcp
  rw [h.lenD] at hr this
  exact ⟨L.length, A, cap, h.len, this.1, fun W hW => len_store_any (h.st.fr0 hW), fun W hW => by have := (h.ds.fr0 hW).st.c 2 _ rfl; rw [this]; show some r = _; rw [hr]⟩
/-- secrets set -/
theorem play_set (f s : List UInt8) (hf : f.length ≤ 1000) (hs : s.length ≤ 1000) (h : SPx b n j w g g2 lim calm calm') :
    Calls Try.prog 25 #[.pointer (some ⟨g, 0, none⟩), .string (B f), .string (B s)] w (Both b n j g g2 lim calm calm' w #[.pointer (some ⟨g2, 0, none⟩), .string (B f), .string (B s)] 39) := by
  obtain ⟨mp, L, K, r, h⟩ := h
  have hl := h.lenD
  have hl2 := h.len
  by_cases hlong : 60 < f.length ∨ 60 < s.length
  · refine (set_long f s (by omega) (by omega) hlong h.st).mono fun e w1 ⟨he, hF⟩ => ⟨2, he, FrB.of _ _ hF, fun W hW => (dsset_long f s (by omega) (by omega) hlong).mono fun e w2 ⟨he2, hF2⟩ => ⟨he2, FrB.of _ _ hF2, mp, L, K, r, ?_⟩⟩
    have h2 := ((h.fr0 hF).fr0 hW).fr0 hF2
    exact ⟨h2.st, h2.ok, h2.ln, h2.wr, h2.ds, h2.l0, h2.c0, h2.c1, h2.eqc, h2.nd, h2.len, fun x hx => by have := h2.fb x hx; omega⟩
  · have hf6 : f.length ≤ 60 := by omega
    have hs6 : s.length ≤ 60 := by omega
    cases hlk : look L (spN f, spR f) with
    | none =>
      have hdn := (rel_none (K := K)).2 hlk
      by_cases hfull : 100 ≤ L.length
      · cases mp with
        | none => rw [h.mn] at hfull; simp at hfull
        | some bm =>
          refine (set_full f s hf6 hs6 hlk hfull h.st).mono fun e w1 ⟨he, hF⟩ => ⟨10, he, FrB.of _ _ hF, fun W hW => (dsset_full f s hf6 hs6 hdn (by omega) (by omega) ((h.fr0 hF).fr0 hW).ds).mono fun e w2 ⟨he2, hF2⟩ => ⟨he2, FrB.of _ _ hF2, some bm, L, K, r, ?_⟩⟩
          have h2 := ((h.fr0 hF).fr0 hW).fr0 hF2
          exact ⟨h2.st, h2.ok, h2.ln, h2.wr, h2.ds, h2.l0, h2.c0, h2.c1, h2.eqc, h2.nd, h2.len, fun x hx => by have := h2.fb x hx; omega⟩
      · by_cases s0 : s = []
        · subst s0
          cases mp with
          | none =>
            refine (set_del_nil f hf6 h.mn h.st).mono fun e w1 ⟨he, hF⟩ => ⟨0, he, FrB.of _ _ hF, fun W hW => (dsset_nothing f hf6 hdn (by omega) ((h.fr0 hF).fr0 hW).ds).mono fun e w2 ⟨he2, hF2⟩ => ⟨he2, FrB.of _ _ hF2, none, L, K, r, ?_⟩⟩
            have h2 := ((h.fr0 hF).fr0 hW).fr0 hF2
            exact ⟨h2.st, h2.ok, h2.ln, h2.wr, h2.ds, h2.l0, h2.c0, h2.c1, h2.eqc, h2.nd, h2.len, fun x hx => by have := h2.fb x hx; omega⟩
          | some bm =>
            have hdel : del L (spN f, spR f) = L := List.filter_eq_self.2 fun p hp => by simpa using look_none.1 hlk p hp
            refine (set_del f hf6 (Or.inr (by omega)) h.st).mono fun e w1 ⟨he, hS, hF⟩ => ?_
            rw [hdel] at hS
            have hD1 := h.keepD hF (fun x hx => by simp at hx ⊢; exact Or.inl hx)
            refine ⟨0, he, FrB.mk' hF (fun x hx => h.foot1 x (by simp at hx ⊢; exact Or.inl hx)), fun W hW => (dsset_nothing f hf6 hdn (by omega) (hD1.fr0 hW)).mono fun e w2 ⟨he2, hF2⟩ => ⟨he2, FrB.of _ _ hF2, some bm, L, K, r, (hS.fr0 hW).fr0 hF2, h.ok, h.ln, h.wr, (hD1.fr0 hW).fr0 hF2, h.l0, h.c0, h.c1, h.eqc, h.nd, h.len, fun x hx => by have := h.fb x hx; omega⟩⟩
        · have fin : ∀ (bm x : Nat) (w1 W w2 : World) (r' : Value), w.heap.size ≤ w1.heap.size → b ≤ w.heap.size → (bm ∈ mp.toList ∨ w.heap.size ≤ bm) → w.heap.size ≤ x → x < w1.heap.size → bm < w1.heap.size → Fr [] w1 W → StoreIs w2 g lim calm (some bm) (put L (spN f, spR f) x) (kupd K x ⟨s, 0, 0⟩) → DSt w2 g2 lim calm' r' (relD L K ++ [((spN f, spR f), ⟨s, 0, 0⟩)]) → (∀ k, r'.ownBlock = some k → r.ownBlock = some k ∨ W.heap.size ≤ k) → W.heap.size ≤ w2.heap.size → SPx b (max n w2.heap.size) j w2 g g2 lim calm calm' := by
            intro bm x w1 W w2 r' z1 z2 z3 z4 z5 z6 hW hS hD hr z7
            have hne : ∀ p, p ∈ L → p.2 ≠ x := fun p hp e => by have := (h.st.kn p hp).lt; omega
            refine ⟨some bm, _, _, r', hS, fun p hp => ?_, fun p hp => ?_, fun p hp => ?_, by rw [← rel_new hlk hne]; exact hD, h.l0, h.c0, h.c1, h.eqc, keys_put hlk h.nd, by rw [put_new hlk, List.length_append]; simp; omega, fun y hy => ?_⟩
            · rw [put_new hlk] at hp
              rcases List.mem_append.1 hp with h1 | h1
              · simp only [kupd, hne p h1, if_false]; exact h.ok p h1
              · simp at h1; subst h1; simp [kupd, KnOk]
            · rw [put_new hlk] at hp
              rcases List.mem_append.1 hp with h1 | h1
              · simp only [kupd, hne p h1, if_false]; exact h.ln p h1
              · simp at h1; subst h1; simp [kupd]; exact hs6
            · rw [put_new hlk] at hp
              rcases List.mem_append.1 hp with h1 | h1
              · simp only [kupd, hne p h1, if_false]; exact h.wr p h1
              · simp at h1; subst h1; simp [kupd]
            · have hz := hW.size
              rw [put_new hlk] at hy
              simp only [List.mem_cons, List.mem_append, List.map_append, List.map_cons, List.map_nil, Option.mem_toList, Option.mem_def, Option.some.injEq, List.not_mem_nil, or_false] at hy
              have key := h.fb y
              simp only [List.mem_cons, List.mem_append] at key
              rcases hy with h1 | h1 | (h1 | h1 | h1) | h1
              · have := key (Or.inl h1); omega
              · have := key (Or.inr (Or.inl h1)); omega
              · rcases z3 with h2 | h2
                · have := key (Or.inr (Or.inr (Or.inl (Or.inl (by rw [← h1]; exact h2))))); omega
                · omega
              · have := key (Or.inr (Or.inr (Or.inl (Or.inr h1)))); omega
              · omega
              · rcases hr y h1 with h2 | h2
                · have := key (Or.inr (Or.inr (Or.inr (by simpa using h2)))); omega
                · obtain ⟨cur, hc⟩ := rown_blk hD.row y h1
                  have := hc.lt
                  have := (h.fb g (by simp)).1
                  have := h.st.st.lt
                  omega
          have hb : b ≤ w.heap.size := by
            have := (h.fb g (by simp)).1
            have := h.st.st.lt
            omega
          cases mp with
          | none =>
            refine (set_new_nil f s hf6 hs6 s0 h.mn h.st).mono fun e w1 hE => ?_
            obtain ⟨x, bm, he, hx, hbm, hS, hF⟩ := hE
            have hxl : x < w1.heap.size := by have := hS.kn ((spN f, spR f), x) (by rw [put_new hlk]; simp); exact this.lt
            have hbl : bm < w1.heap.size := by
              rcases hS.mapAt with ⟨h1, _⟩ | ⟨q, h1, hm⟩
              · cases h1
              · cases h1; exact hm.lt
            have hD1 : DSt w1 g2 lim calm' r (relD L K) := h.ds.frS hF (by
              have h1 := h.ds.st.neT h.st.st (by decide)
              simpa using h1) (fun q hq => by
              obtain ⟨cur, hc⟩ := rown_blk h.ds.row q hq
              have h1 := hc.neT h.st.st (by decide)
              simpa using h1)
            refine ⟨0, he, FrB.mk' hF (fun x hx => h.fb x (by simp at hx; simp [hx])), fun W hW => (dsset_new f s hf6 hs6 s0 hdn (by omega) (hD1.fr0 hW)).mono fun e w2 ⟨he2, r', hD2, hr, hF2⟩ => ⟨he2, FrB.mk' hF2 h.foot2, ?_⟩⟩
            exact fin bm x w1 W w2 r' hF.size hb (Or.inr hbm) hx hxl hbl hW ((hS.fr0 hW).keepS (hD1.fr0 hW) hF2 (fun y hy => hy)) hD2 hr hF2.size
          | some bm =>
            refine (set_new f s hf6 hs6 s0 hlk (by omega) h.st).mono fun e w1 hE => ?_
            obtain ⟨x, he, hx, hS, hF⟩ := hE
            have hxl : x < w1.heap.size := by have := hS.kn ((spN f, spR f), x) (by rw [put_new hlk]; simp); exact this.lt
            have hbl : bm < w1.heap.size := Nat.lt_of_lt_of_le h.st.map.lt hF.size
            have hD1 := h.keepD hF (fun x hx => by simp at hx ⊢; exact Or.inl hx)
            refine ⟨0, he, FrB.mk' hF (fun x hx => h.foot1 x (by simp at hx ⊢; exact Or.inl hx)), fun W hW => (dsset_new f s hf6 hs6 s0 hdn (by omega) (hD1.fr0 hW)).mono fun e w2 ⟨he2, r', hD2, hr, hF2⟩ => ⟨he2, FrB.mk' hF2 h.foot2, ?_⟩⟩
            exact fin bm x w1 W w2 r' hF.size hb (Or.inl (by simp)) hx hxl hbl hW ((hS.fr0 hW).keepS (hD1.fr0 hW) hF2 (fun y hy => hy)) hD2 hr hF2.size
    | some x =>
      cases mp with
      | none => rw [h.mn] at hlk; simp [look] at hlk
      | some bm =>
        cases hd : dfind (relD L K) (spN f, spR f) with
        | none => rw [rel_none.1 hd] at hlk; cases hlk
        | some i =>
          obtain ⟨x', hx', hl', hg'⟩ := rel_some h.nd hd
          obtain rfl : x = x' := by rw [hlk] at hl'; injection hl'
          have hxL : ((spN f, spR f), x) ∈ L := List.mem_of_getElem? hx'
          by_cases s0 : s = []
          · subst s0
            refine (set_del f hf6 (Or.inl (by rw [hlk]; rfl)) h.st).mono fun e w1 ⟨he, hS, hF⟩ => ?_
            have hD1 := h.keepD hF (fun x hx => by simp at hx ⊢; exact Or.inl hx)
            refine ⟨0, he, FrB.mk' hF (fun x hx => h.foot1 x (by simp at hx ⊢; exact Or.inl hx)), fun W hW => (dsset_del f i (K x) hf6 hd hg' (by omega) (hD1.fr0 hW)).mono fun e w2 ⟨he2, r', hD2, hr, hF2⟩ => ⟨he2, FrB.mk' hF2 (fun y hy => h.foot2 y (by simp at hy; simp [hy])), ?_⟩⟩
            rw [rel_del h.nd hx'] at hD2
            have hsub : ∀ p, p ∈ del L (spN f, spR f) → p ∈ L := fun p hp => (List.mem_filter.1 hp).1
            refine ⟨some bm, _, K, r', (hS.fr0 hW).keepS (hD1.fr0 hW) hF2 (fun y hy => by simp at hy; simp [hy]), fun p hp => h.ok p (hsub p hp), fun p hp => h.ln p (hsub p hp), fun p hp => h.wr p (hsub p hp), hD2, h.l0, h.c0, h.c1, h.eqc, ?_, Nat.le_trans (List.length_filter_le _ _) h.len, fun y hy => ?_⟩
            · exact h.nd.sublist (List.filter_sublist.map _)
            · simp only [List.mem_cons, List.mem_append] at hy
              have key := h.fb y
              simp only [List.mem_cons, List.mem_append] at key
              rcases hy with h1 | h1 | (h1 | h1) | h1
              · have := key (Or.inl h1); omega
              · have := key (Or.inr (Or.inl h1)); omega
              · have := key (Or.inr (Or.inr (Or.inl (Or.inl h1)))); omega
              · obtain ⟨p, hp, rfl⟩ := List.mem_map.1 h1
                have := key (Or.inr (Or.inr (Or.inl (Or.inr (List.mem_map.2 ⟨p, hsub p hp, rfl⟩))))); omega
              · obtain ⟨cur, hc⟩ := rown_blk hD2.row y (by simpa using h1)
                have a1 := hc.lt
                have a2 := hr y (by simpa using h1)
                have a3 := hW.size
                have a4 := hF.size
                have a5 := (h.fb g (by simp)).1
                have a6 := h.st.st.lt
                omega
          · refine (set_old f s hf6 hs6 s0 hlk h.st).mono fun e w1 ⟨he, hS, hF⟩ => ?_
            have hxm : x ∈ L.map (·.2) := List.mem_map.2 ⟨_, hxL, rfl⟩
            have hD1 := h.keepD hF (fun y hy => by simp at hy; subst hy; exact List.mem_append_right _ hxm)
            refine ⟨0, he, FrB.mk' hF (fun y hy => by simp at hy; subst hy; exact h.foot1 _ (List.mem_append_right _ hxm)), fun W hW => (dsset_old f s i (K x) hf6 hs6 s0 hd hg' (by omega) (hD1.fr0 hW)).mono fun e w2 ⟨he2, hD2, hF2⟩ => ⟨he2, FrB.mk' hF2 (fun y hy => h.foot2 y (List.mem_cons_of_mem _ hy)), ?_⟩⟩
            rw [rel_set h.st.nd hx'] at hD2
            refine ⟨some bm, L, _, r, (hS.fr0 hW).keepS (hD1.fr0 hW) hF2 (fun y hy => List.mem_cons_of_mem _ hy), fun p hp => ?_, fun p hp => ?_, fun p hp => ?_, hD2, h.l0, h.c0, h.c1, h.eqc, h.nd, h.len, fun x hx => by have := h.fb x hx; omega⟩
            · unfold kupd
              split
              · exact h.ok _ hxL
              · exact h.ok p hp
            · unfold kupd
              split
              · exact hs6
              · exact h.ln p hp
            · unfold kupd
              split
              · exact h.wr _ hxL
              · exact h.wr p hp
end
end Go.Proofs.Ytpljdnocdhppmaa
