/- ac: the session of a card. -/
import Derived.Test.YtcdencpkgfehlaaAcB
namespace Go.Proofs.Ytcdencpkgfehlaa
open Go.RowKit Go.Maps
set_option linter.unusedVariables false
theorem Iter.left_eq {P : Program} {k : TypeId} {κ ν : Type} {E : KeyEnc P k κ} {ev : ν → Value} {w : World} {b r : Nat} {l rest : List (κ × ν)} (h : Iter E ev w b r l rest) : w.rangeLeft b r = rest.length := by
  obtain ⟨_, _, es, cl, s, c0, seen, hb, hr, _, _, _, hL⟩ := h
  simp only [World.rangeLeft, hb, hr]
  have := congrArg List.length hL
  simpa using this
/-- a session that a card that names itself so has, and that is not used -/
def Fits (m : Mc) (nm : List UInt8) (s : Ses) : Prop := s.m = m ∧ s.u = nm ∧ s.used = false
def ofCard (S : List Ses) (m : Mc) : Nat := (S.filter fun s => decide (s.m = m)).length
def cntP (l : List (Idk × Nat)) (m : Mc) : Nat := (l.filter fun x => decide (x.1.1 = m)).length
theorem cntP_map (S : List Ses) (m : Mc) : cntP (S.map kv) m = ofCard S m := by
  unfold cntP ofCard
  rw [List.filter_map, List.length_map]
  rfl
theorem cntP_perm {l l' : List (Idk × Nat)} (h : l.Perm l') (m : Mc) : cntP l m = cntP l' m := (h.filter _).length_eq
theorem cntP_snoc (l : List (Idk × Nat)) (x : Idk × Nat) (m : Mc) : cntP (l ++ [x]) m = cntP l m + (if x.1.1 = m then 1 else 0) := by
  unfold cntP
  rw [List.filter_append, List.length_append]
  by_cases h : x.1.1 = m <;> simp [h]
theorem cntP_le (l : List (Idk × Nat)) (m : Mc) : cntP l m ≤ l.length := List.length_filter_le _ _
/-- a concentrator behind what leaves its blocks alone -/
theorem CnIs.fr0 {w w' : World} {g : Nat} {c : Cn} {S : List Ses} {G : List Idk} (h : CnIs w g c S G) (hF : Fr [] w w') : CnIs w' g c S G :=
  ⟨hF.blk h.st (by simp), h.hM.fr hF (by simp), h.tM.fr hF (by simp), h.ne, fun s hs => hF.blk (h.ses s hs) (by simp), h.nd, h.num, h.nums, h.last, own_fr0 h.gn hF⟩
inductive SesP (w : World) (g : Nat) (c : Cn) (S : List Ses) (G : List Idk) (m : Mc) (nm : List UInt8) : Ending → World → Prop
  | had (s : Ses) (hs : s ∈ S) (hf : Fits m nm s) (w' : World) (hF : Fr [] w w') : SesP w g c S G m nm (.returned (.pointer (some ⟨s.p, 0, none⟩))) w'
  | full (hn : ∀ s, s ∈ S → ¬ Fits m nm s) (hr : c.most ≤ S.length ∨ 2 ≤ ofCard S m) (w' : World) (hF : Fr [] w w') : SesP w g c S G m nm (.returned (.pointer none)) w'
  | made (hn : ∀ s, s ∈ S → ¬ Fits m nm s) (h1 : (S.length : Int) < c.most) (h2 : ofCard S m < 2) (p : Nat) (w' : World) (hp : w.heap.size ≤ p)
      (hC : CnIs w' g { c with last := c.last + 1 } (S ++ [⟨m, c.last + 1, nm, false, p⟩]) G) (hF : Fr [g, c.at_, c.tk] w w') : SesP w g c S G m nm (.returned (.pointer (some ⟨p, 0, none⟩))) w'
theorem own_frS {w w' : World} {Sx : List Nat} {base e sz n : Nat} {v : Value} {ys : List Value} (h : w.ownsRow base e sz v n ys) (hF : Fr Sx w w') (hn : ∀ q cur, Blk w q cur e → q ∉ Sx) : w'.ownsRow base e sz v n ys :=
  ⟨h.1, h.2.imp id fun ⟨g, cap, cur, h1, h2, h3, h4⟩ => ⟨g, cap, cur, h1, h2, hF.blk (b := g) h3 (hn g cur h3), h4⟩⟩
theorem CnIs.look_new {w : World} {g : Nat} {c : Cn} {S : List Ses} {G : List Idk} (h : CnIs w g c S G) (m : Mc) : look (S.map kv) (m, c.last + 1) = none := look_none.2 fun p hp hpx => by
  obtain ⟨s, hs, rfl⟩ := List.mem_map.1 hp
  have := (h.num s hs).2
  simp only [kv, Prod.mk.injEq] at hpx
  omega
theorem CnIs.made {V W7 W8 : World} {g : Nat} {c : Cn} {S : List Ses} {G : List Idk} {p : Nat} {m : Mc} {nm : List UInt8} (h : CnIs V g c S G) (hB : Blk W7 g (cnC { c with last := c.last + 1 }) 85) (hT : MapIs intE unitV W7 c.tk (S.map nv ++ [(c.last + 1, ())]))
    (hF : Fr [g, c.tk] V W7) (hp : Blk W7 p (seC ⟨m, c.last + 1, nm, false, p⟩) 63) (hpV : V.heap.size ≤ p) (hM8 : MapIs idE ptrV W8 c.at_ (put (S.map kv) (m, c.last + 1) p)) (hF8 : Fr [c.at_] W7 W8) :
    CnIs W8 g { c with last := c.last + 1 } (S ++ [⟨m, c.last + 1, nm, false, p⟩]) G := by
  have hga : g ≠ c.at_ := h.hM.not_blk h.st
  have hgt : g ≠ c.tk := h.tM.not_blk h.st
  have hal := h.hM.lt
  have hput : put (S.map kv) (m, c.last + 1) p = S.map kv ++ [((m, c.last + 1), p)] := by unfold put; rw [h.look_new m]; rfl
  rw [hput] at hM8
  have hs1 : ∀ q cs T, Blk V q cs T → T ≠ 85 → q ∉ [g, c.tk] := fun q cs T hq hT => by
    have a1 := hq.ne_type h.st hT
    have a2 := h.tM.not_blk hq
    simp; exact ⟨a1, a2⟩
  have hs2 : ∀ q cs T, Blk W7 q cs T → (∃ cs', Blk V q cs' T) → q ∉ [c.at_] := fun q cs T hq ⟨cs', hq'⟩ => by
    have := h.hM.not_blk hq'
    simpa using this
  refine ⟨hF8.blk hB (by simpa using hga), ?_, ?_, h.ne, ?_, ?_, ?_, ?_, by have := h.last; simp only; omega, ?_⟩
  · rw [List.map_append]; exact hM8
  · rw [List.map_append]; exact hT.fr hF8 (by simpa using Ne.symm h.ne)
  · intro s hs
    rcases List.mem_append.1 hs with hs | hs
    · have h1 := h.ses s hs
      have h2 := hF.blk h1 (hs1 _ _ _ h1 (by decide))
      exact hF8.blk h2 (hs2 _ _ _ h2 ⟨_, h1⟩)
    · simp at hs; subst hs
      exact hF8.blk hp (by simp; omega)
  · rw [List.map_append, List.nodup_append]
    refine ⟨h.nd, by simp, fun a ha b hb => ?_⟩
    simp at hb; subst hb
    obtain ⟨s, hs, rfl⟩ := List.mem_map.1 ha
    have := (h.ses s hs).lt
    omega
  · intro s hs
    rcases List.mem_append.1 hs with hs | hs
    · have := h.num s hs; simp only; omega
    · simp at hs; subst hs; have := h.last; simp only; omega
  · rw [List.map_append, List.nodup_append]
    refine ⟨h.nums, by simp, fun a ha b hb => ?_⟩
    simp at hb; subst hb
    obtain ⟨s, hs, rfl⟩ := List.mem_map.1 ha
    have := (h.num s hs).2
    omega
  · have h1 := own_frS h.gn hF (fun q cur hq => hs1 q cur _ hq (by decide))
    refine own_frS h1 hF8 (fun q cur hq => ?_)
    intro hq'
    simp at hq'
    subst hq'
    have h2 := h.hM.fr hF (by simp; exact ⟨Ne.symm hga, h.ne⟩)
    exact h2.not_blk hq rfl
section
variable {w : World} {g : Nat} {c : Cn} {S : List Ses} {G : List Idk}
set_option maxRecDepth 100000 in
set_option maxHeartbeats 8000000 in
theorem session_ok (m : Mc) (nm : List UInt8) (hm : McOk m) (hnm : nm.length ≤ 2000) (h : CnIs w g c S G) (hr : c.last < 60000) (hl : S.length < 1000) (hmo : c.most ≤ 100000) :
    Calls Try.prog 73 #[.pointer (some ⟨g, 0, none⟩), .agg (mcL m).toArray, .string (B nm)] w (SesP w g c S G m nm) := by
  obtain ⟨m1, m2, m3, m4, m5, m6⟩ := m
  have H := Lib.hid h
  have HM := Lib.hid hm
  have hF0 := (Fr.refl [] w).alloc (.cells #[.int .u8 m1, .int .u8 m2, .int .u8 m3, .int .u8 m4, .int .u8 m5, .int .u8 m6] 28 (0, 0))
  have hN0 := Blk.new w #[.int .u8 m1, .int .u8 m2, .int .u8 m3, .int .u8 m4, .int .u8 m5, .int .u8 m6] 28
  obtain ⟨bm, hbm⟩ : ∃ q, w.heap.size = q := ⟨_, rfl⟩
  obtain ⟨V1, hV1⟩ : ∃ W, w.alloc (.cells #[.int .u8 m1, .int .u8 m2, .int .u8 m3, .int .u8 m4, .int .u8 m5, .int .u8 m6] 28 (0, 0)) = W := ⟨_, rfl⟩
  rw [hV1] at hF0 hN0
  rw [hbm] at hN0
  have h1 := h.fr0 hF0
  have d10 : V1.cell? ⟨g, 10, none⟩ = some (.map (some c.at_)) := h1.st.c 10 _ rfl
  obtain ⟨cc, hrun, hIt⟩ := h1.hM.range Try.underlying81
  have hb1 := h1.hM.lt
  have HN0 := Lib.hid hN0
  have HF0 := Lib.hid hF0
  have HBM := Lib.hid hbm
  unfold mcL
  simp only
  clear h h1 hm hN0 hF0
  go_enter Try.func73, Try.ntmps73
  go_wp2_with fail
  obtain ⟨r, hr'⟩ : ∃ r, V1.heap.size = r := ⟨_, rfl⟩
  obtain ⟨V2, hV2⟩ : ∃ V', V1.alloc (.mapIter (some c.at_) cc #[] cc) = V' := ⟨_, rfl⟩
  have hF2 := (Fr.refl [] V1).alloc (.mapIter (some c.at_) cc #[] cc)
  have hrb : r ≠ c.at_ := by omega
  rw [hr'] at hIt ⊢
  rw [hV2] at hIt hF2 ⊢
  have HR := Lib.hid hr'
  have hwr : w.heap.size ≤ r := by have := HF0.out.size; omega
  have HWR := Lib.hid hwr
  have HF2 := Lib.hid (HF0.out.trans hF2)
  have HN2 := Lib.hid (hF2.blk HN0.out (by simp))
  have hbr : bm < r := by have := HN0.out.lt; omega
  have HBR := Lib.hid hbr
  have HL := Lib.hid hl
  clear hr' hV2 hrun d10 hb1 hF2 hwr hbr hl
  go_loopw [7] (fun ov wr => ∃ (done rest : List (Idk × Nat)), (done ++ rest).Perm (S.map kv) ∧ Iter idE ptrV wr c.at_ r (S.map kv) rest ∧ ov = .int .i64 (cntP done ⟨m1, m2, m3, m4, m5, m6⟩ : Nat) ∧ (∀ s, s ∈ S → kv s ∈ done → ¬ Fits ⟨m1, m2, m3, m4, m5, m6⟩ nm s) ∧ Fr [] w wr ∧ Blk wr bm #[.int .u8 m1, .int .u8 m2, .int .u8 m3, .int .u8 m4, .int .u8 m5, .int .u8 m6] 28) (fun _ wr => wr.rangeLeft c.at_ r)
  case atStart => exact ⟨[], S.map kv, by simp, hIt, rfl, by simp, HF2.out, HN2.out⟩
  case round =>
    clear hIt
    obtain ⟨done, rest, hp, hI, rfl, hnf, hF, hN⟩ := hrel
    have hdl : (cntP done ⟨m1, m2, m3, m4, m5, m6⟩ : Int) ≤ 1000 := by
      have h1 := cntP_le done ⟨m1, m2, m3, m4, m5, m6⟩
      have h2 := hp.length_eq
      rw [List.length_append, List.length_map] at h2
      have := HL.out
      omega
    rcases hI.next hrb 0 with ⟨hr0, hnx⟩ | ⟨p, hpr, W, hnx, hI2, hen, hG⟩
    · subst hr0
      rw [List.append_nil] at hp
      have hcn := (cntP_perm hp ⟨m1, m2, m3, m4, m5, m6⟩).trans (cntP_map S ⟨m1, m2, m3, m4, m5, m6⟩)
      have HNF : Hid (∀ s, s ∈ S → ¬ Fits ⟨m1, m2, m3, m4, m5, m6⟩ nm s) := Lib.hid fun s hs => hnf s hs (hp.mem_iff.2 (List.mem_map.2 ⟨s, hs, rfl⟩))
      rw [hcn] at hdl ⊢
      obtain ⟨k, hk⟩ : ∃ k, ofCard S ⟨m1, m2, m3, m4, m5, m6⟩ = k := ⟨_, rfl⟩
      rw [hk] at hdl ⊢
      have HK := Lib.hid hk
      have HFr := Lib.hid hF
      have HNb := Lib.hid hN
      replace hnx : (Instr.next (.pointer (some ⟨r, 0, none⟩)) false 0).run Try.prog wr = .ok (.tuple #[.bool false]) wr := hnx
      have hC := H.out.fr0 hF
      have HC := Lib.hid hC
      have d9 : wr.cell? ⟨g, 9, none⟩ = some (.int .i64 c.most) := hC.st.c 9 _ rfl
      have d10 : wr.cell? ⟨g, 10, none⟩ = some (.map (some c.at_)) := hC.st.c 10 _ rfl
      have hln : ∀ N ty, (Builtin.len_ #[81] ty #[.map (some c.at_)]).run Try.prog (wr.drewN N) = .ok (.int .i64 S.length) (wr.drewN N) := fun N ty => by
        have := (hC.hM.fr ((Fr.refl [] wr).drewN N) (by simp)).len Try.underlying81 ty
        rwa [List.length_map] at this
      clear hp hI hnf hF hN hC hcn hk
      by_cases hfull : c.most ≤ S.length
      · go_wp2_with fail
        go_quiet (fail)
        go_wp2_with fail
        go_ret
        exact SesP.full HNF.out (Or.inl hfull) _ (HFr.out.drewN _)
      · have hf2 : ¬ c.most ≤ (S.length : Int) := hfull
        by_cases hk2 : 2 ≤ k
        · have hk3 : (2 : Int) ≤ k := by omega
          go_wp2_with fail
          go_quiet (fail)
          go_wp2_with fail
          go_ret
          exact SesP.full HNF.out (Or.inr (by rw [HK.out]; exact hk2)) _ (HFr.out.drewN _)
        · have hk3 : ¬ (2 : Int) ≤ k := by omega
          go_wp2_with fail
          go_quiet (fail)
          go_wp2_with fail
          obtain ⟨V, hV⟩ : ∃ V, wr.drewN nq = V := ⟨_, rfl⟩
          have hFV : Fr [] wr V := by rw [← hV]; exact (Fr.refl _ _).drewN nq
          rw [hV]
          have hCV := HC.out.fr0 hFV
          have HCV := Lib.hid hCV
          obtain ⟨n, hn⟩ : ∃ n, c.last + 1 = n := ⟨_, rfl⟩
          have NX := next_ok (hCV.fr0 (Fr.refl _ _).drew) hr HL.out
          unfold NextP at NX
          rw [hn] at NX
          have NXH := Lib.hid NX
          have CL := Lib.hid fun W => clone_any nm W (by omega)
          have HX : Hid (∀ W, Fr [g, c.tk] V W → (W.cell? ⟨bm, 0, none⟩ = some (.int .u8 m1) ∧ W.cell? ⟨bm, 1, none⟩ = some (.int .u8 m2) ∧ W.cell? ⟨bm, 2, none⟩ = some (.int .u8 m3) ∧ W.cell? ⟨bm, 3, none⟩ = some (.int .u8 m4) ∧ W.cell? ⟨bm, 4, none⟩ = some (.int .u8 m5) ∧ W.cell? ⟨bm, 5, none⟩ = some (.int .u8 m6)) ∧ Fr [g, c.tk] V W) := Lib.hid fun W hW => by
            have hg : bm ∉ [g, c.tk] := by
              have h1 := H.out.st.lt
              have h2 := H.out.tM.lt
              have h3 := HBM.out
              simp; omega
            have hb := hW.blk (hFV.blk HNb.out (by simp)) hg
            exact ⟨⟨hb.c 0 _ rfl, hb.c 1 _ rfl, hb.c 2 _ rfl, hb.c 3 _ rfl, hb.c 4 _ rfl, hb.c 5 _ rfl⟩, hW⟩
          have hG0 := HX.out _ (Fr.refl _ V).drew
          have HFV := Lib.hid (HFr.out.trans hFV)
          have HNn := Lib.hid hn
          clear hV hFV hCV NX hn hln d9 d10 hk3 hk2 hf2
          go_region_held3 (fun W => (W.cell? ⟨bm, 0, none⟩ = some (.int .u8 m1) ∧ W.cell? ⟨bm, 1, none⟩ = some (.int .u8 m2) ∧ W.cell? ⟨bm, 2, none⟩ = some (.int .u8 m3) ∧ W.cell? ⟨bm, 3, none⟩ = some (.int .u8 m4) ∧ W.cell? ⟨bm, 4, none⟩ = some (.int .u8 m5) ∧ W.cell? ⟨bm, 5, none⟩ = some (.int .u8 m6)) ∧ Fr [g, c.tk] V W)
            (first | exact hG0 | assumption | exact HX.out _ ((Fr.refl _ V).drew.trans hFn) | exact HX.out _ (Fr.trans (And.right (by assumption)) (hF6.mono (by simp))) | exact HX.out _ (Fr.alloc (And.right (by assumption)) _))
            (first
              | (go_at_call 85; refine NXH.out.mono ?_; rintro e w5 ⟨rfl, hB5, hT5, hFn⟩)
              | (go_at_call 35; refine (CL.out _).mono ?_; rintro e w6 ⟨rfl, hF6⟩))
          have hF67 : Fr [g, c.tk] V (w6.alloc (.cells #[.int .u8 m1, .int .u8 m2, .int .u8 m3, .int .u8 m4, .int .u8 m5, .int .u8 m6, .int .i64 n, .string (B nm), .bool false] 63 (0, 0))) := And.right (by assumption)
          have hp7 := Blk.new w6 #[.int .u8 m1, .int .u8 m2, .int .u8 m3, .int .u8 m4, .int .u8 m5, .int .u8 m6, .int .i64 n, .string (B nm), .bool false] 63
          have hB7 := (hF6.alloc (.cells #[.int .u8 m1, .int .u8 m2, .int .u8 m3, .int .u8 m4, .int .u8 m5, .int .u8 m6, .int .i64 n, .string (B nm), .bool false] 63 (0, 0))).blk hB5 (by simp)
          have hT7 := hT5.fr (hF6.alloc (.cells #[.int .u8 m1, .int .u8 m2, .int .u8 m3, .int .u8 m4, .int .u8 m5, .int .u8 m6, .int .i64 n, .string (B nm), .bool false] 63 (0, 0))) (by simp)
          have hpV : V.heap.size ≤ w6.heap.size := Nat.le_trans (show V.heap.size ≤ V.drew.heap.size from Nat.le_refl _) (Nat.le_trans hFn.size hF6.size)
          obtain ⟨p, hp⟩ : ∃ p, w6.heap.size = p := ⟨_, rfl⟩
          obtain ⟨W7, hW7⟩ : ∃ W, w6.alloc (.cells #[.int .u8 m1, .int .u8 m2, .int .u8 m3, .int .u8 m4, .int .u8 m5, .int .u8 m6, .int .i64 n, .string (B nm), .bool false] 63 (0, 0)) = W := ⟨_, rfl⟩
          rw [hp] at hp7 hpV ⊢
          rw [hW7] at hF67 hp7 hB7 hT7 ⊢
          have hga : g ≠ c.at_ := H.out.hM.not_blk H.out.st
          have hM7 : MapIs idE ptrV W7 c.at_ (S.map kv) := HCV.out.hM.fr hF67 (by simp; exact ⟨Ne.symm hga, H.out.ne⟩)
          obtain ⟨W8, hrun, hM8, hF8⟩ : ∃ W8, (Instr.mapUpdate 81 (.map (some c.at_)) (.agg #[.int .u8 m1, .int .u8 m2, .int .u8 m3, .int .u8 m4, .int .u8 m5, .int .u8 m6, .int .i64 n]) (.pointer (some ⟨p, 0, none⟩))).run Try.prog W7.drew = .ok () W8 ∧ MapIs idE ptrV W8 c.at_ (put (S.map kv) (⟨m1, m2, m3, m4, m5, m6⟩, n) p) ∧ Fr [c.at_] W7 W8 := by
            obtain ⟨W8, h1, h2, h3⟩ := (hM7.fr (Fr.refl [] W7).drew (by simp)).update Try.underlying81 (by rw [List.length_map]; have := HL.out; unfold maxLen; omega) (⟨m1, m2, m3, m4, m5, m6⟩, n) ⟨HM.out, by have := HNn.out; have := H.out.last; unfold In64; simp only; omega⟩ p
            exact ⟨W8, h1, h2, ((Fr.refl _ _).drew).trans h3⟩
          have c10 : W7.cell? ⟨g, 10, none⟩ = some (.map (some c.at_)) := hB7.c 10 _ rfl
          have q0 := hp7.c 0 _ rfl
          have q1 := hp7.c 1 _ rfl
          have q2 := hp7.c 2 _ rfl
          have q3 := hp7.c 3 _ rfl
          have q4 := hp7.c 4 _ rfl
          have q5 := hp7.c 5 _ rfl
          have q6 := hp7.c 6 _ rfl
          have HZ : Hid (SesP w g c S G ⟨m1, m2, m3, m4, m5, m6⟩ nm (.returned (.pointer (some ⟨p, 0, none⟩))) W8) := Lib.hid (by
            have e := HNn.out
            subst e
            refine SesP.made HNF.out (by omega) (by rw [HK.out]; omega) p W8 (by have := HFV.out.size; omega) (HCV.out.made hB7 hT7 hF67 hp7 hpV hM8 hF8) ?_
            exact ((HFV.out.mono (S' := [g, c.at_, c.tk]) (by simp)).trans (hF67.mono (by intro k hk; simp at hk ⊢; rcases hk with h | h <;> simp [h]))).trans (hF8.mono (by intro k hk; simp at hk ⊢; simp [hk])))
          clear hF67 hp7 hB7 hT7 hpV hp hW7 hga hM7 hM8 hF8 HCV HFV HNn H HX hG0 hF6 hFn hB5 hT5 NXH CL HL HK HM HFr HNb HNF HC
          go_wp2_with fail
          go_region
          go_wp2_with fail
          go_ret
          exact HZ.out
    · obtain ⟨s, hs, rfl⟩ := List.mem_map.1 (hp.mem_iff.1 (List.mem_append_right _ hpr))
      have hnx0 := hnx
      have hen0 := hen
      have hpm : ((done ++ [kv s]) ++ rest.filter (fun q => decide (q.1 ≠ (kv s).1))).Perm (S.map kv) := by
        refine List.Perm.trans ?_ hp
        rw [List.append_assoc]
        exact List.Perm.append_left _ (perm_out rest (kv s) hI.nd hpr).symm
      have hlt : (rest.filter (fun q => decide (q.1 ≠ (kv s).1))).length < rest.length := by
        have h : rest.length = (rest.filter (fun q => decide (q.1 ≠ (kv s).1))).length + 1 := (perm_out rest (kv s) hI.nd hpr).length_eq
        omega
      have hle := hI.left_eq
      have hFW := hF.fresh1 hG HWR.out
      have hNW := hG.blk hN (by have := HBR.out; simp; omega)
      have hsB := hFW.blk (H.out.ses s hs) (by simp)
      have hcs := cntP_snoc done (kv s) ⟨m1, m2, m3, m4, m5, m6⟩
      have hlst : ∀ W' : World, W'.heap = W.heap → W'.rangeLeft c.at_ r < wr.rangeLeft c.at_ r := fun W' hW' => by
        have := hI2.left_eq
        unfold World.rangeLeft at this hle ⊢
        rw [hW', this, hle]
        exact hlt
      have hkv : ∀ s', s' ∈ S → kv s' = kv s → s' = s := fun s' hs' he => by
        have hnd := H.out.nd
        exact inj_of_nodup hnd hs' hs (by simp only [kv, Prod.mk.injEq] at he; exact he.2)
      have hnf2 : ¬ Fits ⟨m1, m2, m3, m4, m5, m6⟩ nm s → ∀ s', s' ∈ S → kv s' ∈ done ++ [kv s] → ¬ Fits ⟨m1, m2, m3, m4, m5, m6⟩ nm s' := fun hns s' hs' hd => by
        rcases List.mem_append.1 hd with hd | hd
        · exact hnf s' hs' hd
        · simp at hd
          rw [hkv s' hs' hd]; exact hns
      have HS := Lib.hid hs
      obtain ⟨⟨a1, a2, a3, a4, a5, a6⟩, sn, su, sd, sp⟩ := s
      have HC : Hid (∀ V, Fr [] W V → V.cell? ⟨sp, 0, none⟩ = some (.int .u8 a1) ∧ V.cell? ⟨sp, 1, none⟩ = some (.int .u8 a2) ∧ V.cell? ⟨sp, 2, none⟩ = some (.int .u8 a3) ∧ V.cell? ⟨sp, 3, none⟩ = some (.int .u8 a4) ∧ V.cell? ⟨sp, 4, none⟩ = some (.int .u8 a5) ∧ V.cell? ⟨sp, 5, none⟩ = some (.int .u8 a6) ∧ V.cell? ⟨sp, 6, none⟩ = some (.int .i64 sn) ∧ V.cell? ⟨sp, 7, none⟩ = some (.string (B su)) ∧ V.cell? ⟨sp, 8, none⟩ = some (.bool sd) ∧ V.cell? ⟨bm, 0, none⟩ = some (.int .u8 m1) ∧ V.cell? ⟨bm, 1, none⟩ = some (.int .u8 m2) ∧ V.cell? ⟨bm, 2, none⟩ = some (.int .u8 m3) ∧ V.cell? ⟨bm, 3, none⟩ = some (.int .u8 m4) ∧ V.cell? ⟨bm, 4, none⟩ = some (.int .u8 m5) ∧ V.cell? ⟨bm, 5, none⟩ = some (.int .u8 m6)) := Lib.hid fun V hV => by
        have hb := hV.blk hsB (by simp)
        have hb2 := hV.blk hNW (by simp)
        exact ⟨hb.c 0 _ rfl, hb.c 1 _ rfl, hb.c 2 _ rfl, hb.c 3 _ rfl, hb.c 4 _ rfl, hb.c 5 _ rfl, hb.c 6 _ rfl, hb.c 7 _ rfl, hb.c 8 _ rfl, hb2.c 0 _ rfl, hb2.c 1 _ rfl, hb2.c 2 _ rfl, hb2.c 3 _ rfl, hb2.c 4 _ rfl, hb2.c 5 _ rfl⟩
      have HPM := Lib.hid hpm
      have HI2 := Lib.hid hI2
      have HFW := Lib.hid hFW
      have HNW := Lib.hid hNW
      have HNF2 := Lib.hid hnf2
      have HLE := Lib.hid hlst
      have HCS := Lib.hid hcs
      replace hnx : (Instr.next (.pointer (some ⟨r, 0, none⟩)) false 0).run Try.prog wr = .ok (.tuple #[.bool true, .agg #[.int .u8 a1, .int .u8 a2, .int .u8 a3, .int .u8 a4, .int .u8 a5, .int .u8 a6, .int .i64 sn], .pointer (some ⟨sp, 0, none⟩)]) W := hnx
      replace hen : (Instr.entry (.pointer (some ⟨r, 0, none⟩))).run Try.prog W = .ok (.tuple #[.agg #[.int .u8 a1, .int .u8 a2, .int .u8 a3, .int .u8 a4, .int .u8 a5, .int .u8 a6, .int .i64 sn], .pointer (some ⟨sp, 0, none⟩)]) W := hen
      obtain ⟨z0, z1, z2, z3, z4, z5, z6, z7, z8, z9, z10, z11, z12, z13, z14⟩ := HC.out W (Fr.refl _ _)
      obtain ⟨k, hk⟩ : ∃ k, cntP done ⟨m1, m2, m3, m4, m5, m6⟩ = k := ⟨_, rfl⟩
      rw [hk] at hdl ⊢
      have HK := Lib.hid hk
      clear hnx0 hen0 hp hI hnf hF hN hpm hlt hle hcs hFW hNW hsB hlst hkv hnf2 hI2 hG hpr hs hk
      cases hmm : mcEq ⟨a1, a2, a3, a4, a5, a6⟩ ⟨m1, m2, m3, m4, m5, m6⟩ with
      | false =>
        have hne : (⟨a1, a2, a3, a4, a5, a6⟩ : Mc) ≠ ⟨m1, m2, m3, m4, m5, m6⟩ := fun e => by rw [(mcEq_iff _ _).2 e] at hmm; cases hmm
        have HNE := Lib.hid hne
        have heq := fun W => eq_mac 9998 ⟨a1, a2, a3, a4, a5, a6⟩ ⟨m1, m2, m3, m4, m5, m6⟩ W
        rw [hmm] at heq
        unfold mcL at heq
        simp only at heq
        clear hmm hne
        go_wp2_with fail
        go_quiet (fail)
        go_wp2_with fail
        go_roundw
        case rel => exact ⟨done ++ [((⟨a1, a2, a3, a4, a5, a6⟩, sn), sp)], _, HPM.out, HI2.out.fr ((Fr.refl [] W).drewN _) (by simp) (by simp), by have h := HCS.out; rw [if_neg (by simpa [kv] using HNE.out), HK.out] at h; exact congrArg (fun x : Nat => Value.int .i64 (x : Int)) h.symm, HNF2.out (fun h => HNE.out h.1), HFW.out.drewN _, HNW.out.drewN _⟩
        case measure => exact HLE.out _ rfl
      | true =>
        have hee := (mcEq_iff _ _).1 hmm
        have HEE := Lib.hid hee
        have heq := fun W => eq_mac 9998 ⟨a1, a2, a3, a4, a5, a6⟩ ⟨m1, m2, m3, m4, m5, m6⟩ W
        rw [hmm] at heq
        unfold mcL at heq
        simp only at heq
        clear hmm hee
        by_cases hu : su = nm
        · subst hu
          cases sd with
          | false =>
            go_wp2_with fail
            go_quiet (fail)
            obtain ⟨V1', hV1'⟩ : ∃ V, W.drewN nq = V := ⟨_, rfl⟩
            have hZ1 : Fr [] W V1' := by rw [← hV1']; exact (Fr.refl [] W).drewN nq
            rw [hV1']
            clear hV1' z0 z1 z2 z3 z4 z5 z6 z7 z8 z9 z10 z11 z12 z13 z14 heq
            obtain ⟨z0, z1, z2, z3, z4, z5, z6, z7, z8, z9, z10, z11, z12, z13, z14⟩ := HC.out V1' hZ1
            have HZ1 := Lib.hid hZ1
            clear hZ1
            go_wp2_with fail
            go_ret
            exact SesP.had _ HS.out ⟨HEE.out, rfl, rfl⟩ _ (HFW.out.trans HZ1.out)
          | true =>
            go_wp2_with fail
            go_quiet (fail)
            obtain ⟨V1', hV1'⟩ : ∃ V, W.drewN nq = V := ⟨_, rfl⟩
            have hZ1 : Fr [] W V1' := by rw [← hV1']; exact (Fr.refl [] W).drewN nq
            have hZh : V1'.heap = W.heap := by rw [← hV1']; rfl
            rw [hV1']
            clear hV1' z0 z1 z2 z3 z4 z5 z6 z7 z8 z9 z10 z11 z12 z13 z14 heq
            obtain ⟨z0, z1, z2, z3, z4, z5, z6, z7, z8, z9, z10, z11, z12, z13, z14⟩ := HC.out V1' hZ1
            have HZ1 := Lib.hid hZ1
            have HZh := Lib.hid hZh
            clear hZ1 hZh
            go_wp2_with fail
            go_roundw
            case rel => exact ⟨done ++ [((⟨a1, a2, a3, a4, a5, a6⟩, sn), sp)], _, HPM.out, HI2.out.fr HZ1.out (by simp) (by simp), by have h := HCS.out; rw [if_pos (by simpa [kv] using HEE.out), HK.out] at h; rw [show cntP (done ++ [((⟨a1, a2, a3, a4, a5, a6⟩, sn), sp)]) ⟨m1, m2, m3, m4, m5, m6⟩ = k + 1 from h]; go_num, HNF2.out (fun h => by cases h.2.2), HFW.out.trans HZ1.out, HZ1.out.blk HNW.out (by simp)⟩
            case measure => exact HLE.out _ HZh.out
        · have hs0 : ¬ B su = B nm := fun e => hu (B_inj.1 e)
          have hs1 : (B su == B nm) = false := by show ((B su).data == (B nm).data) = false; rw [beq_eq_false_iff_ne]; exact fun h => hs0 (ByteArray.ext h)
          have HU := Lib.hid hu
          have hlb : (su == nm) = false := by simpa using hu
          clear hu
          go_wp2_with fail
          go_quiet (fail)
          obtain ⟨V1', hV1'⟩ : ∃ V, W.drewN nq = V := ⟨_, rfl⟩
          have hZ1 : Fr [] W V1' := by rw [← hV1']; exact (Fr.refl [] W).drewN nq
          have hZh : V1'.heap = W.heap := by rw [← hV1']; rfl
          rw [hV1']
          clear hV1' z0 z1 z2 z3 z4 z5 z6 z7 z8 z9 z10 z11 z12 z13 z14 heq
          obtain ⟨z0, z1, z2, z3, z4, z5, z6, z7, z8, z9, z10, z11, z12, z13, z14⟩ := HC.out V1' hZ1
          have HZ1 := Lib.hid hZ1
          have HZh := Lib.hid hZh
          clear hZ1 hZh
          go_wp2_with fail
          go_roundw
          case rel => exact ⟨done ++ [((⟨a1, a2, a3, a4, a5, a6⟩, sn), sp)], _, HPM.out, HI2.out.fr HZ1.out (by simp) (by simp), by have h := HCS.out; rw [if_pos (by simpa [kv] using HEE.out), HK.out] at h; rw [show cntP (done ++ [((⟨a1, a2, a3, a4, a5, a6⟩, sn), sp)]) ⟨m1, m2, m3, m4, m5, m6⟩ = k + 1 from h]; go_num, HNF2.out (fun h => HU.out h.2.1), HFW.out.trans HZ1.out, HZ1.out.blk HNW.out (by simp)⟩
          case measure => exact HLE.out _ HZh.out
end
end Go.Proofs.Ytcdencpkgfehlaa
