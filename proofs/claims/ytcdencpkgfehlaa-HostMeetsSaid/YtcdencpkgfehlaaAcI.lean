/- ac: a session dropped (printed by tools/gen_aci.py). -/
import Derived.Test.YtcdencpkgfehlaaAcE
namespace Go.Proofs.Ytcdencpkgfehlaa
open Go.RowKit Go.Maps
set_option linter.unusedVariables false
theorem infoId : (Try.prog.info? 61).map (fun i => (i.zero, i.size, i.bytes)) = some (some (.agg #[.int .u8 0, .int .u8 0, .int .u8 0, .int .u8 0, .int .u8 0, .int .u8 0, .int .i64 0]), 7, 16) := by kernel_rfl
theorem zero_ses (w : World) : (zeroValue 111).run Try.prog w = .ok (.pointer none) w := by kernel_rfl
/-- what a drop leaves alone -/
def Rest2 (c : Cn) (S : List Ses) (id : Idk) (W : World) : Prop := MapIs idE ptrV W c.at_ (del (S.map kv) id) ∧ MapIs intE unitV W c.tk (del (S.map nv) id.2) ∧ ∀ s, s ∈ S → Blk W s.p (seC s) 63
def dropS (S : List Ses) (id : Idk) : List Ses := S.filter fun s => decide (s.n ≠ id.2)
def DropP (w : World) (g : Nat) (c : Cn) (S : List Ses) (G : List Idk) (id : Idk) (e : Ending) (w' : World) : Prop := ∃ va, e = .returned (.bool true) ∧ CnIs w' g { c with gone := va } (dropS S id) (G ++ [id]) ∧ (∀ k, va.ownBlock = some k → c.gone.ownBlock = some k ∨ w.heap.size ≤ k) ∧ Fr (g :: c.at_ :: c.tk :: c.gone.ownBlock.toList) w w'
theorem del_kv {w : World} {g : Nat} {c : Cn} {S : List Ses} {G : List Idk} (h : CnIs w g c S G) {s : Ses} (hs : s ∈ S) : del (S.map kv) (s.m, s.n) = (dropS S (s.m, s.n)).map kv ∧ del (S.map nv) s.n = (dropS S (s.m, s.n)).map nv := by
  unfold del dropS
  rw [List.filter_map, List.filter_map]
  refine ⟨?_, rfl⟩
  congr 1
  apply List.filter_congr
  intro x hx
  show decide ((x.m, x.n) ≠ (s.m, s.n)) = decide (x.n ≠ s.n)
  rw [decide_eq_decide]
  constructor
  · intro hne hn
    have : x = s := inj_of_nodup h.nums hx hs hn
    exact hne (by rw [this])
  · intro hn he
    exact hn (by injection he)
theorem CnIs.dropped {w A B : World} {g : Nat} {c : Cn} {S : List Ses} {G : List Idk} {s : Ses} {va : Value} (h : CnIs w g c S G) (hs : s ∈ S) (hF : Fr [g] A B) (hR : Rest2 c S (s.m, s.n) A) (hgA : Blk A g (cnC c) 85) (hgB : Blk B g (cnC { c with gone := va }) 85)
    (hG : A.ownsRow 0 61 7 va (G.length + 1) (G.flatMap idL ++ idL (s.m, s.n))) : CnIs B g { c with gone := va } (dropS S (s.m, s.n)) (G ++ [(s.m, s.n)]) := by
  obtain ⟨hM, hT, hS⟩ := hR
  obtain ⟨e1, e2⟩ := del_kv h hs
  rw [e1] at hM
  simp only at hT
  rw [e2] at hT
  have hsub : ∀ x, x ∈ dropS S (s.m, s.n) → x ∈ S := fun x hx => (List.mem_filter.1 hx).1
  refine ⟨hgB, hM.fr hF (by simpa using Ne.symm (hM.not_blk hgA)), hT.fr hF (by simpa using Ne.symm (hT.not_blk hgA)), h.ne, fun x hx => hF.blk (hS x (hsub x hx)) (by have := (hS x (hsub x hx)).ne_type hgA (by decide); simpa using this),
    h.nd.sublist (List.Sublist.map _ List.filter_sublist), fun x hx => h.num x (hsub x hx), h.nums.sublist (List.Sublist.map _ List.filter_sublist), h.last, ?_⟩
  have := own_frS hG hF (fun q cur hq => by have := hq.ne_type hgA (by decide); simpa using this)
  rw [List.length_append, List.flatMap_append]
  simpa using this
section
variable {w : World} {g : Nat} {c : Cn} {S : List Ses} {G : List Idk}
set_option maxRecDepth 100000 in
set_option maxHeartbeats 8000000 in
theorem drop_no (id : Idk) (hid : IdOk id) (hno : ∀ s, s ∈ S → kv s ≠ (id, s.p)) (h : CnIs w g c S G) : Calls Try.prog 53 #[.pointer (some ⟨g, 0, none⟩), .agg (idC id)] w fun e w' => e = .returned (.bool false) ∧ Fr [] w w' := by
  have hl : look (S.map kv) id = none := look_none.2 fun p hp hpx => by
    obtain ⟨s, hs, rfl⟩ := List.mem_map.1 hp
    exact hno s hs (by unfold kv at hpx ⊢; rw [← hpx])
  obtain ⟨⟨m1, m2, m3, m4, m5, m6⟩, n⟩ := id
  have hF := (Fr.refl [] w).alloc (.cells #[.int .u8 m1, .int .u8 m2, .int .u8 m3, .int .u8 m4, .int .u8 m5, .int .u8 m6, .int .i64 n] 61 (0, 0))
  have hN := Blk.new w #[.int .u8 m1, .int .u8 m2, .int .u8 m3, .int .u8 m4, .int .u8 m5, .int .u8 m6, .int .i64 n] 61
  obtain ⟨bid, hbid⟩ : ∃ q, w.heap.size = q := ⟨_, rfl⟩
  obtain ⟨W3, hW3⟩ : ∃ W, w.alloc (.cells #[.int .u8 m1, .int .u8 m2, .int .u8 m3, .int .u8 m4, .int .u8 m5, .int .u8 m6, .int .i64 n] 61 (0, 0)) = W := ⟨_, rfl⟩
  rw [hW3] at hF hN
  rw [hbid] at hN
  have h3 := h.fr0 hF
  have hlk : ∀ N, (Instr.lookup 81 (.map (some c.at_)) (.agg #[.int .u8 m1, .int .u8 m2, .int .u8 m3, .int .u8 m4, .int .u8 m5, .int .u8 m6, .int .i64 n]) true).run Try.prog (W3.drewN N) = .ok (.tuple #[.pointer none, .bool false]) (W3.drewN N) := fun N => by
    have := (h3.hM.fr ((Fr.refl [] W3).drewN N) (by simp)).lookup Try.underlying81 (zero_ses _) true (⟨m1, m2, m3, m4, m5, m6⟩, n) hid
    rw [hl] at this
    exact this
  have g10 : W3.cell? ⟨g, 10, none⟩ = some (.map (some c.at_)) := h3.st.c 10 _ rfl
  have q0 := hN.c 0 _ rfl
  have q1 := hN.c 1 _ rfl
  have q2 := hN.c 2 _ rfl
  have q3 := hN.c 3 _ rfl
  have q4 := hN.c 4 _ rfl
  have q5 := hN.c 5 _ rfl
  have q6 := hN.c 6 _ rfl
  have HF := Lib.hid hF
  unfold idC idL mcL
  simp only [List.cons_append, List.nil_append]
  clear hl hno hid h h3 hF hN
  go_enter Try.func53, Try.ntmps53
  go_wp2_with fail
  go_quiet (fail)
  go_wp2_with fail
  go_ret
  exact ⟨rfl, HF.out.drewN _⟩
set_option maxRecDepth 100000 in
set_option maxHeartbeats 16000000 in
theorem drop_yes (s : Ses) (hs : s ∈ S) (hid : IdOk (s.m, s.n)) (hGl : G.length ≤ 1000) (h : CnIs w g c S G) : Calls Try.prog 53 #[.pointer (some ⟨g, 0, none⟩), .agg (idC (s.m, s.n))] w (DropP w g c S G (s.m, s.n)) := by
  obtain ⟨i0, hi, hz0, hz1, hz2⟩ := info_parts infoId
  have hl : look (S.map kv) (s.m, s.n) = some s.p := (look_some h.hM.nodup).2 (List.mem_map.2 ⟨s, hs, rfl⟩)
  have HGL := Lib.hid hGl
  have H := Lib.hid h
  obtain ⟨Sx, hSx⟩ : ∃ Sx, g :: c.at_ :: c.tk :: c.gone.ownBlock.toList = Sx := ⟨_, rfl⟩
  have HFIN : Hid (∀ va A B, Fr [g] A B → Rest2 c S (s.m, s.n) A → Blk A g (cnC c) 85 → Blk B g (cnC { c with gone := va }) 85 → A.ownsRow 0 61 7 va (G.length + 1) (G.flatMap idL ++ idL (s.m, s.n)) → (∀ k, va.ownBlock = some k → c.gone.ownBlock = some k ∨ w.heap.size ≤ k) → Fr Sx w B → DropP w g c S G (s.m, s.n) (.returned (.bool true)) B) :=
    Lib.hid fun va A B a1 a2 a3 a4 a5 a6 a7 => ⟨va, rfl, h.dropped hs a1 a2 a3 a4 a5, a6, by rw [hSx]; exact a7⟩
  have HSG : Hid (∀ k, k ∈ [g] → k ∈ Sx) := Lib.hid (by rw [← hSx]; simp)
  have HFS : Hid (∀ k, k ∈ c.gone.ownBlock.toList → k ∈ Sx) := Lib.hid (by rw [← hSx]; intro k hk; simp only [List.mem_cons]; exact Or.inr (Or.inr (Or.inr hk)))
  have HST : Hid (∀ k, k ∈ [c.at_] → k ∈ Sx) := Lib.hid (by rw [← hSx]; simp)
  have HSK : Hid (∀ k, k ∈ [c.tk] → k ∈ Sx) := Lib.hid (by rw [← hSx]; simp)
  have hgb : ∀ k, c.gone.ownBlock = some k → ∃ cur, Blk w k cur 61 := own_blk h.gn
  have HNG : Hid (g ∉ c.gone.ownBlock.toList) := Lib.hid fun hk => by
    obtain ⟨cur, hc⟩ := hgb g (by simpa using hk)
    exact hc.ne_type h.st (by decide) rfl
  have HKEEP : Hid (∀ A B, Fr c.gone.ownBlock.toList A B → A.ownsRow 0 61 7 c.gone G.length (G.flatMap idL) → Rest2 c S (s.m, s.n) A → Rest2 c S (s.m, s.n) B) := Lib.hid fun A B hF hG hR => by
    have hb : ∀ k, k ∈ c.gone.ownBlock.toList → ∃ cur, Blk A k cur 61 := fun k hk => own_blk hG k (by simpa using hk)
    exact ⟨hR.1.fr hF (fun hk => by obtain ⟨cur, hc⟩ := hb _ hk; exact hR.1.not_blk hc rfl), hR.2.1.fr hF (fun hk => by obtain ⟨cur, hc⟩ := hb _ hk; exact hR.2.1.not_blk hc rfl),
      fun x hx => hF.blk (hR.2.2 x hx) (fun hk => by obtain ⟨cur, hc⟩ := hb _ hk; exact hc.ne_type (hR.2.2 x hx) (by decide) rfl)⟩
  have HKEEP0 : Hid (∀ A B, Fr [] A B → Rest2 c S (s.m, s.n) A → Rest2 c S (s.m, s.n) B) := Lib.hid fun A B hF hR => ⟨hR.1.fr hF (by simp), hR.2.1.fr hF (by simp), fun x hx => hF.blk (hR.2.2 x hx) (by simp)⟩
  obtain ⟨id, hide⟩ : ∃ x, (s.m, s.n) = x := ⟨_, rfl⟩
  rw [hide] at hl hid HFIN HKEEP HKEEP0 ⊢
  obtain ⟨sp, hsp⟩ : ∃ x, s.p = x := ⟨_, rfl⟩
  rw [hsp] at hl
  clear hSx hsp hide
  obtain ⟨⟨m1, m2, m3, m4, m5, m6⟩, n⟩ := id
  have hF := (Fr.refl [] w).alloc (.cells #[.int .u8 m1, .int .u8 m2, .int .u8 m3, .int .u8 m4, .int .u8 m5, .int .u8 m6, .int .i64 n] 61 (0, 0))
  have hN := Blk.new w #[.int .u8 m1, .int .u8 m2, .int .u8 m3, .int .u8 m4, .int .u8 m5, .int .u8 m6, .int .i64 n] 61
  have HNB0 : Hid (w.heap.size ∉ c.gone.ownBlock.toList) := Lib.hid fun hk => by
    obtain ⟨cur, hc⟩ := hgb _ (by simpa using hk)
    have := hc.lt
    omega
  have HBG0 : Hid (w.heap.size ∉ [g]) := Lib.hid (by have := h.st.lt; simp; omega)
  have HBA0 : Hid (w.heap.size ≠ c.at_ ∧ w.heap.size ≠ c.tk) := Lib.hid (by have h1 := h.hM.lt; have h2 := h.tM.lt; omega)
  obtain ⟨bid, hbid⟩ : ∃ q, w.heap.size = q := ⟨_, rfl⟩
  obtain ⟨W3, hW3⟩ : ∃ W, w.alloc (.cells #[.int .u8 m1, .int .u8 m2, .int .u8 m3, .int .u8 m4, .int .u8 m5, .int .u8 m6, .int .i64 n] 61 (0, 0)) = W := ⟨_, rfl⟩
  rw [hW3] at hF hN
  rw [hbid] at hN HNB0 HBG0 HBA0
  have HNB := HNB0
  have HBG := HBG0
  have h3 := h.fr0 hF
  have hlk : ∀ N, (Instr.lookup 81 (.map (some c.at_)) (.agg #[.int .u8 m1, .int .u8 m2, .int .u8 m3, .int .u8 m4, .int .u8 m5, .int .u8 m6, .int .i64 n]) true).run Try.prog (W3.drewN N) = .ok (.tuple #[.pointer (some ⟨sp, 0, none⟩), .bool true]) (W3.drewN N) := fun N => by
    have := (h3.hM.fr ((Fr.refl [] W3).drewN N) (by simp)).lookup Try.underlying81 (zero_ses _) true (⟨m1, m2, m3, m4, m5, m6⟩, n) hid
    rw [hl] at this
    exact this
  have g10 : W3.cell? ⟨g, 10, none⟩ = some (.map (some c.at_)) := h3.st.c 10 _ rfl
  have q0 := hN.c 0 _ rfl
  have q1 := hN.c 1 _ rfl
  have q2 := hN.c 2 _ rfl
  have q3 := hN.c 3 _ rfl
  have q4 := hN.c 4 _ rfl
  have q5 := hN.c 5 _ rfl
  have q6 := hN.c 6 _ rfl
  have HF := Lib.hid hF
  have H3 := Lib.hid h3
  have HN := Lib.hid hN
  have HID := Lib.hid hid
  unfold idC idL mcL
  simp only [List.cons_append, List.nil_append]
  clear hl hid h h3 hF hN hgb hGl HNB0 HBG0
  go_enter Try.func53, Try.ntmps53
  go_wp2_with fail
  go_quiet (fail)
  obtain ⟨V1, hV1⟩ : ∃ V, W3.drewN nq = V := ⟨_, rfl⟩
  have hZ1 : Fr [] W3 V1 := by rw [← hV1]; exact (Fr.refl [] W3).drewN nq
  rw [hV1]
  clear hV1 hlk q0 q1 q2 q3 q4 q5 q6 g10 hW3
  go_wp2_with fail
  have hC1 := H3.out.fr0 hZ1
  have hN1 := hZ1.blk HN.out (by simp)
  obtain ⟨V2, hrun, hm2, hF2⟩ : ∃ V2, (Builtin.delete_ #[81, 61] 0 #[.map (some c.at_), .agg #[.int .u8 m1, .int .u8 m2, .int .u8 m3, .int .u8 m4, .int .u8 m5, .int .u8 m6, .int .i64 n]]).run Try.prog V1.drew = .ok (.tuple #[]) V2 ∧ MapIs idE ptrV V2 c.at_ (del (S.map kv) (⟨m1, m2, m3, m4, m5, m6⟩, n)) ∧ Fr [c.at_] V1 V2 := by
    obtain ⟨V2, h1, h2, h3⟩ := (hC1.hM.fr (Fr.refl [] V1).drew (by simp)).delete Try.underlying81 (⟨m1, m2, m3, m4, m5, m6⟩, n) HID.out 0
    exact ⟨V2, h1, h2, ((Fr.refl _ _).drew).trans h3⟩
  have hga : g ∉ [c.at_] := by have := hC1.hM.not_blk hC1.st; simpa using this
  have hba : bid ∉ [c.at_] := by have := HBA0.out.1; simpa using this
  have g10 : V1.cell? ⟨g, 10, none⟩ = some (.map (some c.at_)) := hC1.st.c 10 _ rfl
  have q0 := hN1.c 0 _ rfl
  have q1 := hN1.c 1 _ rfl
  have q2 := hN1.c 2 _ rfl
  have q3 := hN1.c 3 _ rfl
  have q4 := hN1.c 4 _ rfl
  have q5 := hN1.c 5 _ rfl
  have q6 := hN1.c 6 _ rfl
  have HC1 := Lib.hid hC1
  have HN1 := Lib.hid hN1
  have HM2 := Lib.hid hm2
  have HF2 := Lib.hid hF2
  have HZ1 := Lib.hid hZ1
  have HGA := Lib.hid hga
  have HBA := Lib.hid hba
  clear hC1 hN1 hm2 hF2 hga hba hZ1
  go_region
  go_wp2_with fail
  clear hrun g10 q0 q1 q2 q3 q4 q5 q6
  have hBg2 := HF2.out.blk HC1.out.st HGA.out
  have hN2 := HF2.out.blk HN1.out HBA.out
  have hT2 : MapIs intE unitV V2 c.tk (S.map nv) := HC1.out.tM.fr HF2.out (by have := HC1.out.ne; simpa using Ne.symm this)
  obtain ⟨V3, hrun, hm3, hF3⟩ : ∃ V3, (Builtin.delete_ #[82, 3] 0 #[.map (some c.tk), .int .i64 n]).run Try.prog V2.drew = .ok (.tuple #[]) V3 ∧ MapIs intE unitV V3 c.tk (del (S.map nv) n) ∧ Fr [c.tk] V2 V3 := by
    obtain ⟨V3, h1, h2, h3⟩ := (hT2.fr (Fr.refl [] V2).drew (by simp)).delete Try.underlying82 n HID.out.2 0
    exact ⟨V3, h1, h2, ((Fr.refl _ _).drew).trans h3⟩
  have g11 : V2.cell? ⟨g, 11, none⟩ = some (.map (some c.tk)) := hBg2.c 11 _ rfl
  have q6 := hN2.c 6 _ rfl
  have hgt : g ∉ [c.tk] := by have := hT2.not_blk hBg2; simpa using this
  have hbt : bid ∉ [c.tk] := by have := HBA0.out.2; simpa using this
  have hsl : ∀ x, x ∈ S → x.p ∉ [c.at_] ∧ x.p ∉ [c.tk] := fun x hx => by
    have a1 := HC1.out.hM.not_blk (HC1.out.ses x hx)
    have a2 := HC1.out.tM.not_blk (HC1.out.ses x hx)
    exact ⟨by simpa using a1, by simpa using a2⟩
  have HXX : Hid (Rest2 c S (⟨m1, m2, m3, m4, m5, m6⟩, n) V3) := Lib.hid ⟨HM2.out.fr hF3 (by have := HC1.out.ne; simpa using this), hm3, fun x hx => hF3.blk (HF2.out.blk (HC1.out.ses x hx) (hsl x hx).1) (hsl x hx).2⟩
  have HBG3 := Lib.hid (hF3.blk hBg2 hgt)
  have HN3 := Lib.hid (hF3.blk hN2 hbt)
  have HGN : Hid (V3.ownsRow 0 61 7 c.gone G.length (G.flatMap idL)) := Lib.hid (by
    have a1 := own_frS HC1.out.gn HF2.out (fun q cur hq => by have := HC1.out.hM.not_blk hq; simpa using this)
    exact own_frS a1 hF3 (fun q cur hq => by have := hT2.not_blk hq; simpa using this))
  have HFW : Hid (Fr Sx w V3) := Lib.hid ((((HF.out.mono (by simp)).trans (HZ1.out.mono (by simp))).trans (HF2.out.mono HST.out)).trans (hF3.mono HSK.out))
  clear hBg2 hN2 hT2 hm3 hF3 hgt hbt hsl
  go_region
  go_wp2_with fail
  have HX : Hid (∀ W, (Blk W bid #[.int .u8 m1, .int .u8 m2, .int .u8 m3, .int .u8 m4, .int .u8 m5, .int .u8 m6, .int .i64 n] 61 ∧ Fr Sx w W) → (fun W => (W.cell? ⟨bid, 0, none⟩ = some (.int .u8 m1) ∧ W.cell? ⟨bid, 1, none⟩ = some (.int .u8 m2) ∧ W.cell? ⟨bid, 2, none⟩ = some (.int .u8 m3) ∧ W.cell? ⟨bid, 3, none⟩ = some (.int .u8 m4) ∧ W.cell? ⟨bid, 4, none⟩ = some (.int .u8 m5) ∧ W.cell? ⟨bid, 5, none⟩ = some (.int .u8 m6) ∧ W.cell? ⟨bid, 6, none⟩ = some (.int .i64 n)) ∧ Blk W bid #[.int .u8 m1, .int .u8 m2, .int .u8 m3, .int .u8 m4, .int .u8 m5, .int .u8 m6, .int .i64 n] 61 ∧ Fr Sx w W) W) := Lib.hid fun W h => ⟨⟨h.1.c 0 _ rfl, h.1.c 1 _ rfl, h.1.c 2 _ rfl, h.1.c 3 _ rfl, h.1.c 4 _ rfl, h.1.c 5 _ rfl, h.1.c 6 _ rfl⟩, h⟩
  clear hrun g11 q6 H3 HC1 HN1 HM2 HF2 HZ1 HGA HBA HF HN
  refine wp_region_held_drew (S := (fun W => (W.cell? ⟨bid, 0, none⟩ = some (.int .u8 m1) ∧ W.cell? ⟨bid, 1, none⟩ = some (.int .u8 m2) ∧ W.cell? ⟨bid, 2, none⟩ = some (.int .u8 m3) ∧ W.cell? ⟨bid, 3, none⟩ = some (.int .u8 m4) ∧ W.cell? ⟨bid, 4, none⟩ = some (.int .u8 m5) ∧ W.cell? ⟨bid, 5, none⟩ = some (.int .u8 m6) ∧ W.cell? ⟨bid, 6, none⟩ = some (.int .i64 n)) ∧ Blk W bid #[.int .u8 m1, .int .u8 m2, .int .u8 m3, .int .u8 m4, .int .u8 m5, .int .u8 m6, .int .i64 n] 61 ∧ Fr Sx w W)) (by kernel_rfl) ?_ (fun hHeld => ?_)
  · (try dsimp only); exact HX.out _ ⟨HN3.out.drew, HFW.out.drew⟩
  have hBg := HBG3.out.drew
  have hGn := own_fr0 HGN.out (Fr.refl [] V3).drew
  have hXX := HKEEP0.out _ _ (Fr.refl [] V3).drew HXX.out
  obtain ⟨v0, hv⟩ : ∃ X, V3.drew = X := ⟨_, rfl⟩
  rw [hv] at hHeld hBg hGn hXX ⊢
  clear hv HBG3 HGN HXX HN3 HFW
  refine take_yes 0 29 rfl rfl (by kernel_rfl) (by kernel_rfl) (by kernel_rfl) (fun _ _ _ h => h) (by rfl) (by assumption) (v := ?_) ?_ ?_
  rotate_left
  · intro w hSw; (try dsimp only at hSw); go_simp; (try with_reducible rfl)
  try simp only [Act.put, List.setIfInBounds_toArray, List.set_cons_zero, List.set_cons_succ]
  refine take_yes 1 30 rfl rfl (by kernel_rfl) (by kernel_rfl) (by kernel_rfl) (fun _ _ _ h => h) (by rfl) (by assumption) (v := ?_) ?_ ?_
  rotate_left
  · intro w hSw; (try dsimp only at hSw); go_simp; (try with_reducible rfl)
  try simp only [Act.put, List.setIfInBounds_toArray, List.set_cons_zero, List.set_cons_succ]
  refine take_yes 2 31 rfl rfl (by kernel_rfl) (by kernel_rfl) (by kernel_rfl) (fun _ _ _ h => h) (by rfl) (by assumption) (v := ?_) ?_ ?_
  rotate_left
  · intro w hSw; (try dsimp only at hSw); go_simp; (try with_reducible rfl)
  try simp only [Act.put, List.setIfInBounds_toArray, List.set_cons_zero, List.set_cons_succ]
  refine take_yes 3 32 rfl rfl (by kernel_rfl) (by kernel_rfl) (by kernel_rfl) (fun _ _ _ h => h) (by rfl) (by assumption) (v := ?_) ?_ ?_
  rotate_left
  · intro w hSw; (try dsimp only at hSw); go_simp; (try with_reducible rfl)
  try simp only [Act.put, List.setIfInBounds_toArray, List.set_cons_zero, List.set_cons_succ]
  refine take_yes 5 34 rfl rfl (by kernel_rfl) (by kernel_rfl) (by kernel_rfl) (fun _ _ _ h => h) (by rfl) (by assumption) (v := ?_) ?_ ?_
  rotate_left
  · intro w hSw; (try dsimp only at hSw); go_simp; (try with_reducible rfl)
  try simp only [Act.put, List.setIfInBounds_toArray, List.set_cons_zero, List.set_cons_succ]
  refine wpAnyH_ready (rs := [4, 6]) (by kernel_rfl) (by simp) ?_
  refine AllReadyH.cons (o := _) rfl (fun K hK => ?_) ?_
  · have c13 : v0.cell? ⟨g, 13, none⟩ = some c.gone := hBg.c 13 _ rfl
    go_simp
    (try go_wp2_with fail)
    refine hK.out _ _ ?_ (fun hHeld1 => ?_)
    · (try dsimp only); exact hHeld
    clear hK K c13 hHeld1
    try simp only [Act.put, List.setIfInBounds_toArray, List.set_cons_zero, List.set_cons_succ]
    refine wpAnyH_ready (rs := [6]) (by kernel_rfl) (by simp) ?_
    refine AllReadyH.cons (o := _) rfl (fun K hK => ?_) AllReadyH.nil
    go_simp
    (try go_wp2_with fail)
    have hFa : Fr [] v0 (v0.alloc (.cells #[.int .u8 m1, .int .u8 m2, .int .u8 m3, .int .u8 m4, .int .u8 m5, .int .u8 m6, .int .i64 n] 61 (0, 0))) := (Fr.refl _ _).alloc _
    have hOwnX := World.ownsRow_lit (base := 0) (e := 61) (size := 7) v0 #[.int .u8 m1, .int .u8 m2, .int .u8 m3, .int .u8 m4, .int .u8 m5, .int .u8 m6, .int .i64 n] 1 (Nat.zero_le _) (by unfold maxLen; omega) rfl
    replace hGn := own_fr0 hGn hFa
    replace hBg := hFa.blk hBg (by simp)
    replace hXX := HKEEP0.out _ _ hFa hXX
    have hb1 := hFa.blk hHeld.2.1 (by simp)
    have hf1 := hHeld.2.2.trans (hFa.mono (S' := Sx) (by simp))
    obtain ⟨v1, hv⟩ : ∃ X, v0.alloc (.cells #[.int .u8 m1, .int .u8 m2, .int .u8 m3, .int .u8 m4, .int .u8 m5, .int .u8 m6, .int .i64 n] 61 (0, 0)) = X := ⟨_, rfl⟩
    obtain ⟨qx, hqx⟩ : ∃ q, v0.heap.size = q := ⟨_, rfl⟩
    rw [hv] at hFa hGn hBg hXX hOwnX hb1 hf1 ⊢
    rw [hqx] at hOwnX ⊢
    clear hv hqx hFa
    refine hK.out _ _ ?_ (fun hHeld1 => ?_)
    · (try dsimp only); exact HX.out _ ⟨hb1, hf1⟩
    clear hK K hHeld hb1 hf1
    have hHeld := hHeld1
    clear hHeld1
    try simp only [Act.put, List.setIfInBounds_toArray, List.set_cons_zero, List.set_cons_succ]
    refine wpAnyH_ready (rs := [7]) (by kernel_rfl) (by simp) ?_
    refine AllReadyH.cons (o := _) rfl (fun K hK => ?_) AllReadyH.nil
    rw [if_pos (by rfl)]
    refine app_any _ 36 rfl (.tmp 33) (.tmp 35) 77 rfl 0 61 i0 (.agg #[.int .u8 0, .int .u8 0, .int .u8 0, .int .u8 0, .int .u8 0, .int .u8 0, .int .i64 0]) 7 16 Try.underlying77 hi hz0 hz1 hz2 rfl (by decide) c.gone G.length _ rfl hGn _ _ _ _ _ rfl (Reads.of_own hOwnX) (by simp [Value.oneCell']) ?_ ?_ ?_ ?_
    · have := HGL.out; unfold maxLen; omega
    · have := HGL.out; omega
    · exact Nat.zero_le _
    intro va v9 hownA hgrA hrowA
    have hFg := Fr.of_grown hgrA
    have hbb := hHeld.2.1
    have hb9 : Blk v9 bid #[.int .u8 m1, .int .u8 m2, .int .u8 m3, .int .u8 m4, .int .u8 m5, .int .u8 m6, .int .i64 n] 61 := hFg.blk hbb HNB.out
    have hF9 := hHeld.2.2.trans (hFg.mono HFS.out)
    have hg9 := hFg.blk hBg HNG.out
    have hRow : ∀ k, va.ownBlock = some k → c.gone.ownBlock = some k ∨ w.heap.size ≤ k := fun k hk => by
      rcases hrowA with h | h
      · left; rw [← h]; exact hk
      · right; rw [h] at hk; cases hk; exact hHeld.2.2.size
    obtain ⟨A1, c1, rfl⟩ := own_slice hownA
    have hX9 := HKEEP.out _ _ hFg hGn hXX
    clear hGn hBg hXX hFg hgrA hrowA hbb hOwnX hHeld
    refine hK.out _ _ ?_ (fun hHeld => ?_)
    · (try dsimp only); exact HX.out _ ⟨hb9, hF9⟩
    clear hK K
    try simp only [Act.put, List.setIfInBounds_toArray, List.set_cons_zero, List.set_cons_succ]
    have f13 := hg9.fz 13
    have c13 : v9.cell? ⟨g, 13, none⟩ = some c.gone := hg9.c 13 _ rfl
    refine take_yes 8 37 rfl rfl (by kernel_rfl) (by kernel_rfl) (by kernel_rfl) (fun _ _ _ h => h) (by rfl) (by assumption) (v := ?_) ?_ ?_
    rotate_left
    · intro w hSw; (try dsimp only at hSw); go_simp; (try with_reducible rfl)
    try simp only [Act.put, List.setIfInBounds_toArray, List.set_cons_zero, List.set_cons_succ]
    refine take_yes 9 38 rfl rfl (by kernel_rfl) (by kernel_rfl) (by kernel_rfl) (fun _ _ _ h => h) (by rfl) (by assumption) (v := ?_) ?_ ?_
    rotate_left
    · intro w hSw; (try dsimp only at hSw); go_simp; (try with_reducible rfl)
    try simp only [Act.put, List.setIfInBounds_toArray, List.set_cons_zero, List.set_cons_succ]
    refine wpAnyH_ready (rs := [10]) (by kernel_rfl) (by simp) ?_
    refine AllReadyH.cons (o := _) rfl (fun K hK => ?_) AllReadyH.nil
    go_simp
    (try go_wp2_with fail)
    have hgA : Blk (v9.setCell ⟨g, 13, none⟩ (.slice A1 (G.length + 1) c1)) g (cnC { c with gone := .slice A1 (G.length + 1) c1 }) 85 := by
      have := hg9.set 13 (.slice A1 (G.length + 1) c1)
      simpa [cnC] using this
    have hFs : Fr [g] v9 (v9.setCell ⟨g, 13, none⟩ (.slice A1 (G.length + 1) c1)) := (Fr.refl [g] v9).setCell (p := ⟨g, 13, none⟩) (by simp) (.slice A1 (G.length + 1) c1)
    have hbA := hFs.blk hb9 HBG.out
    have hFA : Fr Sx w (v9.setCell ⟨g, 13, none⟩ (.slice A1 (G.length + 1) c1)) := hF9.trans (hFs.mono HSG.out)
    have HZ : Hid (DropP w g c S G (⟨m1, m2, m3, m4, m5, m6⟩, n) (.returned (.bool true)) (v9.setCell ⟨g, 13, none⟩ (.slice A1 (G.length + 1) c1))) := Lib.hid (HFIN.out _ _ _ hFs hX9 hg9 hgA hownA hRow hFA)
    refine hK.out _ _ ?_ (fun hHeld1 => ?_)
    · (try dsimp only); exact HX.out _ ⟨hbA, hFA⟩
    clear hK K hgA hFs hbA hFA hX9 hg9 hownA hb9 hF9 f13 c13 hRow
    try simp only [Act.put, List.setIfInBounds_toArray, List.set_cons_zero, List.set_cons_succ]
    refine wpAnyH_done (by kernel_rfl) ?_ _
    go_wp2_with fail
    go_ret
    exact HZ.out
  refine AllReadyH.cons (o := _) rfl (fun K hK => ?_) AllReadyH.nil
  go_simp
  (try go_wp2_with fail)
  have hFa : Fr [] v0 (v0.alloc (.cells #[.int .u8 m1, .int .u8 m2, .int .u8 m3, .int .u8 m4, .int .u8 m5, .int .u8 m6, .int .i64 n] 61 (0, 0))) := (Fr.refl _ _).alloc _
  have hOwnX := World.ownsRow_lit (base := 0) (e := 61) (size := 7) v0 #[.int .u8 m1, .int .u8 m2, .int .u8 m3, .int .u8 m4, .int .u8 m5, .int .u8 m6, .int .i64 n] 1 (Nat.zero_le _) (by unfold maxLen; omega) rfl
  replace hGn := own_fr0 hGn hFa
  replace hBg := hFa.blk hBg (by simp)
  replace hXX := HKEEP0.out _ _ hFa hXX
  have hb1 := hFa.blk hHeld.2.1 (by simp)
  have hf1 := hHeld.2.2.trans (hFa.mono (S' := Sx) (by simp))
  obtain ⟨v1, hv⟩ : ∃ X, v0.alloc (.cells #[.int .u8 m1, .int .u8 m2, .int .u8 m3, .int .u8 m4, .int .u8 m5, .int .u8 m6, .int .i64 n] 61 (0, 0)) = X := ⟨_, rfl⟩
  obtain ⟨qx, hqx⟩ : ∃ q, v0.heap.size = q := ⟨_, rfl⟩
  rw [hv] at hFa hGn hBg hXX hOwnX hb1 hf1 ⊢
  rw [hqx] at hOwnX ⊢
  clear hv hqx hFa
  refine hK.out _ _ ?_ (fun hHeld1 => ?_)
  · (try dsimp only); exact HX.out _ ⟨hb1, hf1⟩
  clear hK K hHeld hb1 hf1
  have hHeld := hHeld1
  clear hHeld1
  try simp only [Act.put, List.setIfInBounds_toArray, List.set_cons_zero, List.set_cons_succ]
  refine wpAnyH_ready (rs := [4]) (by kernel_rfl) (by simp) ?_
  refine AllReadyH.cons (o := _) rfl (fun K hK => ?_) AllReadyH.nil
  have c13 : v1.cell? ⟨g, 13, none⟩ = some c.gone := hBg.c 13 _ rfl
  go_simp
  (try go_wp2_with fail)
  refine hK.out _ _ ?_ (fun hHeld1 => ?_)
  · (try dsimp only); exact hHeld
  clear hK K c13 hHeld1
  try simp only [Act.put, List.setIfInBounds_toArray, List.set_cons_zero, List.set_cons_succ]
  refine wpAnyH_ready (rs := [7]) (by kernel_rfl) (by simp) ?_
  refine AllReadyH.cons (o := _) rfl (fun K hK => ?_) AllReadyH.nil
  rw [if_pos (by rfl)]
  refine app_any _ 36 rfl (.tmp 33) (.tmp 35) 77 rfl 0 61 i0 (.agg #[.int .u8 0, .int .u8 0, .int .u8 0, .int .u8 0, .int .u8 0, .int .u8 0, .int .i64 0]) 7 16 Try.underlying77 hi hz0 hz1 hz2 rfl (by decide) c.gone G.length _ rfl hGn _ _ _ _ _ rfl (Reads.of_own hOwnX) (by simp [Value.oneCell']) ?_ ?_ ?_ ?_
  · have := HGL.out; unfold maxLen; omega
  · have := HGL.out; omega
  · exact Nat.zero_le _
  intro va v9 hownA hgrA hrowA
  have hFg := Fr.of_grown hgrA
  have hbb := hHeld.2.1
  have hb9 : Blk v9 bid #[.int .u8 m1, .int .u8 m2, .int .u8 m3, .int .u8 m4, .int .u8 m5, .int .u8 m6, .int .i64 n] 61 := hFg.blk hbb HNB.out
  have hF9 := hHeld.2.2.trans (hFg.mono HFS.out)
  have hg9 := hFg.blk hBg HNG.out
  have hRow : ∀ k, va.ownBlock = some k → c.gone.ownBlock = some k ∨ w.heap.size ≤ k := fun k hk => by
    rcases hrowA with h | h
    · left; rw [← h]; exact hk
    · right; rw [h] at hk; cases hk; exact hHeld.2.2.size
  obtain ⟨A1, c1, rfl⟩ := own_slice hownA
  have hX9 := HKEEP.out _ _ hFg hGn hXX
  clear hGn hBg hXX hFg hgrA hrowA hbb hOwnX hHeld
  refine hK.out _ _ ?_ (fun hHeld => ?_)
  · (try dsimp only); exact HX.out _ ⟨hb9, hF9⟩
  clear hK K
  try simp only [Act.put, List.setIfInBounds_toArray, List.set_cons_zero, List.set_cons_succ]
  have f13 := hg9.fz 13
  have c13 : v9.cell? ⟨g, 13, none⟩ = some c.gone := hg9.c 13 _ rfl
  refine take_yes 8 37 rfl rfl (by kernel_rfl) (by kernel_rfl) (by kernel_rfl) (fun _ _ _ h => h) (by rfl) (by assumption) (v := ?_) ?_ ?_
  rotate_left
  · intro w hSw; (try dsimp only at hSw); go_simp; (try with_reducible rfl)
  try simp only [Act.put, List.setIfInBounds_toArray, List.set_cons_zero, List.set_cons_succ]
  refine take_yes 9 38 rfl rfl (by kernel_rfl) (by kernel_rfl) (by kernel_rfl) (fun _ _ _ h => h) (by rfl) (by assumption) (v := ?_) ?_ ?_
  rotate_left
  · intro w hSw; (try dsimp only at hSw); go_simp; (try with_reducible rfl)
  try simp only [Act.put, List.setIfInBounds_toArray, List.set_cons_zero, List.set_cons_succ]
  refine wpAnyH_ready (rs := [10]) (by kernel_rfl) (by simp) ?_
  refine AllReadyH.cons (o := _) rfl (fun K hK => ?_) AllReadyH.nil
  go_simp
  (try go_wp2_with fail)
  have hgA : Blk (v9.setCell ⟨g, 13, none⟩ (.slice A1 (G.length + 1) c1)) g (cnC { c with gone := .slice A1 (G.length + 1) c1 }) 85 := by
    have := hg9.set 13 (.slice A1 (G.length + 1) c1)
    simpa [cnC] using this
  have hFs : Fr [g] v9 (v9.setCell ⟨g, 13, none⟩ (.slice A1 (G.length + 1) c1)) := (Fr.refl [g] v9).setCell (p := ⟨g, 13, none⟩) (by simp) (.slice A1 (G.length + 1) c1)
  have hbA := hFs.blk hb9 HBG.out
  have hFA : Fr Sx w (v9.setCell ⟨g, 13, none⟩ (.slice A1 (G.length + 1) c1)) := hF9.trans (hFs.mono HSG.out)
  have HZ : Hid (DropP w g c S G (⟨m1, m2, m3, m4, m5, m6⟩, n) (.returned (.bool true)) (v9.setCell ⟨g, 13, none⟩ (.slice A1 (G.length + 1) c1))) := Lib.hid (HFIN.out _ _ _ hFs hX9 hg9 hgA hownA hRow hFA)
  refine hK.out _ _ ?_ (fun hHeld1 => ?_)
  · (try dsimp only); exact HX.out _ ⟨hbA, hFA⟩
  clear hK K hgA hFs hbA hFA hX9 hg9 hownA hb9 hF9 f13 c13 hRow
  try simp only [Act.put, List.setIfInBounds_toArray, List.set_cons_zero, List.set_cons_succ]
  refine wpAnyH_done (by kernel_rfl) ?_ _
  go_wp2_with fail
  go_ret
  exact HZ.out
end
end Go.Proofs.Ytcdencpkgfehlaa
