/- slices over texts: ContainsFunc with ac's own question, Clone; ac.New with services (printed by tools/gen_hmb.py). -/
import Derived.Test.YtcdencpkgfehlaaAcG
import Derived.Test.YtcdencpkgfehlaaHmA
namespace Go.Proofs.Ytcdencpkgfehlaa
open Go.RowKit Go.Maps
set_option linter.unusedVariables false
section
variable {w : World}
theorem strF_len (s : List UInt8) : (strF s).length = 1 := rfl
theorem strF_one (s : List UInt8) : ∀ v, v ∈ strF s → v.oneCell' = true := fun v hv => by
  unfold strF at hv
  simp only [List.mem_singleton] at hv
  subst hv
  rfl
theorem infoStrS : (Try.prog.info? 9).map (fun i => (i.zero, i.size, i.bytes)) = some (some (.string ByteArray.empty), 1, 16) := by kernel_rfl
/-- texts that came in -/
def SIn (w : World) (A : Option Addr) (l : List (List UInt8)) : Prop := l = [] ∨ ∃ b off, A = some ⟨b, off, none⟩ ∧ b < w.heap.size ∧ ∀ i s, l[i]? = some s → w.cell? ⟨b, off + i, none⟩ = some (.string (B s))
theorem SIn.fr0 {w' : World} {A : Option Addr} {l : List (List UInt8)} (h : SIn w A l) (hF : Fr [] w w') : SIn w' A l :=
  h.imp id fun ⟨b, off, h1, h2, h3⟩ => ⟨b, off, h1, Nat.lt_of_lt_of_le h2 hF.size, fun i s hs => by rw [World.cell?_of_block (hF.block b h2 (by simp))]; exact h3 i s hs⟩
theorem SIn.reads {l : List (List UInt8)} {ad : Addr} (h : SIn w (some ad) l) : Reads w w.heap.size 1 (some ad) l.length (rowF strF l) := by
  refine ⟨rowF_len strF_len l, fun hn => ?_⟩
  rcases h with rfl | ⟨b, off, hA, hb, hc⟩
  · simp at hn
  cases hA
  refine ⟨_, rfl, hb, fun j u hu => ?_⟩
  have hj : j < l.length := by
    have := (List.getElem?_eq_some_iff.1 hu).1
    rw [rowF_len strF_len l] at this
    omega
  obtain ⟨y, hy⟩ : ∃ y, l[j]? = some y := ⟨_, List.getElem?_eq_getElem hj⟩
  have hg := rowF_get strF_len l j y hy 0 (by omega)
  rw [Nat.mul_one, Nat.add_zero] at hg
  rw [hg] at hu
  have hu2 : u = .string (B y) := by
    unfold strF at hu
    simpa using hu.symm
  have := hc j y hy
  rw [hu2]
  unfold Addr.add
  by_cases h0 : j = 0
  · subst h0; simpa using this
  · simpa [h0] using this
set_option maxRecDepth 100000 in
set_option maxHeartbeats 4000000 in
theorem idxF_no {A : Option Addr} {cap : Nat} {l : List (List UInt8)} (h : SIn w A l) (h40 : ∀ s, s ∈ l → s.length ≤ 40) (hl : l.length ≤ 20) (hc : l.length ≤ cap) (hm : cap ≤ maxLen) :
    Calls Try.prog 70 #[.slice A l.length cap, .func (.func 44) #[] #[]] w fun e w' => e = .returned (.int .i64 (-1)) ∧ Fr [] w w' := by
  have H := Lib.hid h
  have HL := Lib.hid fun s W (hs : s ∈ l) => long_any s W (h40 s hs)
  unfold maxLen at hm
  clear h h40
  go_enter Try.func70, Try.ntmps70
  go_wp2_with fail
  go_loopw [8] (fun iv wr => ∃ j : Nat, j ≤ l.length ∧ iv = .int .i64 j ∧ Fr [] w wr) (fun iv _ => l.length - (intOf iv).toNat)
  case atStart => exact ⟨0, by omega, rfl, Fr.refl _ _⟩
  case round =>
    obtain ⟨j, hj, rfl, hF⟩ := hrel
    by_cases hjl : j < l.length
    · obtain ⟨s, ht⟩ : ∃ t, l[j]? = some t := ⟨_, List.getElem?_eq_getElem hjl⟩
      obtain ⟨b, off, rfl, hb, hcell⟩ := (H.out.fr0 hF).resolve_left (fun e => by subst e; simp at hjl)
      have c0 : wr.cell? ⟨b, off + j, none⟩ = some (.string (B s)) := hcell j s ht
      have hjb : (j : Int) ≤ 20 := by omega
      have LG := Lib.hid (HL.out s wr (List.mem_of_getElem? ht))
      have HF := Lib.hid hF
      clear hcell ht hb hF
      go_wp2_with fail
      refine LG.out.mono ?_
      rintro e w1 ⟨rfl, rfl⟩
      clear LG
      go_wp2_with fail
      go_roundw
      case rel => exact ⟨j + 1, by omega, by go_num, HF.out⟩
      case measure => (simp [intOf]) <;> omega
    · obtain rfl : j = l.length := by omega
      have hge : ¬ (l.length : Int) < l.length := by omega
      have HF := Lib.hid hF
      clear hj hjl hF
      go_wp2_with fail
      go_ret
      exact ⟨rfl, HF.out⟩
set_option maxRecDepth 100000 in
theorem conF_no {A : Option Addr} {cap : Nat} {l : List (List UInt8)} (h : SIn w A l) (h40 : ∀ s, s ∈ l → s.length ≤ 40) (hl : l.length ≤ 20) (hc : l.length ≤ cap) (hm : cap ≤ maxLen) :
    Calls Try.prog 45 #[.slice A l.length cap, .func (.func 44) #[] #[]] w fun e w' => e = .returned (.bool false) ∧ Fr [] w w' := by
  have IX := Lib.hid (idxF_no h h40 hl hc hm)
  clear h h40 hl hc hm
  go_enter Try.func45, Try.ntmps45
  go_wp2_with fail
  refine IX.out.mono ?_
  rintro e w1 ⟨rfl, hF⟩
  have HF := Lib.hid hF
  clear hF
  go_wp2_with fail
  go_ret
  exact ⟨rfl, HF.out⟩
def CloS (w : World) (l : List (List UInt8)) (e : Ending) (w' : World) : Prop := ∃ A cap, e = .returned (.slice A l.length cap) ∧ w'.ownsRow 0 9 1 (.slice A l.length cap) l.length (rowF strF l) ∧ Fr [] w w'
set_option maxRecDepth 100000 in
set_option maxHeartbeats 4000000 in
theorem clone_strs {A : Option Addr} {c : Nat} {l : List (List UInt8)} (h : SIn w A l) (hl : l.length ≤ 20) :
    Calls Try.prog 46 #[.slice A l.length c] w (CloS w l) := by
  obtain ⟨i0, hi, hz0, hz1, hz2⟩ := info_parts infoStrS
  have hq : ∀ (A : Option Addr) (n c : Nat) (W : World), (binOp .eql 80 (.slice A n c) (.slice none 0 0)).run Try.prog W = .ok (.bool A.isNone) W := fun A n c W => by
    simp only [binOp]
    simp [Op.equal, Op.maxDepth, run_equalIn_slice_nil W 9999 _ _ A n c Try.underlying80]
  cases A with
  | none =>
    have hx : l = [] := by
      rcases h with h | ⟨b, off, h, _⟩
      · exact h
      · cases h
    subst hx
    have HX : Hid (CloS w [] (.returned (.slice none 0 0)) w) := Lib.hid ⟨none, 0, rfl, World.ownsRow_nil _ _ _ _, Fr.refl _ _⟩
    clear h hl
    go_enter Try.func46, Try.ntmps46
    go_wp2
    go_ret
    exact HX.out
  | some ad =>
    have hr := h.reads
    clear h
    go_enter Try.func46, Try.ntmps46
    go_wp2_with (at_builtin; refine wpList_append_any _ rfl _ _ 80 rfl w.heap.size 9 i0 (.string ByteArray.empty) 1 16 Try.underlying80 hi hz0 hz1 hz2 rfl (by decide) _ 0 [] rfl (World.ownsRow_lit w #[] 0 (Nat.le_refl _) (by unfold maxLen; omega) rfl) w.heap.size (some ad) l.length c (rowF strF l) rfl (hr.alloc (Nat.le_refl _) _) (rowF_one' strF_one l) ?c3 ?c4 ?c5 ?_)
    case c3 => unfold maxLen; omega
    case c4 => omega
    case c5 => simp
    intro v1 w1 hown1 hgr1 _
    have hF1 := ((Fr.refl [] w).alloc (.cells #[] 9 (0, 0))).grown hgr1 (fun q hq => by cases hq; exact Nat.le_refl _)
    clear hgr1
    obtain ⟨A', cap, rfl⟩ := rown_slice hown1
    have HX : Hid (CloS w l (.returned (.slice A' l.length cap)) w1) := Lib.hid ⟨A', cap, rfl, rown_base hown1 (Nat.zero_le _), hF1⟩
    clear hown1 hF1 hr
    go_wp2_with fail
    go_ret
    exact HX.out
def NewS (w : World) (m : Mc) (nm sec : List UInt8) (most : Int) (l : List (List UInt8)) (e : Ending) (w' : World) : Prop := ∃ g xa xb A cap, e = .returned (.tuple #[.pointer (some ⟨g, 0, none⟩), .int .i64 0]) ∧ w.heap.size ≤ g ∧ w.heap.size ≤ xa ∧ w.heap.size ≤ xb ∧ CnIs w' g ⟨m, nm, sec, .slice A l.length cap, most, xa, xb, 0, .slice none 0 0⟩ [] [] ∧ w'.ownsRow 0 9 1 (.slice A l.length cap) l.length (rowF strF l) ∧ Fr [] w w'
theorem newS_of {W : World} {m1 m2 m3 m4 m5 m6 most : Int} {nm sec : List UInt8} {l : List (List UInt8)} {A : Option Addr} {cap : Nat} {xa xb : Nat} (hF : Fr [] w W) (ha : MapIs idE ptrV W xa []) (hb : MapIs intE unitV W xb []) (hne : xa ≠ xb) (hxa : w.heap.size ≤ xa) (hxb : w.heap.size ≤ xb) (hR : W.ownsRow 0 9 1 (.slice A l.length cap) l.length (rowF strF l))
    (hB : Blk (W.alloc (.cells (cnC ⟨⟨m1, m2, m3, m4, m5, m6⟩, nm, sec, .slice A l.length cap, most, xa, xb, 0, .slice none 0 0⟩) 85 (0, 0))) W.heap.size (cnC ⟨⟨m1, m2, m3, m4, m5, m6⟩, nm, sec, .slice A l.length cap, most, xa, xb, 0, .slice none 0 0⟩) 85) :
    NewS w ⟨m1, m2, m3, m4, m5, m6⟩ nm sec most l (.returned (.tuple #[.pointer (some ⟨W.heap.size, 0, none⟩), .int .i64 0])) (W.alloc (.cells (cnC ⟨⟨m1, m2, m3, m4, m5, m6⟩, nm, sec, .slice A l.length cap, most, xa, xb, 0, .slice none 0 0⟩) 85 (0, 0))) := by
  have hFa := (Fr.refl [] W).alloc (.cells (cnC ⟨⟨m1, m2, m3, m4, m5, m6⟩, nm, sec, .slice A l.length cap, most, xa, xb, 0, .slice none 0 0⟩) 85 (0, 0))
  exact ⟨_, xa, xb, A, cap, rfl, hF.size, hxa, hxb, ⟨hB, ha.fr hFa (by simp), hb.fr hFa (by simp), hne, by simp, by simp, by simp, by simp, Int.le_refl _, World.ownsRow_nil _ _ _ _⟩, own_fr0 hR hFa, hF.trans hFa⟩
set_option maxRecDepth 100000 in
set_option maxHeartbeats 16000000 in

theorem cnew_s (m : Mc) (most : Int) {A : Option Addr} {cap : Nat} {l : List (List UInt8)} (h : SIn w A l) (h40 : ∀ s, s ∈ l → s.length ≤ 40) (hl8 : l.length ≤ 8) (hc : l.length ≤ cap) (hm : cap ≤ maxLen) (h0 : 1 ≤ most) (h1 : most ≤ 60) :
    Calls Try.prog 22 #[.agg (mcL m).toArray, .string (B [97, 99]), .slice A l.length cap, .string (B [115]), .int .i64 most] w (NewS w m [97, 99] [115] most l) := by
  have CF := Lib.hid fun W (hW : Fr [] w W) => conF_no (h.fr0 hW) h40 (by omega) hc hm
  have CN0 := Lib.hid fun W (hW : Fr [] w W) => clone_strs (c := cap) (h.fr0 hW) (by omega)
  have hl9 : ¬ (8 : Int) < l.length := by omega
  obtain ⟨m1, m2, m3, m4, m5, m6⟩ := m
  have LO := Lib.hid fun W => long_any [97, 99] W (by simp)
  have hn1 : ¬ most < 1 := by omega
  have hn2 : ¬ 60 < most := by omega
  have hF := (Fr.refl [] w).alloc (.cells #[.int .u8 m1, .int .u8 m2, .int .u8 m3, .int .u8 m4, .int .u8 m5, .int .u8 m6] 28 (0, 0))
  have hN := Blk.new w #[.int .u8 m1, .int .u8 m2, .int .u8 m3, .int .u8 m4, .int .u8 m5, .int .u8 m6] 28
  unfold mcL
  simp only
  clear h0 h1 h h40 hl8 hc hm
  go_enter Try.func22, Try.ntmps22
  go_wp2_with fail
  refine (LO.out _).mono ?_
  rintro e w1 ⟨rfl, rfl⟩
  go_wp2_with fail
  refine (CF.out _ hF).mono ?_
  rintro e wF ⟨rfl, hFF⟩
  replace hN := hFF.blk hN (by simp)
  replace hF := hF.trans hFF
  clear hFF CF
  go_wp2_with fail
  obtain ⟨nm, hnm⟩ : ∃ l : List UInt8, [97, 99] = l := ⟨_, rfl⟩
  obtain ⟨sec, hsec⟩ : ∃ l : List UInt8, [115] = l := ⟨_, rfl⟩
  have T1 : Hid (∀ W, Calls Try.prog 35 #[.string (B [97, 99])] W fun e w' => e = .returned (.string (B nm)) ∧ Fr [] W w') := Lib.hid fun W => by rw [← hnm]; exact clone_any [97, 99] W (by simp)
  have T2 : Hid (∀ W, Calls Try.prog 35 #[.string (B [115])] W fun e w' => e = .returned (.string (B sec)) ∧ Fr [] W w') := Lib.hid fun W => by rw [← hsec]; exact clone_any [115] W (by simp)
  have hmm := @run_makeMap Try.prog
  obtain ⟨q, hq⟩ : ∃ q, w.heap.size = q := ⟨_, rfl⟩
  obtain ⟨W3, hW3⟩ : ∃ W, wF = W := ⟨_, rfl⟩
  rw [hq] at hN ⊢
  rw [hW3] at hN hF ⊢
  have HF3 := Lib.hid hF
  have CN : Hid (∀ W, Fr [] W3 W → Calls Try.prog 46 #[.slice A l.length cap] W (CloS W l)) := Lib.hid fun W hW => CN0.out W (HF3.out.trans hW)
  clear CN0
  have HX : Hid (∀ W, Fr [] W3 W → (fun W => (W.cell? ⟨q, 0, none⟩ = some (.int .u8 m1) ∧ W.cell? ⟨q, 1, none⟩ = some (.int .u8 m2) ∧ W.cell? ⟨q, 2, none⟩ = some (.int .u8 m3) ∧ W.cell? ⟨q, 3, none⟩ = some (.int .u8 m4) ∧ W.cell? ⟨q, 4, none⟩ = some (.int .u8 m5) ∧ W.cell? ⟨q, 5, none⟩ = some (.int .u8 m6)) ∧ Fr [] W3 W) W) := Lib.hid fun W hW => by
    have hb := hW.blk hN (by simp)
    exact ⟨⟨hb.c 0 _ rfl, hb.c 1 _ rfl, hb.c 2 _ rfl, hb.c 3 _ rfl, hb.c 4 _ rfl, hb.c 5 _ rfl⟩, hW⟩
  have hG0 := HX.out _ (Fr.refl [] W3).drew
  have HQQ : Hid (∀ e w', NewS w ⟨m1, m2, m3, m4, m5, m6⟩ nm sec most l e w' → NewS w ⟨m1, m2, m3, m4, m5, m6⟩ [97, 99] [115] most l e w') := Lib.hid (by rw [hnm, hsec]; exact fun _ _ h => h)
  have HQ := Lib.hid hq
  clear hnm hsec hq hW3 hN hF LO
  refine wp_region_held_drew (S := (fun W => (W.cell? ⟨q, 0, none⟩ = some (.int .u8 m1) ∧ W.cell? ⟨q, 1, none⟩ = some (.int .u8 m2) ∧ W.cell? ⟨q, 2, none⟩ = some (.int .u8 m3) ∧ W.cell? ⟨q, 3, none⟩ = some (.int .u8 m4) ∧ W.cell? ⟨q, 4, none⟩ = some (.int .u8 m5) ∧ W.cell? ⟨q, 5, none⟩ = some (.int .u8 m6)) ∧ Fr [] W3 W)) (by kernel_rfl) ?_ (fun hHeld => ?_)
  · (try dsimp only); exact hG0
  obtain ⟨v0, hv⟩ : ∃ V, W3.drew = V := ⟨_, rfl⟩
  rw [hv] at hHeld ⊢
  clear hv hG0
  refine take_yes 0 38 rfl rfl (by kernel_rfl) (by kernel_rfl) (by kernel_rfl) (fun _ _ _ h => h) (by rfl) (by assumption) (v := ?_) ?_ ?_
  rotate_left
  · intro w hSw; (try dsimp only at hSw); go_simp; (try with_reducible rfl)
  try simp only [Act.put, List.setIfInBounds_toArray, List.set_cons_zero, List.set_cons_succ]
  refine take_yes 1 39 rfl rfl (by kernel_rfl) (by kernel_rfl) (by kernel_rfl) (fun _ _ _ h => h) (by rfl) (by assumption) (v := ?_) ?_ ?_
  rotate_left
  · intro w hSw; (try dsimp only at hSw); go_simp; (try with_reducible rfl)
  try simp only [Act.put, List.setIfInBounds_toArray, List.set_cons_zero, List.set_cons_succ]
  refine take_yes 3 41 rfl rfl (by kernel_rfl) (by kernel_rfl) (by kernel_rfl) (fun _ _ _ h => h) (by rfl) (by assumption) (v := ?_) ?_ ?_
  rotate_left
  · intro w hSw; (try dsimp only at hSw); go_simp; (try with_reducible rfl)
  try simp only [Act.put, List.setIfInBounds_toArray, List.set_cons_zero, List.set_cons_succ]
  refine take_yes 5 43 rfl rfl (by kernel_rfl) (by kernel_rfl) (by kernel_rfl) (fun _ _ _ h => h) (by rfl) (by assumption) (v := ?_) ?_ ?_
  rotate_left
  · intro w hSw; (try dsimp only at hSw); go_simp; (try with_reducible rfl)
  try simp only [Act.put, List.setIfInBounds_toArray, List.set_cons_zero, List.set_cons_succ]
  refine take_yes 7 45 rfl rfl (by kernel_rfl) (by kernel_rfl) (by kernel_rfl) (fun _ _ _ h => h) (by rfl) (by assumption) (v := ?_) ?_ ?_
  rotate_left
  · intro w hSw; (try dsimp only at hSw); go_simp; (try with_reducible rfl)
  try simp only [Act.put, List.setIfInBounds_toArray, List.set_cons_zero, List.set_cons_succ]
  refine wpAnyH_ready (rs := [2, 8, 9]) (by kernel_rfl) (by simp) ?_
  refine AllReadyH.cons (o := _) rfl (fun K hK => ?_) ?_
  · go_simp
    refine (T1.out _).mono ?_
    rintro r v1 ⟨rfl, hF5⟩
    (try go_wp2_with fail)
    refine hK.out _ _ ?_ (fun hHeld1 => ?_)
    · (try dsimp only); exact HX.out _ (hHeld.2.trans hF5)
    clear hK K
    try simp only [Act.put, List.setIfInBounds_toArray, List.set_cons_zero, List.set_cons_succ]
    replace hHeld := hHeld1
    clear hF5 hHeld1
    refine wpAnyH_ready (rs := [4, 8, 9]) (by kernel_rfl) (by simp) ?_
    refine AllReadyH.cons (o := _) rfl (fun K hK => ?_) ?_
    · go_simp
      refine (T2.out _).mono ?_
      rintro r v2 ⟨rfl, hF5⟩
      (try go_wp2_with fail)
      refine hK.out _ _ ?_ (fun hHeld1 => ?_)
      · (try dsimp only); exact HX.out _ (hHeld.2.trans hF5)
      clear hK K
      try simp only [Act.put, List.setIfInBounds_toArray, List.set_cons_zero, List.set_cons_succ]
      replace hHeld := hHeld1
      clear hF5 hHeld1
      refine wpAnyH_ready (rs := [6, 8, 9]) (by kernel_rfl) (by simp) ?_
      refine AllReadyH.cons (o := _) rfl (fun K hK => ?_) ?_
      · go_simp
        refine (CN.out _ hHeld.2).mono ?_
        rintro r v3 ⟨Av, cc, rfl, hRA, hF5⟩
        (try go_wp2_with fail)
        refine hK.out _ _ ?_ (fun hHeld1 => ?_)
        · (try dsimp only); exact HX.out _ (hHeld.2.trans hF5)
        clear hK K
        try simp only [Act.put, List.setIfInBounds_toArray, List.set_cons_zero, List.set_cons_succ]
        replace hHeld := hHeld1
        clear hF5 hHeld1
        refine wpAnyH_ready (rs := [8, 9]) (by kernel_rfl) (by simp) ?_
        refine AllReadyH.cons (o := _) rfl (fun K hK => ?_) ?_
        · go_simp
          (try go_wp2_with fail)
          have hFx : Fr [] v3 (v3.alloc (.map #[] 0)) := (Fr.refl _ _).alloc _
          have hMa : MapIs idE ptrV (v3.alloc (.map #[] 0)) v3.heap.size [] := MapIs.new _
          have hXa : w.heap.size ≤ v3.heap.size := Nat.le_trans HF3.out.size hHeld.2.size
          replace hRA := own_fr0 hRA hFx
          obtain ⟨v4, hV⟩ : ∃ V, v3.alloc (.map #[] 0) = V := ⟨_, rfl⟩
          obtain ⟨xa, hx⟩ : ∃ b, v3.heap.size = b := ⟨_, rfl⟩
          rw [hV] at hFx hMa ⊢ hRA
          rw [hx] at hMa hXa ⊢
          refine hK.out _ _ ?_ (fun hHeld1 => ?_)
          · (try dsimp only); exact HX.out _ (hHeld.2.trans hFx)
          clear hK K hV hx hFx
          replace hHeld := hHeld1
          clear hHeld1
          try simp only [Act.put, List.setIfInBounds_toArray, List.set_cons_zero, List.set_cons_succ]
          refine wpAnyH_ready (rs := [9]) (by kernel_rfl) (by simp) ?_
          refine AllReadyH.cons (o := _) rfl (fun K hK => ?_) AllReadyH.nil
          go_simp
          (try go_wp2_with fail)
          have hFx : Fr [] v4 (v4.alloc (.map #[] 0)) := (Fr.refl _ _).alloc _
          have hMb : MapIs intE unitV (v4.alloc (.map #[] 0)) v4.heap.size [] := MapIs.new _
          have hXb : w.heap.size ≤ v4.heap.size := Nat.le_trans HF3.out.size hHeld.2.size
          replace hRA := own_fr0 hRA hFx
          have hNe : xa ≠ v4.heap.size := by have := hMa.lt; omega
          replace hMa := hMa.fr hFx (by simp)
          obtain ⟨v5, hV⟩ : ∃ V, v4.alloc (.map #[] 0) = V := ⟨_, rfl⟩
          obtain ⟨xb, hx⟩ : ∃ b, v4.heap.size = b := ⟨_, rfl⟩
          rw [hV] at hFx hMb ⊢ hMa hRA
          rw [hx] at hMb hXb ⊢ hNe
          refine hK.out _ _ ?_ (fun hHeld1 => ?_)
          · (try dsimp only); exact HX.out _ (hHeld.2.trans hFx)
          clear hK K hV hx hFx
          replace hHeld := hHeld1
          clear hHeld1
          try simp only [Act.put, List.setIfInBounds_toArray, List.set_cons_zero, List.set_cons_succ]
          refine take_yes 10 48 rfl rfl (by kernel_rfl) (by kernel_rfl) (by kernel_rfl) (fun _ _ _ h => h) (by rfl) (by assumption) (v := ?_) ?_ ?_
          rotate_left
          · intro w hSw; (try dsimp only at hSw); go_simp; (try with_reducible rfl)
          try simp only [Act.put, List.setIfInBounds_toArray, List.set_cons_zero, List.set_cons_succ]
          refine wpAnyH_ready (rs := [11]) (by kernel_rfl) (by simp) ?_
          refine AllReadyH.cons (o := _) rfl (fun K hK => ?_) AllReadyH.nil
          go_simp
          (try go_wp2_with fail)
          have hFz : Fr [] v5 (v5.alloc (.cells #[.int .u8 m1, .int .u8 m2, .int .u8 m3, .int .u8 m4, .int .u8 m5, .int .u8 m6, .string (B nm), .string (B sec), .slice Av l.length cc, .int .i64 most, .map (some xa), .map (some xb), .int .u16 0, .slice none 0 0] 85 (0, 0))) := (Fr.refl _ _).alloc _
          have hFw := hHeld.2.trans hFz
          have HZ : Hid (NewS w ⟨m1, m2, m3, m4, m5, m6⟩ nm sec most l (.returned (.tuple #[.pointer (some ⟨v5.heap.size, 0, none⟩), .int .i64 0])) (v5.alloc (.cells #[.int .u8 m1, .int .u8 m2, .int .u8 m3, .int .u8 m4, .int .u8 m5, .int .u8 m6, .string (B nm), .string (B sec), .slice Av l.length cc, .int .i64 most, .map (some xa), .map (some xb), .int .u16 0, .slice none 0 0] 85 (0, 0)))) := Lib.hid (newS_of (HF3.out.trans hHeld.2) hMa hMb hNe hXa hXb hRA (Blk.new _ _ _))
          refine hK.out _ _ ?_ (fun hHeld1 => ?_)
          · (try dsimp only); exact HX.out _ hFw
          clear hK K hFz hFw hMa hMb hNe hXa hXb hRA
          try simp only [Act.put, List.setIfInBounds_toArray, List.set_cons_zero, List.set_cons_succ]
          refine take_yes 12 10 rfl rfl (by kernel_rfl) (by kernel_rfl) (by kernel_rfl) (fun _ _ _ h => h) (by rfl) (by assumption) (v := ?_) ?_ ?_
          rotate_left
          · intro w hSw; (try dsimp only at hSw); go_simp; (try with_reducible rfl)
          try simp only [Act.put, List.setIfInBounds_toArray, List.set_cons_zero, List.set_cons_succ]
          refine take_yes 13 11 rfl rfl (by kernel_rfl) (by kernel_rfl) (by kernel_rfl) (fun _ _ _ h => h) (by rfl) (by assumption) (v := ?_) ?_ ?_
          rotate_left
          · intro w hSw; (try dsimp only at hSw); go_simp; (try with_reducible rfl)
          try simp only [Act.put, List.setIfInBounds_toArray, List.set_cons_zero, List.set_cons_succ]
          refine wpAnyH_done (by kernel_rfl) ?_ _
          clear HX
          go_wp2_with fail
          go_ret2
          exact HQQ.out _ _ HZ.out
        refine AllReadyH.cons (o := _) rfl (fun K hK => ?_) AllReadyH.nil
        go_simp
        (try go_wp2_with fail)
        have hFx : Fr [] v3 (v3.alloc (.map #[] 0)) := (Fr.refl _ _).alloc _
        have hMb : MapIs intE unitV (v3.alloc (.map #[] 0)) v3.heap.size [] := MapIs.new _
        have hXb : w.heap.size ≤ v3.heap.size := Nat.le_trans HF3.out.size hHeld.2.size
        replace hRA := own_fr0 hRA hFx
        obtain ⟨v4, hV⟩ : ∃ V, v3.alloc (.map #[] 0) = V := ⟨_, rfl⟩
        obtain ⟨xb, hx⟩ : ∃ b, v3.heap.size = b := ⟨_, rfl⟩
        rw [hV] at hFx hMb ⊢ hRA
        rw [hx] at hMb hXb ⊢
        refine hK.out _ _ ?_ (fun hHeld1 => ?_)
        · (try dsimp only); exact HX.out _ (hHeld.2.trans hFx)
        clear hK K hV hx hFx
        replace hHeld := hHeld1
        clear hHeld1
        try simp only [Act.put, List.setIfInBounds_toArray, List.set_cons_zero, List.set_cons_succ]
        refine wpAnyH_ready (rs := [8]) (by kernel_rfl) (by simp) ?_
        refine AllReadyH.cons (o := _) rfl (fun K hK => ?_) AllReadyH.nil
        go_simp
        (try go_wp2_with fail)
        have hFx : Fr [] v4 (v4.alloc (.map #[] 0)) := (Fr.refl _ _).alloc _
        have hMa : MapIs idE ptrV (v4.alloc (.map #[] 0)) v4.heap.size [] := MapIs.new _
        have hXa : w.heap.size ≤ v4.heap.size := Nat.le_trans HF3.out.size hHeld.2.size
        replace hRA := own_fr0 hRA hFx
        have hNe : v4.heap.size ≠ xb := by have := hMb.lt; omega
        replace hMb := hMb.fr hFx (by simp)
        obtain ⟨v5, hV⟩ : ∃ V, v4.alloc (.map #[] 0) = V := ⟨_, rfl⟩
        obtain ⟨xa, hx⟩ : ∃ b, v4.heap.size = b := ⟨_, rfl⟩
        rw [hV] at hFx hMa ⊢ hMb hRA
        rw [hx] at hMa hXa ⊢ hNe
        refine hK.out _ _ ?_ (fun hHeld1 => ?_)
        · (try dsimp only); exact HX.out _ (hHeld.2.trans hFx)
        clear hK K hV hx hFx
        replace hHeld := hHeld1
        clear hHeld1
        try simp only [Act.put, List.setIfInBounds_toArray, List.set_cons_zero, List.set_cons_succ]
        refine take_yes 10 48 rfl rfl (by kernel_rfl) (by kernel_rfl) (by kernel_rfl) (fun _ _ _ h => h) (by rfl) (by assumption) (v := ?_) ?_ ?_
        rotate_left
        · intro w hSw; (try dsimp only at hSw); go_simp; (try with_reducible rfl)
        try simp only [Act.put, List.setIfInBounds_toArray, List.set_cons_zero, List.set_cons_succ]
        refine wpAnyH_ready (rs := [11]) (by kernel_rfl) (by simp) ?_
        refine AllReadyH.cons (o := _) rfl (fun K hK => ?_) AllReadyH.nil
        go_simp
        (try go_wp2_with fail)
        have hFz : Fr [] v5 (v5.alloc (.cells #[.int .u8 m1, .int .u8 m2, .int .u8 m3, .int .u8 m4, .int .u8 m5, .int .u8 m6, .string (B nm), .string (B sec), .slice Av l.length cc, .int .i64 most, .map (some xa), .map (some xb), .int .u16 0, .slice none 0 0] 85 (0, 0))) := (Fr.refl _ _).alloc _
        have hFw := hHeld.2.trans hFz
        have HZ : Hid (NewS w ⟨m1, m2, m3, m4, m5, m6⟩ nm sec most l (.returned (.tuple #[.pointer (some ⟨v5.heap.size, 0, none⟩), .int .i64 0])) (v5.alloc (.cells #[.int .u8 m1, .int .u8 m2, .int .u8 m3, .int .u8 m4, .int .u8 m5, .int .u8 m6, .string (B nm), .string (B sec), .slice Av l.length cc, .int .i64 most, .map (some xa), .map (some xb), .int .u16 0, .slice none 0 0] 85 (0, 0)))) := Lib.hid (newS_of (HF3.out.trans hHeld.2) hMa hMb hNe hXa hXb hRA (Blk.new _ _ _))
        refine hK.out _ _ ?_ (fun hHeld1 => ?_)
        · (try dsimp only); exact HX.out _ hFw
        clear hK K hFz hFw hMa hMb hNe hXa hXb hRA
        try simp only [Act.put, List.setIfInBounds_toArray, List.set_cons_zero, List.set_cons_succ]
        refine take_yes 12 10 rfl rfl (by kernel_rfl) (by kernel_rfl) (by kernel_rfl) (fun _ _ _ h => h) (by rfl) (by assumption) (v := ?_) ?_ ?_
        rotate_left
        · intro w hSw; (try dsimp only at hSw); go_simp; (try with_reducible rfl)
        try simp only [Act.put, List.setIfInBounds_toArray, List.set_cons_zero, List.set_cons_succ]
        refine take_yes 13 11 rfl rfl (by kernel_rfl) (by kernel_rfl) (by kernel_rfl) (fun _ _ _ h => h) (by rfl) (by assumption) (v := ?_) ?_ ?_
        rotate_left
        · intro w hSw; (try dsimp only at hSw); go_simp; (try with_reducible rfl)
        try simp only [Act.put, List.setIfInBounds_toArray, List.set_cons_zero, List.set_cons_succ]
        refine wpAnyH_done (by kernel_rfl) ?_ _
        clear HX
        go_wp2_with fail
        go_ret2
        exact HQQ.out _ _ HZ.out
      refine AllReadyH.cons (o := _) rfl (fun K hK => ?_) ?_
      · go_simp
        (try go_wp2_with fail)
        have hFx : Fr [] v2 (v2.alloc (.map #[] 0)) := (Fr.refl _ _).alloc _
        have hMa : MapIs idE ptrV (v2.alloc (.map #[] 0)) v2.heap.size [] := MapIs.new _
        have hXa : w.heap.size ≤ v2.heap.size := Nat.le_trans HF3.out.size hHeld.2.size
        obtain ⟨v3, hV⟩ : ∃ V, v2.alloc (.map #[] 0) = V := ⟨_, rfl⟩
        obtain ⟨xa, hx⟩ : ∃ b, v2.heap.size = b := ⟨_, rfl⟩
        rw [hV] at hFx hMa ⊢
        rw [hx] at hMa hXa ⊢
        refine hK.out _ _ ?_ (fun hHeld1 => ?_)
        · (try dsimp only); exact HX.out _ (hHeld.2.trans hFx)
        clear hK K hV hx hFx
        replace hHeld := hHeld1
        clear hHeld1
        try simp only [Act.put, List.setIfInBounds_toArray, List.set_cons_zero, List.set_cons_succ]
        refine wpAnyH_ready (rs := [6, 9]) (by kernel_rfl) (by simp) ?_
        refine AllReadyH.cons (o := _) rfl (fun K hK => ?_) ?_
        · go_simp
          refine (CN.out _ hHeld.2).mono ?_
          rintro r v4 ⟨Av, cc, rfl, hRA, hF5⟩
          (try go_wp2_with fail)
          refine hK.out _ _ ?_ (fun hHeld1 => ?_)
          · (try dsimp only); exact HX.out _ (hHeld.2.trans hF5)
          clear hK K
          try simp only [Act.put, List.setIfInBounds_toArray, List.set_cons_zero, List.set_cons_succ]
          replace hMa := hMa.fr hF5 (by simp)
          replace hHeld := hHeld1
          clear hF5 hHeld1
          refine wpAnyH_ready (rs := [9]) (by kernel_rfl) (by simp) ?_
          refine AllReadyH.cons (o := _) rfl (fun K hK => ?_) AllReadyH.nil
          go_simp
          (try go_wp2_with fail)
          have hFx : Fr [] v4 (v4.alloc (.map #[] 0)) := (Fr.refl _ _).alloc _
          have hMb : MapIs intE unitV (v4.alloc (.map #[] 0)) v4.heap.size [] := MapIs.new _
          have hXb : w.heap.size ≤ v4.heap.size := Nat.le_trans HF3.out.size hHeld.2.size
          replace hRA := own_fr0 hRA hFx
          have hNe : xa ≠ v4.heap.size := by have := hMa.lt; omega
          replace hMa := hMa.fr hFx (by simp)
          obtain ⟨v5, hV⟩ : ∃ V, v4.alloc (.map #[] 0) = V := ⟨_, rfl⟩
          obtain ⟨xb, hx⟩ : ∃ b, v4.heap.size = b := ⟨_, rfl⟩
          rw [hV] at hFx hMb ⊢ hMa hRA
          rw [hx] at hMb hXb ⊢ hNe
          refine hK.out _ _ ?_ (fun hHeld1 => ?_)
          · (try dsimp only); exact HX.out _ (hHeld.2.trans hFx)
          clear hK K hV hx hFx
          replace hHeld := hHeld1
          clear hHeld1
          try simp only [Act.put, List.setIfInBounds_toArray, List.set_cons_zero, List.set_cons_succ]
          refine take_yes 10 48 rfl rfl (by kernel_rfl) (by kernel_rfl) (by kernel_rfl) (fun _ _ _ h => h) (by rfl) (by assumption) (v := ?_) ?_ ?_
          rotate_left
          · intro w hSw; (try dsimp only at hSw); go_simp; (try with_reducible rfl)
          try simp only [Act.put, List.setIfInBounds_toArray, List.set_cons_zero, List.set_cons_succ]
          refine wpAnyH_ready (rs := [11]) (by kernel_rfl) (by simp) ?_
          refine AllReadyH.cons (o := _) rfl (fun K hK => ?_) AllReadyH.nil
          go_simp
          (try go_wp2_with fail)
          have hFz : Fr [] v5 (v5.alloc (.cells #[.int .u8 m1, .int .u8 m2, .int .u8 m3, .int .u8 m4, .int .u8 m5, .int .u8 m6, .string (B nm), .string (B sec), .slice Av l.length cc, .int .i64 most, .map (some xa), .map (some xb), .int .u16 0, .slice none 0 0] 85 (0, 0))) := (Fr.refl _ _).alloc _
          have hFw := hHeld.2.trans hFz
          have HZ : Hid (NewS w ⟨m1, m2, m3, m4, m5, m6⟩ nm sec most l (.returned (.tuple #[.pointer (some ⟨v5.heap.size, 0, none⟩), .int .i64 0])) (v5.alloc (.cells #[.int .u8 m1, .int .u8 m2, .int .u8 m3, .int .u8 m4, .int .u8 m5, .int .u8 m6, .string (B nm), .string (B sec), .slice Av l.length cc, .int .i64 most, .map (some xa), .map (some xb), .int .u16 0, .slice none 0 0] 85 (0, 0)))) := Lib.hid (newS_of (HF3.out.trans hHeld.2) hMa hMb hNe hXa hXb hRA (Blk.new _ _ _))
          refine hK.out _ _ ?_ (fun hHeld1 => ?_)
          · (try dsimp only); exact HX.out _ hFw
          clear hK K hFz hFw hMa hMb hNe hXa hXb hRA
          try simp only [Act.put, List.setIfInBounds_toArray, List.set_cons_zero, List.set_cons_succ]
          refine take_yes 12 10 rfl rfl (by kernel_rfl) (by kernel_rfl) (by kernel_rfl) (fun _ _ _ h => h) (by rfl) (by assumption) (v := ?_) ?_ ?_
          rotate_left
          · intro w hSw; (try dsimp only at hSw); go_simp; (try with_reducible rfl)
          try simp only [Act.put, List.setIfInBounds_toArray, List.set_cons_zero, List.set_cons_succ]
          refine take_yes 13 11 rfl rfl (by kernel_rfl) (by kernel_rfl) (by kernel_rfl) (fun _ _ _ h => h) (by rfl) (by assumption) (v := ?_) ?_ ?_
          rotate_left
          · intro w hSw; (try dsimp only at hSw); go_simp; (try with_reducible rfl)
          try simp only [Act.put, List.setIfInBounds_toArray, List.set_cons_zero, List.set_cons_succ]
          refine wpAnyH_done (by kernel_rfl) ?_ _
          clear HX
          go_wp2_with fail
          go_ret2
          exact HQQ.out _ _ HZ.out
        refine AllReadyH.cons (o := _) rfl (fun K hK => ?_) AllReadyH.nil
        go_simp
        (try go_wp2_with fail)
        have hFx : Fr [] v3 (v3.alloc (.map #[] 0)) := (Fr.refl _ _).alloc _
        have hMb : MapIs intE unitV (v3.alloc (.map #[] 0)) v3.heap.size [] := MapIs.new _
        have hXb : w.heap.size ≤ v3.heap.size := Nat.le_trans HF3.out.size hHeld.2.size
        have hNe : xa ≠ v3.heap.size := by have := hMa.lt; omega
        replace hMa := hMa.fr hFx (by simp)
        obtain ⟨v4, hV⟩ : ∃ V, v3.alloc (.map #[] 0) = V := ⟨_, rfl⟩
        obtain ⟨xb, hx⟩ : ∃ b, v3.heap.size = b := ⟨_, rfl⟩
        rw [hV] at hFx hMb ⊢ hMa
        rw [hx] at hMb hXb ⊢ hNe
        refine hK.out _ _ ?_ (fun hHeld1 => ?_)
        · (try dsimp only); exact HX.out _ (hHeld.2.trans hFx)
        clear hK K hV hx hFx
        replace hHeld := hHeld1
        clear hHeld1
        try simp only [Act.put, List.setIfInBounds_toArray, List.set_cons_zero, List.set_cons_succ]
        refine wpAnyH_ready (rs := [6]) (by kernel_rfl) (by simp) ?_
        refine AllReadyH.cons (o := _) rfl (fun K hK => ?_) AllReadyH.nil
        go_simp
        refine (CN.out _ hHeld.2).mono ?_
        rintro r v5 ⟨Av, cc, rfl, hRA, hF5⟩
        (try go_wp2_with fail)
        refine hK.out _ _ ?_ (fun hHeld1 => ?_)
        · (try dsimp only); exact HX.out _ (hHeld.2.trans hF5)
        clear hK K
        try simp only [Act.put, List.setIfInBounds_toArray, List.set_cons_zero, List.set_cons_succ]
        replace hMa := hMa.fr hF5 (by simp)
        replace hMb := hMb.fr hF5 (by simp)
        replace hHeld := hHeld1
        clear hF5 hHeld1
        refine take_yes 10 48 rfl rfl (by kernel_rfl) (by kernel_rfl) (by kernel_rfl) (fun _ _ _ h => h) (by rfl) (by assumption) (v := ?_) ?_ ?_
        rotate_left
        · intro w hSw; (try dsimp only at hSw); go_simp; (try with_reducible rfl)
        try simp only [Act.put, List.setIfInBounds_toArray, List.set_cons_zero, List.set_cons_succ]
        refine wpAnyH_ready (rs := [11]) (by kernel_rfl) (by simp) ?_
        refine AllReadyH.cons (o := _) rfl (fun K hK => ?_) AllReadyH.nil
        go_simp
        (try go_wp2_with fail)
        have hFz : Fr [] v5 (v5.alloc (.cells #[.int .u8 m1, .int .u8 m2, .int .u8 m3, .int .u8 m4, .int .u8 m5, .int .u8 m6, .string (B nm), .string (B sec), .slice Av l.length cc, .int .i64 most, .map (some xa), .map (some xb), .int .u16 0, .slice none 0 0] 85 (0, 0))) := (Fr.refl _ _).alloc _
        have hFw := hHeld.2.trans hFz
        have HZ : Hid (NewS w ⟨m1, m2, m3, m4, m5, m6⟩ nm sec most l (.returned (.tuple #[.pointer (some ⟨v5.heap.size, 0, none⟩), .int .i64 0])) (v5.alloc (.cells #[.int .u8 m1, .int .u8 m2, .int .u8 m3, .int .u8 m4, .int .u8 m5, .int .u8 m6, .string (B nm), .string (B sec), .slice Av l.length cc, .int .i64 most, .map (some xa), .map (some xb), .int .u16 0, .slice none 0 0] 85 (0, 0)))) := Lib.hid (newS_of (HF3.out.trans hHeld.2) hMa hMb hNe hXa hXb hRA (Blk.new _ _ _))
        refine hK.out _ _ ?_ (fun hHeld1 => ?_)
        · (try dsimp only); exact HX.out _ hFw
        clear hK K hFz hFw hMa hMb hNe hXa hXb hRA
        try simp only [Act.put, List.setIfInBounds_toArray, List.set_cons_zero, List.set_cons_succ]
        refine take_yes 12 10 rfl rfl (by kernel_rfl) (by kernel_rfl) (by kernel_rfl) (fun _ _ _ h => h) (by rfl) (by assumption) (v := ?_) ?_ ?_
        rotate_left
        · intro w hSw; (try dsimp only at hSw); go_simp; (try with_reducible rfl)
        try simp only [Act.put, List.setIfInBounds_toArray, List.set_cons_zero, List.set_cons_succ]
        refine take_yes 13 11 rfl rfl (by kernel_rfl) (by kernel_rfl) (by kernel_rfl) (fun _ _ _ h => h) (by rfl) (by assumption) (v := ?_) ?_ ?_
        rotate_left
        · intro w hSw; (try dsimp only at hSw); go_simp; (try with_reducible rfl)
        try simp only [Act.put, List.setIfInBounds_toArray, List.set_cons_zero, List.set_cons_succ]
        refine wpAnyH_done (by kernel_rfl) ?_ _
        clear HX
        go_wp2_with fail
        go_ret2
        exact HQQ.out _ _ HZ.out
      refine AllReadyH.cons (o := _) rfl (fun K hK => ?_) AllReadyH.nil
      go_simp
      (try go_wp2_with fail)
      have hFx : Fr [] v2 (v2.alloc (.map #[] 0)) := (Fr.refl _ _).alloc _
      have hMb : MapIs intE unitV (v2.alloc (.map #[] 0)) v2.heap.size [] := MapIs.new _
      have hXb : w.heap.size ≤ v2.heap.size := Nat.le_trans HF3.out.size hHeld.2.size
      obtain ⟨v3, hV⟩ : ∃ V, v2.alloc (.map #[] 0) = V := ⟨_, rfl⟩
      obtain ⟨xb, hx⟩ : ∃ b, v2.heap.size = b := ⟨_, rfl⟩
      rw [hV] at hFx hMb ⊢
      rw [hx] at hMb hXb ⊢
      refine hK.out _ _ ?_ (fun hHeld1 => ?_)
      · (try dsimp only); exact HX.out _ (hHeld.2.trans hFx)
      clear hK K hV hx hFx
      replace hHeld := hHeld1
      clear hHeld1
      try simp only [Act.put, List.setIfInBounds_toArray, List.set_cons_zero, List.set_cons_succ]
      refine wpAnyH_ready (rs := [6, 8]) (by kernel_rfl) (by simp) ?_
      refine AllReadyH.cons (o := _) rfl (fun K hK => ?_) ?_
      · go_simp
        refine (CN.out _ hHeld.2).mono ?_
        rintro r v4 ⟨Av, cc, rfl, hRA, hF5⟩
        (try go_wp2_with fail)
        refine hK.out _ _ ?_ (fun hHeld1 => ?_)
        · (try dsimp only); exact HX.out _ (hHeld.2.trans hF5)
        clear hK K
        try simp only [Act.put, List.setIfInBounds_toArray, List.set_cons_zero, List.set_cons_succ]
        replace hMb := hMb.fr hF5 (by simp)
        replace hHeld := hHeld1
        clear hF5 hHeld1
        refine wpAnyH_ready (rs := [8]) (by kernel_rfl) (by simp) ?_
        refine AllReadyH.cons (o := _) rfl (fun K hK => ?_) AllReadyH.nil
        go_simp
        (try go_wp2_with fail)
        have hFx : Fr [] v4 (v4.alloc (.map #[] 0)) := (Fr.refl _ _).alloc _
        have hMa : MapIs idE ptrV (v4.alloc (.map #[] 0)) v4.heap.size [] := MapIs.new _
        have hXa : w.heap.size ≤ v4.heap.size := Nat.le_trans HF3.out.size hHeld.2.size
        replace hRA := own_fr0 hRA hFx
        have hNe : v4.heap.size ≠ xb := by have := hMb.lt; omega
        replace hMb := hMb.fr hFx (by simp)
        obtain ⟨v5, hV⟩ : ∃ V, v4.alloc (.map #[] 0) = V := ⟨_, rfl⟩
        obtain ⟨xa, hx⟩ : ∃ b, v4.heap.size = b := ⟨_, rfl⟩
        rw [hV] at hFx hMa ⊢ hMb hRA
        rw [hx] at hMa hXa ⊢ hNe
        refine hK.out _ _ ?_ (fun hHeld1 => ?_)
        · (try dsimp only); exact HX.out _ (hHeld.2.trans hFx)
        clear hK K hV hx hFx
        replace hHeld := hHeld1
        clear hHeld1
        try simp only [Act.put, List.setIfInBounds_toArray, List.set_cons_zero, List.set_cons_succ]
        refine take_yes 10 48 rfl rfl (by kernel_rfl) (by kernel_rfl) (by kernel_rfl) (fun _ _ _ h => h) (by rfl) (by assumption) (v := ?_) ?_ ?_
        rotate_left
        · intro w hSw; (try dsimp only at hSw); go_simp; (try with_reducible rfl)
        try simp only [Act.put, List.setIfInBounds_toArray, List.set_cons_zero, List.set_cons_succ]
        refine wpAnyH_ready (rs := [11]) (by kernel_rfl) (by simp) ?_
        refine AllReadyH.cons (o := _) rfl (fun K hK => ?_) AllReadyH.nil
        go_simp
        (try go_wp2_with fail)
        have hFz : Fr [] v5 (v5.alloc (.cells #[.int .u8 m1, .int .u8 m2, .int .u8 m3, .int .u8 m4, .int .u8 m5, .int .u8 m6, .string (B nm), .string (B sec), .slice Av l.length cc, .int .i64 most, .map (some xa), .map (some xb), .int .u16 0, .slice none 0 0] 85 (0, 0))) := (Fr.refl _ _).alloc _
        have hFw := hHeld.2.trans hFz
        have HZ : Hid (NewS w ⟨m1, m2, m3, m4, m5, m6⟩ nm sec most l (.returned (.tuple #[.pointer (some ⟨v5.heap.size, 0, none⟩), .int .i64 0])) (v5.alloc (.cells #[.int .u8 m1, .int .u8 m2, .int .u8 m3, .int .u8 m4, .int .u8 m5, .int .u8 m6, .string (B nm), .string (B sec), .slice Av l.length cc, .int .i64 most, .map (some xa), .map (some xb), .int .u16 0, .slice none 0 0] 85 (0, 0)))) := Lib.hid (newS_of (HF3.out.trans hHeld.2) hMa hMb hNe hXa hXb hRA (Blk.new _ _ _))
        refine hK.out _ _ ?_ (fun hHeld1 => ?_)
        · (try dsimp only); exact HX.out _ hFw
        clear hK K hFz hFw hMa hMb hNe hXa hXb hRA
        try simp only [Act.put, List.setIfInBounds_toArray, List.set_cons_zero, List.set_cons_succ]
        refine take_yes 12 10 rfl rfl (by kernel_rfl) (by kernel_rfl) (by kernel_rfl) (fun _ _ _ h => h) (by rfl) (by assumption) (v := ?_) ?_ ?_
        rotate_left
        · intro w hSw; (try dsimp only at hSw); go_simp; (try with_reducible rfl)
        try simp only [Act.put, List.setIfInBounds_toArray, List.set_cons_zero, List.set_cons_succ]
        refine take_yes 13 11 rfl rfl (by kernel_rfl) (by kernel_rfl) (by kernel_rfl) (fun _ _ _ h => h) (by rfl) (by assumption) (v := ?_) ?_ ?_
        rotate_left
        · intro w hSw; (try dsimp only at hSw); go_simp; (try with_reducible rfl)
        try simp only [Act.put, List.setIfInBounds_toArray, List.set_cons_zero, List.set_cons_succ]
        refine wpAnyH_done (by kernel_rfl) ?_ _
        clear HX
        go_wp2_with fail
        go_ret2
        exact HQQ.out _ _ HZ.out
      refine AllReadyH.cons (o := _) rfl (fun K hK => ?_) AllReadyH.nil
      go_simp
      (try go_wp2_with fail)
      have hFx : Fr [] v3 (v3.alloc (.map #[] 0)) := (Fr.refl _ _).alloc _
      have hMa : MapIs idE ptrV (v3.alloc (.map #[] 0)) v3.heap.size [] := MapIs.new _
      have hXa : w.heap.size ≤ v3.heap.size := Nat.le_trans HF3.out.size hHeld.2.size
      have hNe : v3.heap.size ≠ xb := by have := hMb.lt; omega
      replace hMb := hMb.fr hFx (by simp)
      obtain ⟨v4, hV⟩ : ∃ V, v3.alloc (.map #[] 0) = V := ⟨_, rfl⟩
      obtain ⟨xa, hx⟩ : ∃ b, v3.heap.size = b := ⟨_, rfl⟩
      rw [hV] at hFx hMa ⊢ hMb
      rw [hx] at hMa hXa ⊢ hNe
      refine hK.out _ _ ?_ (fun hHeld1 => ?_)
      · (try dsimp only); exact HX.out _ (hHeld.2.trans hFx)
      clear hK K hV hx hFx
      replace hHeld := hHeld1
      clear hHeld1
      try simp only [Act.put, List.setIfInBounds_toArray, List.set_cons_zero, List.set_cons_succ]
      refine wpAnyH_ready (rs := [6]) (by kernel_rfl) (by simp) ?_
      refine AllReadyH.cons (o := _) rfl (fun K hK => ?_) AllReadyH.nil
      go_simp
      refine (CN.out _ hHeld.2).mono ?_
      rintro r v5 ⟨Av, cc, rfl, hRA, hF5⟩
      (try go_wp2_with fail)
      refine hK.out _ _ ?_ (fun hHeld1 => ?_)
      · (try dsimp only); exact HX.out _ (hHeld.2.trans hF5)
      clear hK K
      try simp only [Act.put, List.setIfInBounds_toArray, List.set_cons_zero, List.set_cons_succ]
      replace hMa := hMa.fr hF5 (by simp)
      replace hMb := hMb.fr hF5 (by simp)
      replace hHeld := hHeld1
      clear hF5 hHeld1
      refine take_yes 10 48 rfl rfl (by kernel_rfl) (by kernel_rfl) (by kernel_rfl) (fun _ _ _ h => h) (by rfl) (by assumption) (v := ?_) ?_ ?_
      rotate_left
      · intro w hSw; (try dsimp only at hSw); go_simp; (try with_reducible rfl)
      try simp only [Act.put, List.setIfInBounds_toArray, List.set_cons_zero, List.set_cons_succ]
      refine wpAnyH_ready (rs := [11]) (by kernel_rfl) (by simp) ?_
      refine AllReadyH.cons (o := _) rfl (fun K hK => ?_) AllReadyH.nil
      go_simp
      (try go_wp2_with fail)
      have hFz : Fr [] v5 (v5.alloc (.cells #[.int .u8 m1, .int .u8 m2, .int .u8 m3, .int .u8 m4, .int .u8 m5, .int .u8 m6, .string (B nm), .string (B sec), .slice Av l.length cc, .int .i64 most, .map (some xa), .map (some xb), .int .u16 0, .slice none 0 0] 85 (0, 0))) := (Fr.refl _ _).alloc _
      have hFw := hHeld.2.trans hFz
      have HZ : Hid (NewS w ⟨m1, m2, m3, m4, m5, m6⟩ nm sec most l (.returned (.tuple #[.pointer (some ⟨v5.heap.size, 0, none⟩), .int .i64 0])) (v5.alloc (.cells #[.int .u8 m1, .int .u8 m2, .int .u8 m3, .int .u8 m4, .int .u8 m5, .int .u8 m6, .string (B nm), .string (B sec), .slice Av l.length cc, .int .i64 most, .map (some xa), .map (some xb), .int .u16 0, .slice none 0 0] 85 (0, 0)))) := Lib.hid (newS_of (HF3.out.trans hHeld.2) hMa hMb hNe hXa hXb hRA (Blk.new _ _ _))
      refine hK.out _ _ ?_ (fun hHeld1 => ?_)
      · (try dsimp only); exact HX.out _ hFw
      clear hK K hFz hFw hMa hMb hNe hXa hXb hRA
      try simp only [Act.put, List.setIfInBounds_toArray, List.set_cons_zero, List.set_cons_succ]
      refine take_yes 12 10 rfl rfl (by kernel_rfl) (by kernel_rfl) (by kernel_rfl) (fun _ _ _ h => h) (by rfl) (by assumption) (v := ?_) ?_ ?_
      rotate_left
      · intro w hSw; (try dsimp only at hSw); go_simp; (try with_reducible rfl)
      try simp only [Act.put, List.setIfInBounds_toArray, List.set_cons_zero, List.set_cons_succ]
      refine take_yes 13 11 rfl rfl (by kernel_rfl) (by kernel_rfl) (by kernel_rfl) (fun _ _ _ h => h) (by rfl) (by assumption) (v := ?_) ?_ ?_
      rotate_left
      · intro w hSw; (try dsimp only at hSw); go_simp; (try with_reducible rfl)
      try simp only [Act.put, List.setIfInBounds_toArray, List.set_cons_zero, List.set_cons_succ]
      refine wpAnyH_done (by kernel_rfl) ?_ _
      clear HX
      go_wp2_with fail
      go_ret2
      exact HQQ.out _ _ HZ.out
    refine AllReadyH.cons (o := _) rfl (fun K hK => ?_) ?_
    · go_simp
      (try go_wp2_with fail)
      have hFx : Fr [] v1 (v1.alloc (.map #[] 0)) := (Fr.refl _ _).alloc _
      have hMa : MapIs idE ptrV (v1.alloc (.map #[] 0)) v1.heap.size [] := MapIs.new _
      have hXa : w.heap.size ≤ v1.heap.size := Nat.le_trans HF3.out.size hHeld.2.size
      obtain ⟨v2, hV⟩ : ∃ V, v1.alloc (.map #[] 0) = V := ⟨_, rfl⟩
      obtain ⟨xa, hx⟩ : ∃ b, v1.heap.size = b := ⟨_, rfl⟩
      rw [hV] at hFx hMa ⊢
      rw [hx] at hMa hXa ⊢
      refine hK.out _ _ ?_ (fun hHeld1 => ?_)
      · (try dsimp only); exact HX.out _ (hHeld.2.trans hFx)
      clear hK K hV hx hFx
      replace hHeld := hHeld1
      clear hHeld1
      try simp only [Act.put, List.setIfInBounds_toArray, List.set_cons_zero, List.set_cons_succ]
      refine wpAnyH_ready (rs := [4, 9]) (by kernel_rfl) (by simp) ?_
      refine AllReadyH.cons (o := _) rfl (fun K hK => ?_) ?_
      · go_simp
        refine (T2.out _).mono ?_
        rintro r v3 ⟨rfl, hF5⟩
        (try go_wp2_with fail)
        refine hK.out _ _ ?_ (fun hHeld1 => ?_)
        · (try dsimp only); exact HX.out _ (hHeld.2.trans hF5)
        clear hK K
        try simp only [Act.put, List.setIfInBounds_toArray, List.set_cons_zero, List.set_cons_succ]
        replace hMa := hMa.fr hF5 (by simp)
        replace hHeld := hHeld1
        clear hF5 hHeld1
        refine wpAnyH_ready (rs := [6, 9]) (by kernel_rfl) (by simp) ?_
        refine AllReadyH.cons (o := _) rfl (fun K hK => ?_) ?_
        · go_simp
          refine (CN.out _ hHeld.2).mono ?_
          rintro r v4 ⟨Av, cc, rfl, hRA, hF5⟩
          (try go_wp2_with fail)
          refine hK.out _ _ ?_ (fun hHeld1 => ?_)
          · (try dsimp only); exact HX.out _ (hHeld.2.trans hF5)
          clear hK K
          try simp only [Act.put, List.setIfInBounds_toArray, List.set_cons_zero, List.set_cons_succ]
          replace hMa := hMa.fr hF5 (by simp)
          replace hHeld := hHeld1
          clear hF5 hHeld1
          refine wpAnyH_ready (rs := [9]) (by kernel_rfl) (by simp) ?_
          refine AllReadyH.cons (o := _) rfl (fun K hK => ?_) AllReadyH.nil
          go_simp
          (try go_wp2_with fail)
          have hFx : Fr [] v4 (v4.alloc (.map #[] 0)) := (Fr.refl _ _).alloc _
          have hMb : MapIs intE unitV (v4.alloc (.map #[] 0)) v4.heap.size [] := MapIs.new _
          have hXb : w.heap.size ≤ v4.heap.size := Nat.le_trans HF3.out.size hHeld.2.size
          replace hRA := own_fr0 hRA hFx
          have hNe : xa ≠ v4.heap.size := by have := hMa.lt; omega
          replace hMa := hMa.fr hFx (by simp)
          obtain ⟨v5, hV⟩ : ∃ V, v4.alloc (.map #[] 0) = V := ⟨_, rfl⟩
          obtain ⟨xb, hx⟩ : ∃ b, v4.heap.size = b := ⟨_, rfl⟩
          rw [hV] at hFx hMb ⊢ hMa hRA
          rw [hx] at hMb hXb ⊢ hNe
          refine hK.out _ _ ?_ (fun hHeld1 => ?_)
          · (try dsimp only); exact HX.out _ (hHeld.2.trans hFx)
          clear hK K hV hx hFx
          replace hHeld := hHeld1
          clear hHeld1
          try simp only [Act.put, List.setIfInBounds_toArray, List.set_cons_zero, List.set_cons_succ]
          refine take_yes 10 48 rfl rfl (by kernel_rfl) (by kernel_rfl) (by kernel_rfl) (fun _ _ _ h => h) (by rfl) (by assumption) (v := ?_) ?_ ?_
          rotate_left
          · intro w hSw; (try dsimp only at hSw); go_simp; (try with_reducible rfl)
          try simp only [Act.put, List.setIfInBounds_toArray, List.set_cons_zero, List.set_cons_succ]
          refine wpAnyH_ready (rs := [11]) (by kernel_rfl) (by simp) ?_
          refine AllReadyH.cons (o := _) rfl (fun K hK => ?_) AllReadyH.nil
          go_simp
          (try go_wp2_with fail)
          have hFz : Fr [] v5 (v5.alloc (.cells #[.int .u8 m1, .int .u8 m2, .int .u8 m3, .int .u8 m4, .int .u8 m5, .int .u8 m6, .string (B nm), .string (B sec), .slice Av l.length cc, .int .i64 most, .map (some xa), .map (some xb), .int .u16 0, .slice none 0 0] 85 (0, 0))) := (Fr.refl _ _).alloc _
          have hFw := hHeld.2.trans hFz
          have HZ : Hid (NewS w ⟨m1, m2, m3, m4, m5, m6⟩ nm sec most l (.returned (.tuple #[.pointer (some ⟨v5.heap.size, 0, none⟩), .int .i64 0])) (v5.alloc (.cells #[.int .u8 m1, .int .u8 m2, .int .u8 m3, .int .u8 m4, .int .u8 m5, .int .u8 m6, .string (B nm), .string (B sec), .slice Av l.length cc, .int .i64 most, .map (some xa), .map (some xb), .int .u16 0, .slice none 0 0] 85 (0, 0)))) := Lib.hid (newS_of (HF3.out.trans hHeld.2) hMa hMb hNe hXa hXb hRA (Blk.new _ _ _))
          refine hK.out _ _ ?_ (fun hHeld1 => ?_)
          · (try dsimp only); exact HX.out _ hFw
          clear hK K hFz hFw hMa hMb hNe hXa hXb hRA
          try simp only [Act.put, List.setIfInBounds_toArray, List.set_cons_zero, List.set_cons_succ]
          refine take_yes 12 10 rfl rfl (by kernel_rfl) (by kernel_rfl) (by kernel_rfl) (fun _ _ _ h => h) (by rfl) (by assumption) (v := ?_) ?_ ?_
          rotate_left
          · intro w hSw; (try dsimp only at hSw); go_simp; (try with_reducible rfl)
          try simp only [Act.put, List.setIfInBounds_toArray, List.set_cons_zero, List.set_cons_succ]
          refine take_yes 13 11 rfl rfl (by kernel_rfl) (by kernel_rfl) (by kernel_rfl) (fun _ _ _ h => h) (by rfl) (by assumption) (v := ?_) ?_ ?_
          rotate_left
          · intro w hSw; (try dsimp only at hSw); go_simp; (try with_reducible rfl)
          try simp only [Act.put, List.setIfInBounds_toArray, List.set_cons_zero, List.set_cons_succ]
          refine wpAnyH_done (by kernel_rfl) ?_ _
          clear HX
          go_wp2_with fail
          go_ret2
          exact HQQ.out _ _ HZ.out
        refine AllReadyH.cons (o := _) rfl (fun K hK => ?_) AllReadyH.nil
        go_simp
        (try go_wp2_with fail)
        have hFx : Fr [] v3 (v3.alloc (.map #[] 0)) := (Fr.refl _ _).alloc _
        have hMb : MapIs intE unitV (v3.alloc (.map #[] 0)) v3.heap.size [] := MapIs.new _
        have hXb : w.heap.size ≤ v3.heap.size := Nat.le_trans HF3.out.size hHeld.2.size
        have hNe : xa ≠ v3.heap.size := by have := hMa.lt; omega
        replace hMa := hMa.fr hFx (by simp)
        obtain ⟨v4, hV⟩ : ∃ V, v3.alloc (.map #[] 0) = V := ⟨_, rfl⟩
        obtain ⟨xb, hx⟩ : ∃ b, v3.heap.size = b := ⟨_, rfl⟩
        rw [hV] at hFx hMb ⊢ hMa
        rw [hx] at hMb hXb ⊢ hNe
        refine hK.out _ _ ?_ (fun hHeld1 => ?_)
        · (try dsimp only); exact HX.out _ (hHeld.2.trans hFx)
        clear hK K hV hx hFx
        replace hHeld := hHeld1
        clear hHeld1
        try simp only [Act.put, List.setIfInBounds_toArray, List.set_cons_zero, List.set_cons_succ]
        refine wpAnyH_ready (rs := [6]) (by kernel_rfl) (by simp) ?_
        refine AllReadyH.cons (o := _) rfl (fun K hK => ?_) AllReadyH.nil
        go_simp
        refine (CN.out _ hHeld.2).mono ?_
        rintro r v5 ⟨Av, cc, rfl, hRA, hF5⟩
        (try go_wp2_with fail)
        refine hK.out _ _ ?_ (fun hHeld1 => ?_)
        · (try dsimp only); exact HX.out _ (hHeld.2.trans hF5)
        clear hK K
        try simp only [Act.put, List.setIfInBounds_toArray, List.set_cons_zero, List.set_cons_succ]
        replace hMa := hMa.fr hF5 (by simp)
        replace hMb := hMb.fr hF5 (by simp)
        replace hHeld := hHeld1
        clear hF5 hHeld1
        refine take_yes 10 48 rfl rfl (by kernel_rfl) (by kernel_rfl) (by kernel_rfl) (fun _ _ _ h => h) (by rfl) (by assumption) (v := ?_) ?_ ?_
        rotate_left
        · intro w hSw; (try dsimp only at hSw); go_simp; (try with_reducible rfl)
        try simp only [Act.put, List.setIfInBounds_toArray, List.set_cons_zero, List.set_cons_succ]
        refine wpAnyH_ready (rs := [11]) (by kernel_rfl) (by simp) ?_
        refine AllReadyH.cons (o := _) rfl (fun K hK => ?_) AllReadyH.nil
        go_simp
        (try go_wp2_with fail)
        have hFz : Fr [] v5 (v5.alloc (.cells #[.int .u8 m1, .int .u8 m2, .int .u8 m3, .int .u8 m4, .int .u8 m5, .int .u8 m6, .string (B nm), .string (B sec), .slice Av l.length cc, .int .i64 most, .map (some xa), .map (some xb), .int .u16 0, .slice none 0 0] 85 (0, 0))) := (Fr.refl _ _).alloc _
        have hFw := hHeld.2.trans hFz
        have HZ : Hid (NewS w ⟨m1, m2, m3, m4, m5, m6⟩ nm sec most l (.returned (.tuple #[.pointer (some ⟨v5.heap.size, 0, none⟩), .int .i64 0])) (v5.alloc (.cells #[.int .u8 m1, .int .u8 m2, .int .u8 m3, .int .u8 m4, .int .u8 m5, .int .u8 m6, .string (B nm), .string (B sec), .slice Av l.length cc, .int .i64 most, .map (some xa), .map (some xb), .int .u16 0, .slice none 0 0] 85 (0, 0)))) := Lib.hid (newS_of (HF3.out.trans hHeld.2) hMa hMb hNe hXa hXb hRA (Blk.new _ _ _))
        refine hK.out _ _ ?_ (fun hHeld1 => ?_)
        · (try dsimp only); exact HX.out _ hFw
        clear hK K hFz hFw hMa hMb hNe hXa hXb hRA
        try simp only [Act.put, List.setIfInBounds_toArray, List.set_cons_zero, List.set_cons_succ]
        refine take_yes 12 10 rfl rfl (by kernel_rfl) (by kernel_rfl) (by kernel_rfl) (fun _ _ _ h => h) (by rfl) (by assumption) (v := ?_) ?_ ?_
        rotate_left
        · intro w hSw; (try dsimp only at hSw); go_simp; (try with_reducible rfl)
        try simp only [Act.put, List.setIfInBounds_toArray, List.set_cons_zero, List.set_cons_succ]
        refine take_yes 13 11 rfl rfl (by kernel_rfl) (by kernel_rfl) (by kernel_rfl) (fun _ _ _ h => h) (by rfl) (by assumption) (v := ?_) ?_ ?_
        rotate_left
        · intro w hSw; (try dsimp only at hSw); go_simp; (try with_reducible rfl)
        try simp only [Act.put, List.setIfInBounds_toArray, List.set_cons_zero, List.set_cons_succ]
        refine wpAnyH_done (by kernel_rfl) ?_ _
        clear HX
        go_wp2_with fail
        go_ret2
        exact HQQ.out _ _ HZ.out
      refine AllReadyH.cons (o := _) rfl (fun K hK => ?_) AllReadyH.nil
      go_simp
      (try go_wp2_with fail)
      have hFx : Fr [] v2 (v2.alloc (.map #[] 0)) := (Fr.refl _ _).alloc _
      have hMb : MapIs intE unitV (v2.alloc (.map #[] 0)) v2.heap.size [] := MapIs.new _
      have hXb : w.heap.size ≤ v2.heap.size := Nat.le_trans HF3.out.size hHeld.2.size
      have hNe : xa ≠ v2.heap.size := by have := hMa.lt; omega
      replace hMa := hMa.fr hFx (by simp)
      obtain ⟨v3, hV⟩ : ∃ V, v2.alloc (.map #[] 0) = V := ⟨_, rfl⟩
      obtain ⟨xb, hx⟩ : ∃ b, v2.heap.size = b := ⟨_, rfl⟩
      rw [hV] at hFx hMb ⊢ hMa
      rw [hx] at hMb hXb ⊢ hNe
      refine hK.out _ _ ?_ (fun hHeld1 => ?_)
      · (try dsimp only); exact HX.out _ (hHeld.2.trans hFx)
      clear hK K hV hx hFx
      replace hHeld := hHeld1
      clear hHeld1
      try simp only [Act.put, List.setIfInBounds_toArray, List.set_cons_zero, List.set_cons_succ]
      refine wpAnyH_ready (rs := [4]) (by kernel_rfl) (by simp) ?_
      refine AllReadyH.cons (o := _) rfl (fun K hK => ?_) AllReadyH.nil
      go_simp
      refine (T2.out _).mono ?_
      rintro r v4 ⟨rfl, hF5⟩
      (try go_wp2_with fail)
      refine hK.out _ _ ?_ (fun hHeld1 => ?_)
      · (try dsimp only); exact HX.out _ (hHeld.2.trans hF5)
      clear hK K
      try simp only [Act.put, List.setIfInBounds_toArray, List.set_cons_zero, List.set_cons_succ]
      replace hMa := hMa.fr hF5 (by simp)
      replace hMb := hMb.fr hF5 (by simp)
      replace hHeld := hHeld1
      clear hF5 hHeld1
      refine wpAnyH_ready (rs := [6]) (by kernel_rfl) (by simp) ?_
      refine AllReadyH.cons (o := _) rfl (fun K hK => ?_) AllReadyH.nil
      go_simp
      refine (CN.out _ hHeld.2).mono ?_
      rintro r v5 ⟨Av, cc, rfl, hRA, hF5⟩
      (try go_wp2_with fail)
      refine hK.out _ _ ?_ (fun hHeld1 => ?_)
      · (try dsimp only); exact HX.out _ (hHeld.2.trans hF5)
      clear hK K
      try simp only [Act.put, List.setIfInBounds_toArray, List.set_cons_zero, List.set_cons_succ]
      replace hMa := hMa.fr hF5 (by simp)
      replace hMb := hMb.fr hF5 (by simp)
      replace hHeld := hHeld1
      clear hF5 hHeld1
      refine take_yes 10 48 rfl rfl (by kernel_rfl) (by kernel_rfl) (by kernel_rfl) (fun _ _ _ h => h) (by rfl) (by assumption) (v := ?_) ?_ ?_
      rotate_left
      · intro w hSw; (try dsimp only at hSw); go_simp; (try with_reducible rfl)
      try simp only [Act.put, List.setIfInBounds_toArray, List.set_cons_zero, List.set_cons_succ]
      refine wpAnyH_ready (rs := [11]) (by kernel_rfl) (by simp) ?_
      refine AllReadyH.cons (o := _) rfl (fun K hK => ?_) AllReadyH.nil
      go_simp
      (try go_wp2_with fail)
      have hFz : Fr [] v5 (v5.alloc (.cells #[.int .u8 m1, .int .u8 m2, .int .u8 m3, .int .u8 m4, .int .u8 m5, .int .u8 m6, .string (B nm), .string (B sec), .slice Av l.length cc, .int .i64 most, .map (some xa), .map (some xb), .int .u16 0, .slice none 0 0] 85 (0, 0))) := (Fr.refl _ _).alloc _
      have hFw := hHeld.2.trans hFz
      have HZ : Hid (NewS w ⟨m1, m2, m3, m4, m5, m6⟩ nm sec most l (.returned (.tuple #[.pointer (some ⟨v5.heap.size, 0, none⟩), .int .i64 0])) (v5.alloc (.cells #[.int .u8 m1, .int .u8 m2, .int .u8 m3, .int .u8 m4, .int .u8 m5, .int .u8 m6, .string (B nm), .string (B sec), .slice Av l.length cc, .int .i64 most, .map (some xa), .map (some xb), .int .u16 0, .slice none 0 0] 85 (0, 0)))) := Lib.hid (newS_of (HF3.out.trans hHeld.2) hMa hMb hNe hXa hXb hRA (Blk.new _ _ _))
      refine hK.out _ _ ?_ (fun hHeld1 => ?_)
      · (try dsimp only); exact HX.out _ hFw
      clear hK K hFz hFw hMa hMb hNe hXa hXb hRA
      try simp only [Act.put, List.setIfInBounds_toArray, List.set_cons_zero, List.set_cons_succ]
      refine take_yes 12 10 rfl rfl (by kernel_rfl) (by kernel_rfl) (by kernel_rfl) (fun _ _ _ h => h) (by rfl) (by assumption) (v := ?_) ?_ ?_
      rotate_left
      · intro w hSw; (try dsimp only at hSw); go_simp; (try with_reducible rfl)
      try simp only [Act.put, List.setIfInBounds_toArray, List.set_cons_zero, List.set_cons_succ]
      refine take_yes 13 11 rfl rfl (by kernel_rfl) (by kernel_rfl) (by kernel_rfl) (fun _ _ _ h => h) (by rfl) (by assumption) (v := ?_) ?_ ?_
      rotate_left
      · intro w hSw; (try dsimp only at hSw); go_simp; (try with_reducible rfl)
      try simp only [Act.put, List.setIfInBounds_toArray, List.set_cons_zero, List.set_cons_succ]
      refine wpAnyH_done (by kernel_rfl) ?_ _
      clear HX
      go_wp2_with fail
      go_ret2
      exact HQQ.out _ _ HZ.out
    refine AllReadyH.cons (o := _) rfl (fun K hK => ?_) AllReadyH.nil
    go_simp
    (try go_wp2_with fail)
    have hFx : Fr [] v1 (v1.alloc (.map #[] 0)) := (Fr.refl _ _).alloc _
    have hMb : MapIs intE unitV (v1.alloc (.map #[] 0)) v1.heap.size [] := MapIs.new _
    have hXb : w.heap.size ≤ v1.heap.size := Nat.le_trans HF3.out.size hHeld.2.size
    obtain ⟨v2, hV⟩ : ∃ V, v1.alloc (.map #[] 0) = V := ⟨_, rfl⟩
    obtain ⟨xb, hx⟩ : ∃ b, v1.heap.size = b := ⟨_, rfl⟩
    rw [hV] at hFx hMb ⊢
    rw [hx] at hMb hXb ⊢
    refine hK.out _ _ ?_ (fun hHeld1 => ?_)
    · (try dsimp only); exact HX.out _ (hHeld.2.trans hFx)
    clear hK K hV hx hFx
    replace hHeld := hHeld1
    clear hHeld1
    try simp only [Act.put, List.setIfInBounds_toArray, List.set_cons_zero, List.set_cons_succ]
    refine wpAnyH_ready (rs := [4, 8]) (by kernel_rfl) (by simp) ?_
    refine AllReadyH.cons (o := _) rfl (fun K hK => ?_) ?_
    · go_simp
      refine (T2.out _).mono ?_
      rintro r v3 ⟨rfl, hF5⟩
      (try go_wp2_with fail)
      refine hK.out _ _ ?_ (fun hHeld1 => ?_)
      · (try dsimp only); exact HX.out _ (hHeld.2.trans hF5)
      clear hK K
      try simp only [Act.put, List.setIfInBounds_toArray, List.set_cons_zero, List.set_cons_succ]
      replace hMb := hMb.fr hF5 (by simp)
      replace hHeld := hHeld1
      clear hF5 hHeld1
      refine wpAnyH_ready (rs := [6, 8]) (by kernel_rfl) (by simp) ?_
      refine AllReadyH.cons (o := _) rfl (fun K hK => ?_) ?_
      · go_simp
        refine (CN.out _ hHeld.2).mono ?_
        rintro r v4 ⟨Av, cc, rfl, hRA, hF5⟩
        (try go_wp2_with fail)
        refine hK.out _ _ ?_ (fun hHeld1 => ?_)
        · (try dsimp only); exact HX.out _ (hHeld.2.trans hF5)
        clear hK K
        try simp only [Act.put, List.setIfInBounds_toArray, List.set_cons_zero, List.set_cons_succ]
        replace hMb := hMb.fr hF5 (by simp)
        replace hHeld := hHeld1
        clear hF5 hHeld1
        refine wpAnyH_ready (rs := [8]) (by kernel_rfl) (by simp) ?_
        refine AllReadyH.cons (o := _) rfl (fun K hK => ?_) AllReadyH.nil
        go_simp
        (try go_wp2_with fail)
        have hFx : Fr [] v4 (v4.alloc (.map #[] 0)) := (Fr.refl _ _).alloc _
        have hMa : MapIs idE ptrV (v4.alloc (.map #[] 0)) v4.heap.size [] := MapIs.new _
        have hXa : w.heap.size ≤ v4.heap.size := Nat.le_trans HF3.out.size hHeld.2.size
        replace hRA := own_fr0 hRA hFx
        have hNe : v4.heap.size ≠ xb := by have := hMb.lt; omega
        replace hMb := hMb.fr hFx (by simp)
        obtain ⟨v5, hV⟩ : ∃ V, v4.alloc (.map #[] 0) = V := ⟨_, rfl⟩
        obtain ⟨xa, hx⟩ : ∃ b, v4.heap.size = b := ⟨_, rfl⟩
        rw [hV] at hFx hMa ⊢ hMb hRA
        rw [hx] at hMa hXa ⊢ hNe
        refine hK.out _ _ ?_ (fun hHeld1 => ?_)
        · (try dsimp only); exact HX.out _ (hHeld.2.trans hFx)
        clear hK K hV hx hFx
        replace hHeld := hHeld1
        clear hHeld1
        try simp only [Act.put, List.setIfInBounds_toArray, List.set_cons_zero, List.set_cons_succ]
        refine take_yes 10 48 rfl rfl (by kernel_rfl) (by kernel_rfl) (by kernel_rfl) (fun _ _ _ h => h) (by rfl) (by assumption) (v := ?_) ?_ ?_
        rotate_left
        · intro w hSw; (try dsimp only at hSw); go_simp; (try with_reducible rfl)
        try simp only [Act.put, List.setIfInBounds_toArray, List.set_cons_zero, List.set_cons_succ]
        refine wpAnyH_ready (rs := [11]) (by kernel_rfl) (by simp) ?_
        refine AllReadyH.cons (o := _) rfl (fun K hK => ?_) AllReadyH.nil
        go_simp
        (try go_wp2_with fail)
        have hFz : Fr [] v5 (v5.alloc (.cells #[.int .u8 m1, .int .u8 m2, .int .u8 m3, .int .u8 m4, .int .u8 m5, .int .u8 m6, .string (B nm), .string (B sec), .slice Av l.length cc, .int .i64 most, .map (some xa), .map (some xb), .int .u16 0, .slice none 0 0] 85 (0, 0))) := (Fr.refl _ _).alloc _
        have hFw := hHeld.2.trans hFz
        have HZ : Hid (NewS w ⟨m1, m2, m3, m4, m5, m6⟩ nm sec most l (.returned (.tuple #[.pointer (some ⟨v5.heap.size, 0, none⟩), .int .i64 0])) (v5.alloc (.cells #[.int .u8 m1, .int .u8 m2, .int .u8 m3, .int .u8 m4, .int .u8 m5, .int .u8 m6, .string (B nm), .string (B sec), .slice Av l.length cc, .int .i64 most, .map (some xa), .map (some xb), .int .u16 0, .slice none 0 0] 85 (0, 0)))) := Lib.hid (newS_of (HF3.out.trans hHeld.2) hMa hMb hNe hXa hXb hRA (Blk.new _ _ _))
        refine hK.out _ _ ?_ (fun hHeld1 => ?_)
        · (try dsimp only); exact HX.out _ hFw
        clear hK K hFz hFw hMa hMb hNe hXa hXb hRA
        try simp only [Act.put, List.setIfInBounds_toArray, List.set_cons_zero, List.set_cons_succ]
        refine take_yes 12 10 rfl rfl (by kernel_rfl) (by kernel_rfl) (by kernel_rfl) (fun _ _ _ h => h) (by rfl) (by assumption) (v := ?_) ?_ ?_
        rotate_left
        · intro w hSw; (try dsimp only at hSw); go_simp; (try with_reducible rfl)
        try simp only [Act.put, List.setIfInBounds_toArray, List.set_cons_zero, List.set_cons_succ]
        refine take_yes 13 11 rfl rfl (by kernel_rfl) (by kernel_rfl) (by kernel_rfl) (fun _ _ _ h => h) (by rfl) (by assumption) (v := ?_) ?_ ?_
        rotate_left
        · intro w hSw; (try dsimp only at hSw); go_simp; (try with_reducible rfl)
        try simp only [Act.put, List.setIfInBounds_toArray, List.set_cons_zero, List.set_cons_succ]
        refine wpAnyH_done (by kernel_rfl) ?_ _
        clear HX
        go_wp2_with fail
        go_ret2
        exact HQQ.out _ _ HZ.out
      refine AllReadyH.cons (o := _) rfl (fun K hK => ?_) AllReadyH.nil
      go_simp
      (try go_wp2_with fail)
      have hFx : Fr [] v3 (v3.alloc (.map #[] 0)) := (Fr.refl _ _).alloc _
      have hMa : MapIs idE ptrV (v3.alloc (.map #[] 0)) v3.heap.size [] := MapIs.new _
      have hXa : w.heap.size ≤ v3.heap.size := Nat.le_trans HF3.out.size hHeld.2.size
      have hNe : v3.heap.size ≠ xb := by have := hMb.lt; omega
      replace hMb := hMb.fr hFx (by simp)
      obtain ⟨v4, hV⟩ : ∃ V, v3.alloc (.map #[] 0) = V := ⟨_, rfl⟩
      obtain ⟨xa, hx⟩ : ∃ b, v3.heap.size = b := ⟨_, rfl⟩
      rw [hV] at hFx hMa ⊢ hMb
      rw [hx] at hMa hXa ⊢ hNe
      refine hK.out _ _ ?_ (fun hHeld1 => ?_)
      · (try dsimp only); exact HX.out _ (hHeld.2.trans hFx)
      clear hK K hV hx hFx
      replace hHeld := hHeld1
      clear hHeld1
      try simp only [Act.put, List.setIfInBounds_toArray, List.set_cons_zero, List.set_cons_succ]
      refine wpAnyH_ready (rs := [6]) (by kernel_rfl) (by simp) ?_
      refine AllReadyH.cons (o := _) rfl (fun K hK => ?_) AllReadyH.nil
      go_simp
      refine (CN.out _ hHeld.2).mono ?_
      rintro r v5 ⟨Av, cc, rfl, hRA, hF5⟩
      (try go_wp2_with fail)
      refine hK.out _ _ ?_ (fun hHeld1 => ?_)
      · (try dsimp only); exact HX.out _ (hHeld.2.trans hF5)
      clear hK K
      try simp only [Act.put, List.setIfInBounds_toArray, List.set_cons_zero, List.set_cons_succ]
      replace hMa := hMa.fr hF5 (by simp)
      replace hMb := hMb.fr hF5 (by simp)
      replace hHeld := hHeld1
      clear hF5 hHeld1
      refine take_yes 10 48 rfl rfl (by kernel_rfl) (by kernel_rfl) (by kernel_rfl) (fun _ _ _ h => h) (by rfl) (by assumption) (v := ?_) ?_ ?_
      rotate_left
      · intro w hSw; (try dsimp only at hSw); go_simp; (try with_reducible rfl)
      try simp only [Act.put, List.setIfInBounds_toArray, List.set_cons_zero, List.set_cons_succ]
      refine wpAnyH_ready (rs := [11]) (by kernel_rfl) (by simp) ?_
      refine AllReadyH.cons (o := _) rfl (fun K hK => ?_) AllReadyH.nil
      go_simp
      (try go_wp2_with fail)
      have hFz : Fr [] v5 (v5.alloc (.cells #[.int .u8 m1, .int .u8 m2, .int .u8 m3, .int .u8 m4, .int .u8 m5, .int .u8 m6, .string (B nm), .string (B sec), .slice Av l.length cc, .int .i64 most, .map (some xa), .map (some xb), .int .u16 0, .slice none 0 0] 85 (0, 0))) := (Fr.refl _ _).alloc _
      have hFw := hHeld.2.trans hFz
      have HZ : Hid (NewS w ⟨m1, m2, m3, m4, m5, m6⟩ nm sec most l (.returned (.tuple #[.pointer (some ⟨v5.heap.size, 0, none⟩), .int .i64 0])) (v5.alloc (.cells #[.int .u8 m1, .int .u8 m2, .int .u8 m3, .int .u8 m4, .int .u8 m5, .int .u8 m6, .string (B nm), .string (B sec), .slice Av l.length cc, .int .i64 most, .map (some xa), .map (some xb), .int .u16 0, .slice none 0 0] 85 (0, 0)))) := Lib.hid (newS_of (HF3.out.trans hHeld.2) hMa hMb hNe hXa hXb hRA (Blk.new _ _ _))
      refine hK.out _ _ ?_ (fun hHeld1 => ?_)
      · (try dsimp only); exact HX.out _ hFw
      clear hK K hFz hFw hMa hMb hNe hXa hXb hRA
      try simp only [Act.put, List.setIfInBounds_toArray, List.set_cons_zero, List.set_cons_succ]
      refine take_yes 12 10 rfl rfl (by kernel_rfl) (by kernel_rfl) (by kernel_rfl) (fun _ _ _ h => h) (by rfl) (by assumption) (v := ?_) ?_ ?_
      rotate_left
      · intro w hSw; (try dsimp only at hSw); go_simp; (try with_reducible rfl)
      try simp only [Act.put, List.setIfInBounds_toArray, List.set_cons_zero, List.set_cons_succ]
      refine take_yes 13 11 rfl rfl (by kernel_rfl) (by kernel_rfl) (by kernel_rfl) (fun _ _ _ h => h) (by rfl) (by assumption) (v := ?_) ?_ ?_
      rotate_left
      · intro w hSw; (try dsimp only at hSw); go_simp; (try with_reducible rfl)
      try simp only [Act.put, List.setIfInBounds_toArray, List.set_cons_zero, List.set_cons_succ]
      refine wpAnyH_done (by kernel_rfl) ?_ _
      clear HX
      go_wp2_with fail
      go_ret2
      exact HQQ.out _ _ HZ.out
    refine AllReadyH.cons (o := _) rfl (fun K hK => ?_) AllReadyH.nil
    go_simp
    (try go_wp2_with fail)
    have hFx : Fr [] v2 (v2.alloc (.map #[] 0)) := (Fr.refl _ _).alloc _
    have hMa : MapIs idE ptrV (v2.alloc (.map #[] 0)) v2.heap.size [] := MapIs.new _
    have hXa : w.heap.size ≤ v2.heap.size := Nat.le_trans HF3.out.size hHeld.2.size
    have hNe : v2.heap.size ≠ xb := by have := hMb.lt; omega
    replace hMb := hMb.fr hFx (by simp)
    obtain ⟨v3, hV⟩ : ∃ V, v2.alloc (.map #[] 0) = V := ⟨_, rfl⟩
    obtain ⟨xa, hx⟩ : ∃ b, v2.heap.size = b := ⟨_, rfl⟩
    rw [hV] at hFx hMa ⊢ hMb
    rw [hx] at hMa hXa ⊢ hNe
    refine hK.out _ _ ?_ (fun hHeld1 => ?_)
    · (try dsimp only); exact HX.out _ (hHeld.2.trans hFx)
    clear hK K hV hx hFx
    replace hHeld := hHeld1
    clear hHeld1
    try simp only [Act.put, List.setIfInBounds_toArray, List.set_cons_zero, List.set_cons_succ]
    refine wpAnyH_ready (rs := [4]) (by kernel_rfl) (by simp) ?_
    refine AllReadyH.cons (o := _) rfl (fun K hK => ?_) AllReadyH.nil
    go_simp
    refine (T2.out _).mono ?_
    rintro r v4 ⟨rfl, hF5⟩
    (try go_wp2_with fail)
    refine hK.out _ _ ?_ (fun hHeld1 => ?_)
    · (try dsimp only); exact HX.out _ (hHeld.2.trans hF5)
    clear hK K
    try simp only [Act.put, List.setIfInBounds_toArray, List.set_cons_zero, List.set_cons_succ]
    replace hMa := hMa.fr hF5 (by simp)
    replace hMb := hMb.fr hF5 (by simp)
    replace hHeld := hHeld1
    clear hF5 hHeld1
    refine wpAnyH_ready (rs := [6]) (by kernel_rfl) (by simp) ?_
    refine AllReadyH.cons (o := _) rfl (fun K hK => ?_) AllReadyH.nil
    go_simp
    refine (CN.out _ hHeld.2).mono ?_
    rintro r v5 ⟨Av, cc, rfl, hRA, hF5⟩
    (try go_wp2_with fail)
    refine hK.out _ _ ?_ (fun hHeld1 => ?_)
    · (try dsimp only); exact HX.out _ (hHeld.2.trans hF5)
    clear hK K
    try simp only [Act.put, List.setIfInBounds_toArray, List.set_cons_zero, List.set_cons_succ]
    replace hMa := hMa.fr hF5 (by simp)
    replace hMb := hMb.fr hF5 (by simp)
    replace hHeld := hHeld1
    clear hF5 hHeld1
    refine take_yes 10 48 rfl rfl (by kernel_rfl) (by kernel_rfl) (by kernel_rfl) (fun _ _ _ h => h) (by rfl) (by assumption) (v := ?_) ?_ ?_
    rotate_left
    · intro w hSw; (try dsimp only at hSw); go_simp; (try with_reducible rfl)
    try simp only [Act.put, List.setIfInBounds_toArray, List.set_cons_zero, List.set_cons_succ]
    refine wpAnyH_ready (rs := [11]) (by kernel_rfl) (by simp) ?_
    refine AllReadyH.cons (o := _) rfl (fun K hK => ?_) AllReadyH.nil
    go_simp
    (try go_wp2_with fail)
    have hFz : Fr [] v5 (v5.alloc (.cells #[.int .u8 m1, .int .u8 m2, .int .u8 m3, .int .u8 m4, .int .u8 m5, .int .u8 m6, .string (B nm), .string (B sec), .slice Av l.length cc, .int .i64 most, .map (some xa), .map (some xb), .int .u16 0, .slice none 0 0] 85 (0, 0))) := (Fr.refl _ _).alloc _
    have hFw := hHeld.2.trans hFz
    have HZ : Hid (NewS w ⟨m1, m2, m3, m4, m5, m6⟩ nm sec most l (.returned (.tuple #[.pointer (some ⟨v5.heap.size, 0, none⟩), .int .i64 0])) (v5.alloc (.cells #[.int .u8 m1, .int .u8 m2, .int .u8 m3, .int .u8 m4, .int .u8 m5, .int .u8 m6, .string (B nm), .string (B sec), .slice Av l.length cc, .int .i64 most, .map (some xa), .map (some xb), .int .u16 0, .slice none 0 0] 85 (0, 0)))) := Lib.hid (newS_of (HF3.out.trans hHeld.2) hMa hMb hNe hXa hXb hRA (Blk.new _ _ _))
    refine hK.out _ _ ?_ (fun hHeld1 => ?_)
    · (try dsimp only); exact HX.out _ hFw
    clear hK K hFz hFw hMa hMb hNe hXa hXb hRA
    try simp only [Act.put, List.setIfInBounds_toArray, List.set_cons_zero, List.set_cons_succ]
    refine take_yes 12 10 rfl rfl (by kernel_rfl) (by kernel_rfl) (by kernel_rfl) (fun _ _ _ h => h) (by rfl) (by assumption) (v := ?_) ?_ ?_
    rotate_left
    · intro w hSw; (try dsimp only at hSw); go_simp; (try with_reducible rfl)
    try simp only [Act.put, List.setIfInBounds_toArray, List.set_cons_zero, List.set_cons_succ]
    refine take_yes 13 11 rfl rfl (by kernel_rfl) (by kernel_rfl) (by kernel_rfl) (fun _ _ _ h => h) (by rfl) (by assumption) (v := ?_) ?_ ?_
    rotate_left
    · intro w hSw; (try dsimp only at hSw); go_simp; (try with_reducible rfl)
    try simp only [Act.put, List.setIfInBounds_toArray, List.set_cons_zero, List.set_cons_succ]
    refine wpAnyH_done (by kernel_rfl) ?_ _
    clear HX
    go_wp2_with fail
    go_ret2
    exact HQQ.out _ _ HZ.out
  refine AllReadyH.cons (o := _) rfl (fun K hK => ?_) ?_
  · go_simp
    (try go_wp2_with fail)
    have hFx : Fr [] v0 (v0.alloc (.map #[] 0)) := (Fr.refl _ _).alloc _
    have hMa : MapIs idE ptrV (v0.alloc (.map #[] 0)) v0.heap.size [] := MapIs.new _
    have hXa : w.heap.size ≤ v0.heap.size := Nat.le_trans HF3.out.size hHeld.2.size
    obtain ⟨v1, hV⟩ : ∃ V, v0.alloc (.map #[] 0) = V := ⟨_, rfl⟩
    obtain ⟨xa, hx⟩ : ∃ b, v0.heap.size = b := ⟨_, rfl⟩
    rw [hV] at hFx hMa ⊢
    rw [hx] at hMa hXa ⊢
    refine hK.out _ _ ?_ (fun hHeld1 => ?_)
    · (try dsimp only); exact HX.out _ (hHeld.2.trans hFx)
    clear hK K hV hx hFx
    replace hHeld := hHeld1
    clear hHeld1
    try simp only [Act.put, List.setIfInBounds_toArray, List.set_cons_zero, List.set_cons_succ]
    refine wpAnyH_ready (rs := [2, 9]) (by kernel_rfl) (by simp) ?_
    refine AllReadyH.cons (o := _) rfl (fun K hK => ?_) ?_
    · go_simp
      refine (T1.out _).mono ?_
      rintro r v2 ⟨rfl, hF5⟩
      (try go_wp2_with fail)
      refine hK.out _ _ ?_ (fun hHeld1 => ?_)
      · (try dsimp only); exact HX.out _ (hHeld.2.trans hF5)
      clear hK K
      try simp only [Act.put, List.setIfInBounds_toArray, List.set_cons_zero, List.set_cons_succ]
      replace hMa := hMa.fr hF5 (by simp)
      replace hHeld := hHeld1
      clear hF5 hHeld1
      refine wpAnyH_ready (rs := [4, 9]) (by kernel_rfl) (by simp) ?_
      refine AllReadyH.cons (o := _) rfl (fun K hK => ?_) ?_
      · go_simp
        refine (T2.out _).mono ?_
        rintro r v3 ⟨rfl, hF5⟩
        (try go_wp2_with fail)
        refine hK.out _ _ ?_ (fun hHeld1 => ?_)
        · (try dsimp only); exact HX.out _ (hHeld.2.trans hF5)
        clear hK K
        try simp only [Act.put, List.setIfInBounds_toArray, List.set_cons_zero, List.set_cons_succ]
        replace hMa := hMa.fr hF5 (by simp)
        replace hHeld := hHeld1
        clear hF5 hHeld1
        refine wpAnyH_ready (rs := [6, 9]) (by kernel_rfl) (by simp) ?_
        refine AllReadyH.cons (o := _) rfl (fun K hK => ?_) ?_
        · go_simp
          refine (CN.out _ hHeld.2).mono ?_
          rintro r v4 ⟨Av, cc, rfl, hRA, hF5⟩
          (try go_wp2_with fail)
          refine hK.out _ _ ?_ (fun hHeld1 => ?_)
          · (try dsimp only); exact HX.out _ (hHeld.2.trans hF5)
          clear hK K
          try simp only [Act.put, List.setIfInBounds_toArray, List.set_cons_zero, List.set_cons_succ]
          replace hMa := hMa.fr hF5 (by simp)
          replace hHeld := hHeld1
          clear hF5 hHeld1
          refine wpAnyH_ready (rs := [9]) (by kernel_rfl) (by simp) ?_
          refine AllReadyH.cons (o := _) rfl (fun K hK => ?_) AllReadyH.nil
          go_simp
          (try go_wp2_with fail)
          have hFx : Fr [] v4 (v4.alloc (.map #[] 0)) := (Fr.refl _ _).alloc _
          have hMb : MapIs intE unitV (v4.alloc (.map #[] 0)) v4.heap.size [] := MapIs.new _
          have hXb : w.heap.size ≤ v4.heap.size := Nat.le_trans HF3.out.size hHeld.2.size
          replace hRA := own_fr0 hRA hFx
          have hNe : xa ≠ v4.heap.size := by have := hMa.lt; omega
          replace hMa := hMa.fr hFx (by simp)
          obtain ⟨v5, hV⟩ : ∃ V, v4.alloc (.map #[] 0) = V := ⟨_, rfl⟩
          obtain ⟨xb, hx⟩ : ∃ b, v4.heap.size = b := ⟨_, rfl⟩
          rw [hV] at hFx hMb ⊢ hMa hRA
          rw [hx] at hMb hXb ⊢ hNe
          refine hK.out _ _ ?_ (fun hHeld1 => ?_)
          · (try dsimp only); exact HX.out _ (hHeld.2.trans hFx)
          clear hK K hV hx hFx
          replace hHeld := hHeld1
          clear hHeld1
          try simp only [Act.put, List.setIfInBounds_toArray, List.set_cons_zero, List.set_cons_succ]
          refine take_yes 10 48 rfl rfl (by kernel_rfl) (by kernel_rfl) (by kernel_rfl) (fun _ _ _ h => h) (by rfl) (by assumption) (v := ?_) ?_ ?_
          rotate_left
          · intro w hSw; (try dsimp only at hSw); go_simp; (try with_reducible rfl)
          try simp only [Act.put, List.setIfInBounds_toArray, List.set_cons_zero, List.set_cons_succ]
          refine wpAnyH_ready (rs := [11]) (by kernel_rfl) (by simp) ?_
          refine AllReadyH.cons (o := _) rfl (fun K hK => ?_) AllReadyH.nil
          go_simp
          (try go_wp2_with fail)
          have hFz : Fr [] v5 (v5.alloc (.cells #[.int .u8 m1, .int .u8 m2, .int .u8 m3, .int .u8 m4, .int .u8 m5, .int .u8 m6, .string (B nm), .string (B sec), .slice Av l.length cc, .int .i64 most, .map (some xa), .map (some xb), .int .u16 0, .slice none 0 0] 85 (0, 0))) := (Fr.refl _ _).alloc _
          have hFw := hHeld.2.trans hFz
          have HZ : Hid (NewS w ⟨m1, m2, m3, m4, m5, m6⟩ nm sec most l (.returned (.tuple #[.pointer (some ⟨v5.heap.size, 0, none⟩), .int .i64 0])) (v5.alloc (.cells #[.int .u8 m1, .int .u8 m2, .int .u8 m3, .int .u8 m4, .int .u8 m5, .int .u8 m6, .string (B nm), .string (B sec), .slice Av l.length cc, .int .i64 most, .map (some xa), .map (some xb), .int .u16 0, .slice none 0 0] 85 (0, 0)))) := Lib.hid (newS_of (HF3.out.trans hHeld.2) hMa hMb hNe hXa hXb hRA (Blk.new _ _ _))
          refine hK.out _ _ ?_ (fun hHeld1 => ?_)
          · (try dsimp only); exact HX.out _ hFw
          clear hK K hFz hFw hMa hMb hNe hXa hXb hRA
          try simp only [Act.put, List.setIfInBounds_toArray, List.set_cons_zero, List.set_cons_succ]
          refine take_yes 12 10 rfl rfl (by kernel_rfl) (by kernel_rfl) (by kernel_rfl) (fun _ _ _ h => h) (by rfl) (by assumption) (v := ?_) ?_ ?_
          rotate_left
          · intro w hSw; (try dsimp only at hSw); go_simp; (try with_reducible rfl)
          try simp only [Act.put, List.setIfInBounds_toArray, List.set_cons_zero, List.set_cons_succ]
          refine take_yes 13 11 rfl rfl (by kernel_rfl) (by kernel_rfl) (by kernel_rfl) (fun _ _ _ h => h) (by rfl) (by assumption) (v := ?_) ?_ ?_
          rotate_left
          · intro w hSw; (try dsimp only at hSw); go_simp; (try with_reducible rfl)
          try simp only [Act.put, List.setIfInBounds_toArray, List.set_cons_zero, List.set_cons_succ]
          refine wpAnyH_done (by kernel_rfl) ?_ _
          clear HX
          go_wp2_with fail
          go_ret2
          exact HQQ.out _ _ HZ.out
        refine AllReadyH.cons (o := _) rfl (fun K hK => ?_) AllReadyH.nil
        go_simp
        (try go_wp2_with fail)
        have hFx : Fr [] v3 (v3.alloc (.map #[] 0)) := (Fr.refl _ _).alloc _
        have hMb : MapIs intE unitV (v3.alloc (.map #[] 0)) v3.heap.size [] := MapIs.new _
        have hXb : w.heap.size ≤ v3.heap.size := Nat.le_trans HF3.out.size hHeld.2.size
        have hNe : xa ≠ v3.heap.size := by have := hMa.lt; omega
        replace hMa := hMa.fr hFx (by simp)
        obtain ⟨v4, hV⟩ : ∃ V, v3.alloc (.map #[] 0) = V := ⟨_, rfl⟩
        obtain ⟨xb, hx⟩ : ∃ b, v3.heap.size = b := ⟨_, rfl⟩
        rw [hV] at hFx hMb ⊢ hMa
        rw [hx] at hMb hXb ⊢ hNe
        refine hK.out _ _ ?_ (fun hHeld1 => ?_)
        · (try dsimp only); exact HX.out _ (hHeld.2.trans hFx)
        clear hK K hV hx hFx
        replace hHeld := hHeld1
        clear hHeld1
        try simp only [Act.put, List.setIfInBounds_toArray, List.set_cons_zero, List.set_cons_succ]
        refine wpAnyH_ready (rs := [6]) (by kernel_rfl) (by simp) ?_
        refine AllReadyH.cons (o := _) rfl (fun K hK => ?_) AllReadyH.nil
        go_simp
        refine (CN.out _ hHeld.2).mono ?_
        rintro r v5 ⟨Av, cc, rfl, hRA, hF5⟩
        (try go_wp2_with fail)
        refine hK.out _ _ ?_ (fun hHeld1 => ?_)
        · (try dsimp only); exact HX.out _ (hHeld.2.trans hF5)
        clear hK K
        try simp only [Act.put, List.setIfInBounds_toArray, List.set_cons_zero, List.set_cons_succ]
        replace hMa := hMa.fr hF5 (by simp)
        replace hMb := hMb.fr hF5 (by simp)
        replace hHeld := hHeld1
        clear hF5 hHeld1
        refine take_yes 10 48 rfl rfl (by kernel_rfl) (by kernel_rfl) (by kernel_rfl) (fun _ _ _ h => h) (by rfl) (by assumption) (v := ?_) ?_ ?_
        rotate_left
        · intro w hSw; (try dsimp only at hSw); go_simp; (try with_reducible rfl)
        try simp only [Act.put, List.setIfInBounds_toArray, List.set_cons_zero, List.set_cons_succ]
        refine wpAnyH_ready (rs := [11]) (by kernel_rfl) (by simp) ?_
        refine AllReadyH.cons (o := _) rfl (fun K hK => ?_) AllReadyH.nil
        go_simp
        (try go_wp2_with fail)
        have hFz : Fr [] v5 (v5.alloc (.cells #[.int .u8 m1, .int .u8 m2, .int .u8 m3, .int .u8 m4, .int .u8 m5, .int .u8 m6, .string (B nm), .string (B sec), .slice Av l.length cc, .int .i64 most, .map (some xa), .map (some xb), .int .u16 0, .slice none 0 0] 85 (0, 0))) := (Fr.refl _ _).alloc _
        have hFw := hHeld.2.trans hFz
        have HZ : Hid (NewS w ⟨m1, m2, m3, m4, m5, m6⟩ nm sec most l (.returned (.tuple #[.pointer (some ⟨v5.heap.size, 0, none⟩), .int .i64 0])) (v5.alloc (.cells #[.int .u8 m1, .int .u8 m2, .int .u8 m3, .int .u8 m4, .int .u8 m5, .int .u8 m6, .string (B nm), .string (B sec), .slice Av l.length cc, .int .i64 most, .map (some xa), .map (some xb), .int .u16 0, .slice none 0 0] 85 (0, 0)))) := Lib.hid (newS_of (HF3.out.trans hHeld.2) hMa hMb hNe hXa hXb hRA (Blk.new _ _ _))
        refine hK.out _ _ ?_ (fun hHeld1 => ?_)
        · (try dsimp only); exact HX.out _ hFw
        clear hK K hFz hFw hMa hMb hNe hXa hXb hRA
        try simp only [Act.put, List.setIfInBounds_toArray, List.set_cons_zero, List.set_cons_succ]
        refine take_yes 12 10 rfl rfl (by kernel_rfl) (by kernel_rfl) (by kernel_rfl) (fun _ _ _ h => h) (by rfl) (by assumption) (v := ?_) ?_ ?_
        rotate_left
        · intro w hSw; (try dsimp only at hSw); go_simp; (try with_reducible rfl)
        try simp only [Act.put, List.setIfInBounds_toArray, List.set_cons_zero, List.set_cons_succ]
        refine take_yes 13 11 rfl rfl (by kernel_rfl) (by kernel_rfl) (by kernel_rfl) (fun _ _ _ h => h) (by rfl) (by assumption) (v := ?_) ?_ ?_
        rotate_left
        · intro w hSw; (try dsimp only at hSw); go_simp; (try with_reducible rfl)
        try simp only [Act.put, List.setIfInBounds_toArray, List.set_cons_zero, List.set_cons_succ]
        refine wpAnyH_done (by kernel_rfl) ?_ _
        clear HX
        go_wp2_with fail
        go_ret2
        exact HQQ.out _ _ HZ.out
      refine AllReadyH.cons (o := _) rfl (fun K hK => ?_) AllReadyH.nil
      go_simp
      (try go_wp2_with fail)
      have hFx : Fr [] v2 (v2.alloc (.map #[] 0)) := (Fr.refl _ _).alloc _
      have hMb : MapIs intE unitV (v2.alloc (.map #[] 0)) v2.heap.size [] := MapIs.new _
      have hXb : w.heap.size ≤ v2.heap.size := Nat.le_trans HF3.out.size hHeld.2.size
      have hNe : xa ≠ v2.heap.size := by have := hMa.lt; omega
      replace hMa := hMa.fr hFx (by simp)
      obtain ⟨v3, hV⟩ : ∃ V, v2.alloc (.map #[] 0) = V := ⟨_, rfl⟩
      obtain ⟨xb, hx⟩ : ∃ b, v2.heap.size = b := ⟨_, rfl⟩
      rw [hV] at hFx hMb ⊢ hMa
      rw [hx] at hMb hXb ⊢ hNe
      refine hK.out _ _ ?_ (fun hHeld1 => ?_)
      · (try dsimp only); exact HX.out _ (hHeld.2.trans hFx)
      clear hK K hV hx hFx
      replace hHeld := hHeld1
      clear hHeld1
      try simp only [Act.put, List.setIfInBounds_toArray, List.set_cons_zero, List.set_cons_succ]
      refine wpAnyH_ready (rs := [4]) (by kernel_rfl) (by simp) ?_
      refine AllReadyH.cons (o := _) rfl (fun K hK => ?_) AllReadyH.nil
      go_simp
      refine (T2.out _).mono ?_
      rintro r v4 ⟨rfl, hF5⟩
      (try go_wp2_with fail)
      refine hK.out _ _ ?_ (fun hHeld1 => ?_)
      · (try dsimp only); exact HX.out _ (hHeld.2.trans hF5)
      clear hK K
      try simp only [Act.put, List.setIfInBounds_toArray, List.set_cons_zero, List.set_cons_succ]
      replace hMa := hMa.fr hF5 (by simp)
      replace hMb := hMb.fr hF5 (by simp)
      replace hHeld := hHeld1
      clear hF5 hHeld1
      refine wpAnyH_ready (rs := [6]) (by kernel_rfl) (by simp) ?_
      refine AllReadyH.cons (o := _) rfl (fun K hK => ?_) AllReadyH.nil
      go_simp
      refine (CN.out _ hHeld.2).mono ?_
      rintro r v5 ⟨Av, cc, rfl, hRA, hF5⟩
      (try go_wp2_with fail)
      refine hK.out _ _ ?_ (fun hHeld1 => ?_)
      · (try dsimp only); exact HX.out _ (hHeld.2.trans hF5)
      clear hK K
      try simp only [Act.put, List.setIfInBounds_toArray, List.set_cons_zero, List.set_cons_succ]
      replace hMa := hMa.fr hF5 (by simp)
      replace hMb := hMb.fr hF5 (by simp)
      replace hHeld := hHeld1
      clear hF5 hHeld1
      refine take_yes 10 48 rfl rfl (by kernel_rfl) (by kernel_rfl) (by kernel_rfl) (fun _ _ _ h => h) (by rfl) (by assumption) (v := ?_) ?_ ?_
      rotate_left
      · intro w hSw; (try dsimp only at hSw); go_simp; (try with_reducible rfl)
      try simp only [Act.put, List.setIfInBounds_toArray, List.set_cons_zero, List.set_cons_succ]
      refine wpAnyH_ready (rs := [11]) (by kernel_rfl) (by simp) ?_
      refine AllReadyH.cons (o := _) rfl (fun K hK => ?_) AllReadyH.nil
      go_simp
      (try go_wp2_with fail)
      have hFz : Fr [] v5 (v5.alloc (.cells #[.int .u8 m1, .int .u8 m2, .int .u8 m3, .int .u8 m4, .int .u8 m5, .int .u8 m6, .string (B nm), .string (B sec), .slice Av l.length cc, .int .i64 most, .map (some xa), .map (some xb), .int .u16 0, .slice none 0 0] 85 (0, 0))) := (Fr.refl _ _).alloc _
      have hFw := hHeld.2.trans hFz
      have HZ : Hid (NewS w ⟨m1, m2, m3, m4, m5, m6⟩ nm sec most l (.returned (.tuple #[.pointer (some ⟨v5.heap.size, 0, none⟩), .int .i64 0])) (v5.alloc (.cells #[.int .u8 m1, .int .u8 m2, .int .u8 m3, .int .u8 m4, .int .u8 m5, .int .u8 m6, .string (B nm), .string (B sec), .slice Av l.length cc, .int .i64 most, .map (some xa), .map (some xb), .int .u16 0, .slice none 0 0] 85 (0, 0)))) := Lib.hid (newS_of (HF3.out.trans hHeld.2) hMa hMb hNe hXa hXb hRA (Blk.new _ _ _))
      refine hK.out _ _ ?_ (fun hHeld1 => ?_)
      · (try dsimp only); exact HX.out _ hFw
      clear hK K hFz hFw hMa hMb hNe hXa hXb hRA
      try simp only [Act.put, List.setIfInBounds_toArray, List.set_cons_zero, List.set_cons_succ]
      refine take_yes 12 10 rfl rfl (by kernel_rfl) (by kernel_rfl) (by kernel_rfl) (fun _ _ _ h => h) (by rfl) (by assumption) (v := ?_) ?_ ?_
      rotate_left
      · intro w hSw; (try dsimp only at hSw); go_simp; (try with_reducible rfl)
      try simp only [Act.put, List.setIfInBounds_toArray, List.set_cons_zero, List.set_cons_succ]
      refine take_yes 13 11 rfl rfl (by kernel_rfl) (by kernel_rfl) (by kernel_rfl) (fun _ _ _ h => h) (by rfl) (by assumption) (v := ?_) ?_ ?_
      rotate_left
      · intro w hSw; (try dsimp only at hSw); go_simp; (try with_reducible rfl)
      try simp only [Act.put, List.setIfInBounds_toArray, List.set_cons_zero, List.set_cons_succ]
      refine wpAnyH_done (by kernel_rfl) ?_ _
      clear HX
      go_wp2_with fail
      go_ret2
      exact HQQ.out _ _ HZ.out
    refine AllReadyH.cons (o := _) rfl (fun K hK => ?_) AllReadyH.nil
    go_simp
    (try go_wp2_with fail)
    have hFx : Fr [] v1 (v1.alloc (.map #[] 0)) := (Fr.refl _ _).alloc _
    have hMb : MapIs intE unitV (v1.alloc (.map #[] 0)) v1.heap.size [] := MapIs.new _
    have hXb : w.heap.size ≤ v1.heap.size := Nat.le_trans HF3.out.size hHeld.2.size
    have hNe : xa ≠ v1.heap.size := by have := hMa.lt; omega
    replace hMa := hMa.fr hFx (by simp)
    obtain ⟨v2, hV⟩ : ∃ V, v1.alloc (.map #[] 0) = V := ⟨_, rfl⟩
    obtain ⟨xb, hx⟩ : ∃ b, v1.heap.size = b := ⟨_, rfl⟩
    rw [hV] at hFx hMb ⊢ hMa
    rw [hx] at hMb hXb ⊢ hNe
    refine hK.out _ _ ?_ (fun hHeld1 => ?_)
    · (try dsimp only); exact HX.out _ (hHeld.2.trans hFx)
    clear hK K hV hx hFx
    replace hHeld := hHeld1
    clear hHeld1
    try simp only [Act.put, List.setIfInBounds_toArray, List.set_cons_zero, List.set_cons_succ]
    refine wpAnyH_ready (rs := [2]) (by kernel_rfl) (by simp) ?_
    refine AllReadyH.cons (o := _) rfl (fun K hK => ?_) AllReadyH.nil
    go_simp
    refine (T1.out _).mono ?_
    rintro r v3 ⟨rfl, hF5⟩
    (try go_wp2_with fail)
    refine hK.out _ _ ?_ (fun hHeld1 => ?_)
    · (try dsimp only); exact HX.out _ (hHeld.2.trans hF5)
    clear hK K
    try simp only [Act.put, List.setIfInBounds_toArray, List.set_cons_zero, List.set_cons_succ]
    replace hMa := hMa.fr hF5 (by simp)
    replace hMb := hMb.fr hF5 (by simp)
    replace hHeld := hHeld1
    clear hF5 hHeld1
    refine wpAnyH_ready (rs := [4]) (by kernel_rfl) (by simp) ?_
    refine AllReadyH.cons (o := _) rfl (fun K hK => ?_) AllReadyH.nil
    go_simp
    refine (T2.out _).mono ?_
    rintro r v4 ⟨rfl, hF5⟩
    (try go_wp2_with fail)
    refine hK.out _ _ ?_ (fun hHeld1 => ?_)
    · (try dsimp only); exact HX.out _ (hHeld.2.trans hF5)
    clear hK K
    try simp only [Act.put, List.setIfInBounds_toArray, List.set_cons_zero, List.set_cons_succ]
    replace hMa := hMa.fr hF5 (by simp)
    replace hMb := hMb.fr hF5 (by simp)
    replace hHeld := hHeld1
    clear hF5 hHeld1
    refine wpAnyH_ready (rs := [6]) (by kernel_rfl) (by simp) ?_
    refine AllReadyH.cons (o := _) rfl (fun K hK => ?_) AllReadyH.nil
    go_simp
    refine (CN.out _ hHeld.2).mono ?_
    rintro r v5 ⟨Av, cc, rfl, hRA, hF5⟩
    (try go_wp2_with fail)
    refine hK.out _ _ ?_ (fun hHeld1 => ?_)
    · (try dsimp only); exact HX.out _ (hHeld.2.trans hF5)
    clear hK K
    try simp only [Act.put, List.setIfInBounds_toArray, List.set_cons_zero, List.set_cons_succ]
    replace hMa := hMa.fr hF5 (by simp)
    replace hMb := hMb.fr hF5 (by simp)
    replace hHeld := hHeld1
    clear hF5 hHeld1
    refine take_yes 10 48 rfl rfl (by kernel_rfl) (by kernel_rfl) (by kernel_rfl) (fun _ _ _ h => h) (by rfl) (by assumption) (v := ?_) ?_ ?_
    rotate_left
    · intro w hSw; (try dsimp only at hSw); go_simp; (try with_reducible rfl)
    try simp only [Act.put, List.setIfInBounds_toArray, List.set_cons_zero, List.set_cons_succ]
    refine wpAnyH_ready (rs := [11]) (by kernel_rfl) (by simp) ?_
    refine AllReadyH.cons (o := _) rfl (fun K hK => ?_) AllReadyH.nil
    go_simp
    (try go_wp2_with fail)
    have hFz : Fr [] v5 (v5.alloc (.cells #[.int .u8 m1, .int .u8 m2, .int .u8 m3, .int .u8 m4, .int .u8 m5, .int .u8 m6, .string (B nm), .string (B sec), .slice Av l.length cc, .int .i64 most, .map (some xa), .map (some xb), .int .u16 0, .slice none 0 0] 85 (0, 0))) := (Fr.refl _ _).alloc _
    have hFw := hHeld.2.trans hFz
    have HZ : Hid (NewS w ⟨m1, m2, m3, m4, m5, m6⟩ nm sec most l (.returned (.tuple #[.pointer (some ⟨v5.heap.size, 0, none⟩), .int .i64 0])) (v5.alloc (.cells #[.int .u8 m1, .int .u8 m2, .int .u8 m3, .int .u8 m4, .int .u8 m5, .int .u8 m6, .string (B nm), .string (B sec), .slice Av l.length cc, .int .i64 most, .map (some xa), .map (some xb), .int .u16 0, .slice none 0 0] 85 (0, 0)))) := Lib.hid (newS_of (HF3.out.trans hHeld.2) hMa hMb hNe hXa hXb hRA (Blk.new _ _ _))
    refine hK.out _ _ ?_ (fun hHeld1 => ?_)
    · (try dsimp only); exact HX.out _ hFw
    clear hK K hFz hFw hMa hMb hNe hXa hXb hRA
    try simp only [Act.put, List.setIfInBounds_toArray, List.set_cons_zero, List.set_cons_succ]
    refine take_yes 12 10 rfl rfl (by kernel_rfl) (by kernel_rfl) (by kernel_rfl) (fun _ _ _ h => h) (by rfl) (by assumption) (v := ?_) ?_ ?_
    rotate_left
    · intro w hSw; (try dsimp only at hSw); go_simp; (try with_reducible rfl)
    try simp only [Act.put, List.setIfInBounds_toArray, List.set_cons_zero, List.set_cons_succ]
    refine take_yes 13 11 rfl rfl (by kernel_rfl) (by kernel_rfl) (by kernel_rfl) (fun _ _ _ h => h) (by rfl) (by assumption) (v := ?_) ?_ ?_
    rotate_left
    · intro w hSw; (try dsimp only at hSw); go_simp; (try with_reducible rfl)
    try simp only [Act.put, List.setIfInBounds_toArray, List.set_cons_zero, List.set_cons_succ]
    refine wpAnyH_done (by kernel_rfl) ?_ _
    clear HX
    go_wp2_with fail
    go_ret2
    exact HQQ.out _ _ HZ.out
  refine AllReadyH.cons (o := _) rfl (fun K hK => ?_) AllReadyH.nil
  go_simp
  (try go_wp2_with fail)
  have hFx : Fr [] v0 (v0.alloc (.map #[] 0)) := (Fr.refl _ _).alloc _
  have hMb : MapIs intE unitV (v0.alloc (.map #[] 0)) v0.heap.size [] := MapIs.new _
  have hXb : w.heap.size ≤ v0.heap.size := Nat.le_trans HF3.out.size hHeld.2.size
  obtain ⟨v1, hV⟩ : ∃ V, v0.alloc (.map #[] 0) = V := ⟨_, rfl⟩
  obtain ⟨xb, hx⟩ : ∃ b, v0.heap.size = b := ⟨_, rfl⟩
  rw [hV] at hFx hMb ⊢
  rw [hx] at hMb hXb ⊢
  refine hK.out _ _ ?_ (fun hHeld1 => ?_)
  · (try dsimp only); exact HX.out _ (hHeld.2.trans hFx)
  clear hK K hV hx hFx
  replace hHeld := hHeld1
  clear hHeld1
  try simp only [Act.put, List.setIfInBounds_toArray, List.set_cons_zero, List.set_cons_succ]
  refine wpAnyH_ready (rs := [2, 8]) (by kernel_rfl) (by simp) ?_
  refine AllReadyH.cons (o := _) rfl (fun K hK => ?_) ?_
  · go_simp
    refine (T1.out _).mono ?_
    rintro r v2 ⟨rfl, hF5⟩
    (try go_wp2_with fail)
    refine hK.out _ _ ?_ (fun hHeld1 => ?_)
    · (try dsimp only); exact HX.out _ (hHeld.2.trans hF5)
    clear hK K
    try simp only [Act.put, List.setIfInBounds_toArray, List.set_cons_zero, List.set_cons_succ]
    replace hMb := hMb.fr hF5 (by simp)
    replace hHeld := hHeld1
    clear hF5 hHeld1
    refine wpAnyH_ready (rs := [4, 8]) (by kernel_rfl) (by simp) ?_
    refine AllReadyH.cons (o := _) rfl (fun K hK => ?_) ?_
    · go_simp
      refine (T2.out _).mono ?_
      rintro r v3 ⟨rfl, hF5⟩
      (try go_wp2_with fail)
      refine hK.out _ _ ?_ (fun hHeld1 => ?_)
      · (try dsimp only); exact HX.out _ (hHeld.2.trans hF5)
      clear hK K
      try simp only [Act.put, List.setIfInBounds_toArray, List.set_cons_zero, List.set_cons_succ]
      replace hMb := hMb.fr hF5 (by simp)
      replace hHeld := hHeld1
      clear hF5 hHeld1
      refine wpAnyH_ready (rs := [6, 8]) (by kernel_rfl) (by simp) ?_
      refine AllReadyH.cons (o := _) rfl (fun K hK => ?_) ?_
      · go_simp
        refine (CN.out _ hHeld.2).mono ?_
        rintro r v4 ⟨Av, cc, rfl, hRA, hF5⟩
        (try go_wp2_with fail)
        refine hK.out _ _ ?_ (fun hHeld1 => ?_)
        · (try dsimp only); exact HX.out _ (hHeld.2.trans hF5)
        clear hK K
        try simp only [Act.put, List.setIfInBounds_toArray, List.set_cons_zero, List.set_cons_succ]
        replace hMb := hMb.fr hF5 (by simp)
        replace hHeld := hHeld1
        clear hF5 hHeld1
        refine wpAnyH_ready (rs := [8]) (by kernel_rfl) (by simp) ?_
        refine AllReadyH.cons (o := _) rfl (fun K hK => ?_) AllReadyH.nil
        go_simp
        (try go_wp2_with fail)
        have hFx : Fr [] v4 (v4.alloc (.map #[] 0)) := (Fr.refl _ _).alloc _
        have hMa : MapIs idE ptrV (v4.alloc (.map #[] 0)) v4.heap.size [] := MapIs.new _
        have hXa : w.heap.size ≤ v4.heap.size := Nat.le_trans HF3.out.size hHeld.2.size
        replace hRA := own_fr0 hRA hFx
        have hNe : v4.heap.size ≠ xb := by have := hMb.lt; omega
        replace hMb := hMb.fr hFx (by simp)
        obtain ⟨v5, hV⟩ : ∃ V, v4.alloc (.map #[] 0) = V := ⟨_, rfl⟩
        obtain ⟨xa, hx⟩ : ∃ b, v4.heap.size = b := ⟨_, rfl⟩
        rw [hV] at hFx hMa ⊢ hMb hRA
        rw [hx] at hMa hXa ⊢ hNe
        refine hK.out _ _ ?_ (fun hHeld1 => ?_)
        · (try dsimp only); exact HX.out _ (hHeld.2.trans hFx)
        clear hK K hV hx hFx
        replace hHeld := hHeld1
        clear hHeld1
        try simp only [Act.put, List.setIfInBounds_toArray, List.set_cons_zero, List.set_cons_succ]
        refine take_yes 10 48 rfl rfl (by kernel_rfl) (by kernel_rfl) (by kernel_rfl) (fun _ _ _ h => h) (by rfl) (by assumption) (v := ?_) ?_ ?_
        rotate_left
        · intro w hSw; (try dsimp only at hSw); go_simp; (try with_reducible rfl)
        try simp only [Act.put, List.setIfInBounds_toArray, List.set_cons_zero, List.set_cons_succ]
        refine wpAnyH_ready (rs := [11]) (by kernel_rfl) (by simp) ?_
        refine AllReadyH.cons (o := _) rfl (fun K hK => ?_) AllReadyH.nil
        go_simp
        (try go_wp2_with fail)
        have hFz : Fr [] v5 (v5.alloc (.cells #[.int .u8 m1, .int .u8 m2, .int .u8 m3, .int .u8 m4, .int .u8 m5, .int .u8 m6, .string (B nm), .string (B sec), .slice Av l.length cc, .int .i64 most, .map (some xa), .map (some xb), .int .u16 0, .slice none 0 0] 85 (0, 0))) := (Fr.refl _ _).alloc _
        have hFw := hHeld.2.trans hFz
        have HZ : Hid (NewS w ⟨m1, m2, m3, m4, m5, m6⟩ nm sec most l (.returned (.tuple #[.pointer (some ⟨v5.heap.size, 0, none⟩), .int .i64 0])) (v5.alloc (.cells #[.int .u8 m1, .int .u8 m2, .int .u8 m3, .int .u8 m4, .int .u8 m5, .int .u8 m6, .string (B nm), .string (B sec), .slice Av l.length cc, .int .i64 most, .map (some xa), .map (some xb), .int .u16 0, .slice none 0 0] 85 (0, 0)))) := Lib.hid (newS_of (HF3.out.trans hHeld.2) hMa hMb hNe hXa hXb hRA (Blk.new _ _ _))
        refine hK.out _ _ ?_ (fun hHeld1 => ?_)
        · (try dsimp only); exact HX.out _ hFw
        clear hK K hFz hFw hMa hMb hNe hXa hXb hRA
        try simp only [Act.put, List.setIfInBounds_toArray, List.set_cons_zero, List.set_cons_succ]
        refine take_yes 12 10 rfl rfl (by kernel_rfl) (by kernel_rfl) (by kernel_rfl) (fun _ _ _ h => h) (by rfl) (by assumption) (v := ?_) ?_ ?_
        rotate_left
        · intro w hSw; (try dsimp only at hSw); go_simp; (try with_reducible rfl)
        try simp only [Act.put, List.setIfInBounds_toArray, List.set_cons_zero, List.set_cons_succ]
        refine take_yes 13 11 rfl rfl (by kernel_rfl) (by kernel_rfl) (by kernel_rfl) (fun _ _ _ h => h) (by rfl) (by assumption) (v := ?_) ?_ ?_
        rotate_left
        · intro w hSw; (try dsimp only at hSw); go_simp; (try with_reducible rfl)
        try simp only [Act.put, List.setIfInBounds_toArray, List.set_cons_zero, List.set_cons_succ]
        refine wpAnyH_done (by kernel_rfl) ?_ _
        clear HX
        go_wp2_with fail
        go_ret2
        exact HQQ.out _ _ HZ.out
      refine AllReadyH.cons (o := _) rfl (fun K hK => ?_) AllReadyH.nil
      go_simp
      (try go_wp2_with fail)
      have hFx : Fr [] v3 (v3.alloc (.map #[] 0)) := (Fr.refl _ _).alloc _
      have hMa : MapIs idE ptrV (v3.alloc (.map #[] 0)) v3.heap.size [] := MapIs.new _
      have hXa : w.heap.size ≤ v3.heap.size := Nat.le_trans HF3.out.size hHeld.2.size
      have hNe : v3.heap.size ≠ xb := by have := hMb.lt; omega
      replace hMb := hMb.fr hFx (by simp)
      obtain ⟨v4, hV⟩ : ∃ V, v3.alloc (.map #[] 0) = V := ⟨_, rfl⟩
      obtain ⟨xa, hx⟩ : ∃ b, v3.heap.size = b := ⟨_, rfl⟩
      rw [hV] at hFx hMa ⊢ hMb
      rw [hx] at hMa hXa ⊢ hNe
      refine hK.out _ _ ?_ (fun hHeld1 => ?_)
      · (try dsimp only); exact HX.out _ (hHeld.2.trans hFx)
      clear hK K hV hx hFx
      replace hHeld := hHeld1
      clear hHeld1
      try simp only [Act.put, List.setIfInBounds_toArray, List.set_cons_zero, List.set_cons_succ]
      refine wpAnyH_ready (rs := [6]) (by kernel_rfl) (by simp) ?_
      refine AllReadyH.cons (o := _) rfl (fun K hK => ?_) AllReadyH.nil
      go_simp
      refine (CN.out _ hHeld.2).mono ?_
      rintro r v5 ⟨Av, cc, rfl, hRA, hF5⟩
      (try go_wp2_with fail)
      refine hK.out _ _ ?_ (fun hHeld1 => ?_)
      · (try dsimp only); exact HX.out _ (hHeld.2.trans hF5)
      clear hK K
      try simp only [Act.put, List.setIfInBounds_toArray, List.set_cons_zero, List.set_cons_succ]
      replace hMa := hMa.fr hF5 (by simp)
      replace hMb := hMb.fr hF5 (by simp)
      replace hHeld := hHeld1
      clear hF5 hHeld1
      refine take_yes 10 48 rfl rfl (by kernel_rfl) (by kernel_rfl) (by kernel_rfl) (fun _ _ _ h => h) (by rfl) (by assumption) (v := ?_) ?_ ?_
      rotate_left
      · intro w hSw; (try dsimp only at hSw); go_simp; (try with_reducible rfl)
      try simp only [Act.put, List.setIfInBounds_toArray, List.set_cons_zero, List.set_cons_succ]
      refine wpAnyH_ready (rs := [11]) (by kernel_rfl) (by simp) ?_
      refine AllReadyH.cons (o := _) rfl (fun K hK => ?_) AllReadyH.nil
      go_simp
      (try go_wp2_with fail)
      have hFz : Fr [] v5 (v5.alloc (.cells #[.int .u8 m1, .int .u8 m2, .int .u8 m3, .int .u8 m4, .int .u8 m5, .int .u8 m6, .string (B nm), .string (B sec), .slice Av l.length cc, .int .i64 most, .map (some xa), .map (some xb), .int .u16 0, .slice none 0 0] 85 (0, 0))) := (Fr.refl _ _).alloc _
      have hFw := hHeld.2.trans hFz
      have HZ : Hid (NewS w ⟨m1, m2, m3, m4, m5, m6⟩ nm sec most l (.returned (.tuple #[.pointer (some ⟨v5.heap.size, 0, none⟩), .int .i64 0])) (v5.alloc (.cells #[.int .u8 m1, .int .u8 m2, .int .u8 m3, .int .u8 m4, .int .u8 m5, .int .u8 m6, .string (B nm), .string (B sec), .slice Av l.length cc, .int .i64 most, .map (some xa), .map (some xb), .int .u16 0, .slice none 0 0] 85 (0, 0)))) := Lib.hid (newS_of (HF3.out.trans hHeld.2) hMa hMb hNe hXa hXb hRA (Blk.new _ _ _))
      refine hK.out _ _ ?_ (fun hHeld1 => ?_)
      · (try dsimp only); exact HX.out _ hFw
      clear hK K hFz hFw hMa hMb hNe hXa hXb hRA
      try simp only [Act.put, List.setIfInBounds_toArray, List.set_cons_zero, List.set_cons_succ]
      refine take_yes 12 10 rfl rfl (by kernel_rfl) (by kernel_rfl) (by kernel_rfl) (fun _ _ _ h => h) (by rfl) (by assumption) (v := ?_) ?_ ?_
      rotate_left
      · intro w hSw; (try dsimp only at hSw); go_simp; (try with_reducible rfl)
      try simp only [Act.put, List.setIfInBounds_toArray, List.set_cons_zero, List.set_cons_succ]
      refine take_yes 13 11 rfl rfl (by kernel_rfl) (by kernel_rfl) (by kernel_rfl) (fun _ _ _ h => h) (by rfl) (by assumption) (v := ?_) ?_ ?_
      rotate_left
      · intro w hSw; (try dsimp only at hSw); go_simp; (try with_reducible rfl)
      try simp only [Act.put, List.setIfInBounds_toArray, List.set_cons_zero, List.set_cons_succ]
      refine wpAnyH_done (by kernel_rfl) ?_ _
      clear HX
      go_wp2_with fail
      go_ret2
      exact HQQ.out _ _ HZ.out
    refine AllReadyH.cons (o := _) rfl (fun K hK => ?_) AllReadyH.nil
    go_simp
    (try go_wp2_with fail)
    have hFx : Fr [] v2 (v2.alloc (.map #[] 0)) := (Fr.refl _ _).alloc _
    have hMa : MapIs idE ptrV (v2.alloc (.map #[] 0)) v2.heap.size [] := MapIs.new _
    have hXa : w.heap.size ≤ v2.heap.size := Nat.le_trans HF3.out.size hHeld.2.size
    have hNe : v2.heap.size ≠ xb := by have := hMb.lt; omega
    replace hMb := hMb.fr hFx (by simp)
    obtain ⟨v3, hV⟩ : ∃ V, v2.alloc (.map #[] 0) = V := ⟨_, rfl⟩
    obtain ⟨xa, hx⟩ : ∃ b, v2.heap.size = b := ⟨_, rfl⟩
    rw [hV] at hFx hMa ⊢ hMb
    rw [hx] at hMa hXa ⊢ hNe
    refine hK.out _ _ ?_ (fun hHeld1 => ?_)
    · (try dsimp only); exact HX.out _ (hHeld.2.trans hFx)
    clear hK K hV hx hFx
    replace hHeld := hHeld1
    clear hHeld1
    try simp only [Act.put, List.setIfInBounds_toArray, List.set_cons_zero, List.set_cons_succ]
    refine wpAnyH_ready (rs := [4]) (by kernel_rfl) (by simp) ?_
    refine AllReadyH.cons (o := _) rfl (fun K hK => ?_) AllReadyH.nil
    go_simp
    refine (T2.out _).mono ?_
    rintro r v4 ⟨rfl, hF5⟩
    (try go_wp2_with fail)
    refine hK.out _ _ ?_ (fun hHeld1 => ?_)
    · (try dsimp only); exact HX.out _ (hHeld.2.trans hF5)
    clear hK K
    try simp only [Act.put, List.setIfInBounds_toArray, List.set_cons_zero, List.set_cons_succ]
    replace hMa := hMa.fr hF5 (by simp)
    replace hMb := hMb.fr hF5 (by simp)
    replace hHeld := hHeld1
    clear hF5 hHeld1
    refine wpAnyH_ready (rs := [6]) (by kernel_rfl) (by simp) ?_
    refine AllReadyH.cons (o := _) rfl (fun K hK => ?_) AllReadyH.nil
    go_simp
    refine (CN.out _ hHeld.2).mono ?_
    rintro r v5 ⟨Av, cc, rfl, hRA, hF5⟩
    (try go_wp2_with fail)
    refine hK.out _ _ ?_ (fun hHeld1 => ?_)
    · (try dsimp only); exact HX.out _ (hHeld.2.trans hF5)
    clear hK K
    try simp only [Act.put, List.setIfInBounds_toArray, List.set_cons_zero, List.set_cons_succ]
    replace hMa := hMa.fr hF5 (by simp)
    replace hMb := hMb.fr hF5 (by simp)
    replace hHeld := hHeld1
    clear hF5 hHeld1
    refine take_yes 10 48 rfl rfl (by kernel_rfl) (by kernel_rfl) (by kernel_rfl) (fun _ _ _ h => h) (by rfl) (by assumption) (v := ?_) ?_ ?_
    rotate_left
    · intro w hSw; (try dsimp only at hSw); go_simp; (try with_reducible rfl)
    try simp only [Act.put, List.setIfInBounds_toArray, List.set_cons_zero, List.set_cons_succ]
    refine wpAnyH_ready (rs := [11]) (by kernel_rfl) (by simp) ?_
    refine AllReadyH.cons (o := _) rfl (fun K hK => ?_) AllReadyH.nil
    go_simp
    (try go_wp2_with fail)
    have hFz : Fr [] v5 (v5.alloc (.cells #[.int .u8 m1, .int .u8 m2, .int .u8 m3, .int .u8 m4, .int .u8 m5, .int .u8 m6, .string (B nm), .string (B sec), .slice Av l.length cc, .int .i64 most, .map (some xa), .map (some xb), .int .u16 0, .slice none 0 0] 85 (0, 0))) := (Fr.refl _ _).alloc _
    have hFw := hHeld.2.trans hFz
    have HZ : Hid (NewS w ⟨m1, m2, m3, m4, m5, m6⟩ nm sec most l (.returned (.tuple #[.pointer (some ⟨v5.heap.size, 0, none⟩), .int .i64 0])) (v5.alloc (.cells #[.int .u8 m1, .int .u8 m2, .int .u8 m3, .int .u8 m4, .int .u8 m5, .int .u8 m6, .string (B nm), .string (B sec), .slice Av l.length cc, .int .i64 most, .map (some xa), .map (some xb), .int .u16 0, .slice none 0 0] 85 (0, 0)))) := Lib.hid (newS_of (HF3.out.trans hHeld.2) hMa hMb hNe hXa hXb hRA (Blk.new _ _ _))
    refine hK.out _ _ ?_ (fun hHeld1 => ?_)
    · (try dsimp only); exact HX.out _ hFw
    clear hK K hFz hFw hMa hMb hNe hXa hXb hRA
    try simp only [Act.put, List.setIfInBounds_toArray, List.set_cons_zero, List.set_cons_succ]
    refine take_yes 12 10 rfl rfl (by kernel_rfl) (by kernel_rfl) (by kernel_rfl) (fun _ _ _ h => h) (by rfl) (by assumption) (v := ?_) ?_ ?_
    rotate_left
    · intro w hSw; (try dsimp only at hSw); go_simp; (try with_reducible rfl)
    try simp only [Act.put, List.setIfInBounds_toArray, List.set_cons_zero, List.set_cons_succ]
    refine take_yes 13 11 rfl rfl (by kernel_rfl) (by kernel_rfl) (by kernel_rfl) (fun _ _ _ h => h) (by rfl) (by assumption) (v := ?_) ?_ ?_
    rotate_left
    · intro w hSw; (try dsimp only at hSw); go_simp; (try with_reducible rfl)
    try simp only [Act.put, List.setIfInBounds_toArray, List.set_cons_zero, List.set_cons_succ]
    refine wpAnyH_done (by kernel_rfl) ?_ _
    clear HX
    go_wp2_with fail
    go_ret2
    exact HQQ.out _ _ HZ.out
  refine AllReadyH.cons (o := _) rfl (fun K hK => ?_) AllReadyH.nil
  go_simp
  (try go_wp2_with fail)
  have hFx : Fr [] v1 (v1.alloc (.map #[] 0)) := (Fr.refl _ _).alloc _
  have hMa : MapIs idE ptrV (v1.alloc (.map #[] 0)) v1.heap.size [] := MapIs.new _
  have hXa : w.heap.size ≤ v1.heap.size := Nat.le_trans HF3.out.size hHeld.2.size
  have hNe : v1.heap.size ≠ xb := by have := hMb.lt; omega
  replace hMb := hMb.fr hFx (by simp)
  obtain ⟨v2, hV⟩ : ∃ V, v1.alloc (.map #[] 0) = V := ⟨_, rfl⟩
  obtain ⟨xa, hx⟩ : ∃ b, v1.heap.size = b := ⟨_, rfl⟩
  rw [hV] at hFx hMa ⊢ hMb
  rw [hx] at hMa hXa ⊢ hNe
  refine hK.out _ _ ?_ (fun hHeld1 => ?_)
  · (try dsimp only); exact HX.out _ (hHeld.2.trans hFx)
  clear hK K hV hx hFx
  replace hHeld := hHeld1
  clear hHeld1
  try simp only [Act.put, List.setIfInBounds_toArray, List.set_cons_zero, List.set_cons_succ]
  refine wpAnyH_ready (rs := [2]) (by kernel_rfl) (by simp) ?_
  refine AllReadyH.cons (o := _) rfl (fun K hK => ?_) AllReadyH.nil
  go_simp
  refine (T1.out _).mono ?_
  rintro r v3 ⟨rfl, hF5⟩
  (try go_wp2_with fail)
  refine hK.out _ _ ?_ (fun hHeld1 => ?_)
  · (try dsimp only); exact HX.out _ (hHeld.2.trans hF5)
  clear hK K
  try simp only [Act.put, List.setIfInBounds_toArray, List.set_cons_zero, List.set_cons_succ]
  replace hMa := hMa.fr hF5 (by simp)
  replace hMb := hMb.fr hF5 (by simp)
  replace hHeld := hHeld1
  clear hF5 hHeld1
  refine wpAnyH_ready (rs := [4]) (by kernel_rfl) (by simp) ?_
  refine AllReadyH.cons (o := _) rfl (fun K hK => ?_) AllReadyH.nil
  go_simp
  refine (T2.out _).mono ?_
  rintro r v4 ⟨rfl, hF5⟩
  (try go_wp2_with fail)
  refine hK.out _ _ ?_ (fun hHeld1 => ?_)
  · (try dsimp only); exact HX.out _ (hHeld.2.trans hF5)
  clear hK K
  try simp only [Act.put, List.setIfInBounds_toArray, List.set_cons_zero, List.set_cons_succ]
  replace hMa := hMa.fr hF5 (by simp)
  replace hMb := hMb.fr hF5 (by simp)
  replace hHeld := hHeld1
  clear hF5 hHeld1
  refine wpAnyH_ready (rs := [6]) (by kernel_rfl) (by simp) ?_
  refine AllReadyH.cons (o := _) rfl (fun K hK => ?_) AllReadyH.nil
  go_simp
  refine (CN.out _ hHeld.2).mono ?_
  rintro r v5 ⟨Av, cc, rfl, hRA, hF5⟩
  (try go_wp2_with fail)
  refine hK.out _ _ ?_ (fun hHeld1 => ?_)
  · (try dsimp only); exact HX.out _ (hHeld.2.trans hF5)
  clear hK K
  try simp only [Act.put, List.setIfInBounds_toArray, List.set_cons_zero, List.set_cons_succ]
  replace hMa := hMa.fr hF5 (by simp)
  replace hMb := hMb.fr hF5 (by simp)
  replace hHeld := hHeld1
  clear hF5 hHeld1
  refine take_yes 10 48 rfl rfl (by kernel_rfl) (by kernel_rfl) (by kernel_rfl) (fun _ _ _ h => h) (by rfl) (by assumption) (v := ?_) ?_ ?_
  rotate_left
  · intro w hSw; (try dsimp only at hSw); go_simp; (try with_reducible rfl)
  try simp only [Act.put, List.setIfInBounds_toArray, List.set_cons_zero, List.set_cons_succ]
  refine wpAnyH_ready (rs := [11]) (by kernel_rfl) (by simp) ?_
  refine AllReadyH.cons (o := _) rfl (fun K hK => ?_) AllReadyH.nil
  go_simp
  (try go_wp2_with fail)
  have hFz : Fr [] v5 (v5.alloc (.cells #[.int .u8 m1, .int .u8 m2, .int .u8 m3, .int .u8 m4, .int .u8 m5, .int .u8 m6, .string (B nm), .string (B sec), .slice Av l.length cc, .int .i64 most, .map (some xa), .map (some xb), .int .u16 0, .slice none 0 0] 85 (0, 0))) := (Fr.refl _ _).alloc _
  have hFw := hHeld.2.trans hFz
  have HZ : Hid (NewS w ⟨m1, m2, m3, m4, m5, m6⟩ nm sec most l (.returned (.tuple #[.pointer (some ⟨v5.heap.size, 0, none⟩), .int .i64 0])) (v5.alloc (.cells #[.int .u8 m1, .int .u8 m2, .int .u8 m3, .int .u8 m4, .int .u8 m5, .int .u8 m6, .string (B nm), .string (B sec), .slice Av l.length cc, .int .i64 most, .map (some xa), .map (some xb), .int .u16 0, .slice none 0 0] 85 (0, 0)))) := Lib.hid (newS_of (HF3.out.trans hHeld.2) hMa hMb hNe hXa hXb hRA (Blk.new _ _ _))
  refine hK.out _ _ ?_ (fun hHeld1 => ?_)
  · (try dsimp only); exact HX.out _ hFw
  clear hK K hFz hFw hMa hMb hNe hXa hXb hRA
  try simp only [Act.put, List.setIfInBounds_toArray, List.set_cons_zero, List.set_cons_succ]
  refine take_yes 12 10 rfl rfl (by kernel_rfl) (by kernel_rfl) (by kernel_rfl) (fun _ _ _ h => h) (by rfl) (by assumption) (v := ?_) ?_ ?_
  rotate_left
  · intro w hSw; (try dsimp only at hSw); go_simp; (try with_reducible rfl)
  try simp only [Act.put, List.setIfInBounds_toArray, List.set_cons_zero, List.set_cons_succ]
  refine take_yes 13 11 rfl rfl (by kernel_rfl) (by kernel_rfl) (by kernel_rfl) (fun _ _ _ h => h) (by rfl) (by assumption) (v := ?_) ?_ ?_
  rotate_left
  · intro w hSw; (try dsimp only at hSw); go_simp; (try with_reducible rfl)
  try simp only [Act.put, List.setIfInBounds_toArray, List.set_cons_zero, List.set_cons_succ]
  refine wpAnyH_done (by kernel_rfl) ?_ _
  clear HX
  go_wp2_with fail
  go_ret2
  exact HQQ.out _ _ HZ.out
end
end Go.Proofs.Ytcdencpkgfehlaa
