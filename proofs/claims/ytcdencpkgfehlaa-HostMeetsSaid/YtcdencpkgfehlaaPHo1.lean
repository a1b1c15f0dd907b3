/- the program's host: tags that are too long; a frame or none; the tags with a cookie (printed by tools/gen_pho1.py). -/
import Derived.Test.YtcdencpkgfehlaaHost7
import Derived.Test.YtcdencpkgfehlaaMgA
import Derived.Test.YtcdencpkgfehlaaEqEth
namespace Go.Proofs.Ytcdencpkgfehlaa
open Go.RowKit
set_option linter.unusedVariables false
abbrev Eth := Mc × Mc × Int × List UInt8
def ethF (x : Eth) : List Value := (ethC x.1 x.2.1 x.2.2.1 x.2.2.2).toList
def askL (sv un : List UInt8) (o : Option (List UInt8)) : List Tg := ((257, sv) : Tg) :: ((match o with | some s => ([(260, s)] : List Tg) | none => []) ++ (if un = [] then [] else ([(259, un)] : List Tg)))
/-- a frame of these tags, if they can be laid -/
def frameL (k m : Mc) (c ss : Int) (l : List Tg) : List Eth := if (tgsB l).length ≤ 1494 then [(k, m, 34915, discB c ss (tgsB l))] else []
/-- frames told -/
def OutP (w : World) (l : List Eth) (S : List Nat) (e : Ending) (w' : World) : Prop := ∃ A cap, e = .returned (.slice A l.length cap) ∧ w'.ownsRow w.heap.size 35 14 (.slice A l.length cap) l.length (rowF ethF l) ∧ Fr S w w'
theorem OutP.none_ {w w' : World} {S : List Nat} (hF : Fr S w w') : OutP w [] S (.returned (.slice none 0 0)) w' := ⟨none, 0, rfl, World.ownsRow_nil _ _ _ _, hF⟩
theorem OutP.one {w w' : World} {S : List Nat} {k m : Mc} {ty : Int} {d : List UInt8} {e : Ending} (h : OneP w k m ty d S e w') : OutP w [(k, m, ty, d)] S e w' := by
  obtain ⟨q, h1, h2, h3, h4⟩ := h
  exact ⟨some ⟨q, 0, none⟩, 1, h1, ⟨rfl, Or.inr ⟨q, 1, _, rfl, h2, h3, Nat.le_refl _, by unfold maxLen; omega, rfl, rfl⟩⟩, h4⟩
theorem OutP.later {w w1 w' : World} {l : List Eth} {S S' : List Nat} {e : Ending} (h : OutP w1 l S' e w') (hF : Fr S w w1) (hS : ∀ x, x ∈ S' → x ∈ S) : OutP w l S e w' := by
  obtain ⟨A, cap, h1, h2, h3⟩ := h
  exact ⟨A, cap, h1, ⟨h2.1, h2.2.imp id fun ⟨g, cap', cur, a1, a2, a3⟩ => ⟨g, cap', cur, a1, Nat.le_trans hF.size a2, a3⟩⟩, hF.trans (h3.mono hS)⟩
section
variable {w : World}
set_option maxRecDepth 100000 in
set_option maxHeartbeats 8000000 in
theorem puttags_long {A : Option Addr} {cap : Nat} {l : List Tg} (h : TgAt w A l) (hok : ∀ t, t ∈ l → TgOk t) (hv : ∀ t, t ∈ l → t.2.length ≤ 100000) (hl : l.length ≤ 20) (hc : l.length ≤ cap) (hm : cap ≤ maxLen) (hs : 1494 < (tgsB l).length) :
    Calls Try.prog 54 #[.slice A l.length cap] w fun e w' => e = .returned (.tuple #[.string (B []), .int .i64 2]) ∧ Fr [] w w' := by
  have CF := Lib.hid (contains_any h hok hl hc hm)
  have H := Lib.hid h
  have HOK := Lib.hid hok
  have HV := Lib.hid hv
  have hl1 : ¬ (20 : Int) < l.length := by omega
  have HS := Lib.hid hs
  unfold maxLen at hm
  clear h hok hs hv
  go_enter Try.func54, Try.ntmps54
  go_wp2_with fail
  refine CF.out.mono ?_
  rintro e w1 ⟨rfl, hF1⟩
  clear CF
  go_wp2_with fail
  go_loopw [4, 16] (fun sv iv wr => ∃ j : Nat, j ≤ l.length ∧ iv = .int .i64 j ∧ sv = .string (B (tgsB (l.take j))) ∧ (tgsB (l.take j)).length ≤ 1494 ∧ Fr [] w wr) (fun _ iv _ => l.length - (intOf iv).toNat)
  case atStart => exact ⟨0, by omega, rfl, rfl, by simp [tgsB], hF1⟩
  case round =>
    clear hF1
    obtain ⟨j, hj, rfl, rfl, hpl, hF⟩ := hrel
    by_cases hjl : j < l.length
    · obtain ⟨⟨t, s⟩, ht⟩ : ∃ t, l[j]? = some t := ⟨_, List.getElem?_eq_getElem hjl⟩
      obtain ⟨b, off, rfl, hb, hcell⟩ := H.out j _ ht
      obtain ⟨c0, c1⟩ := hcell _ hF
      simp only at c0 c1
      have hOk := HOK.out _ (List.mem_of_getElem? ht)
      have hsb : s.length ≤ 100000 := HV.out _ (List.mem_of_getElem? ht)
      have hsn0 := tgsB_snoc ht
      by_cases hlong : 1494 < s.length
      · have h4 : (1494 : Int) < s.length := by omega
        have hjb : (j : Int) ≤ 20 := by omega
        obtain ⟨P, hP⟩ : ∃ P, tgsB (l.take j) = P := ⟨_, rfl⟩
        rw [hP] at hpl ⊢
        have HF := Lib.hid (hF.alloc (.cells #[.int .i64 t, .string (B s)] 54 (0, 0)))
        clear hcell ht hb hOk hsn0 hP hF hlong
        go_wp2_with fail
        go_ret2
        exact ⟨rfl, HF.out⟩
      by_cases hsum : 1494 < (tgsB (l.take j)).length + s.length + 4
      · have h4 : ¬ (1494 : Int) < s.length := by omega
        have hjb : (j : Int) ≤ 20 := by omega
        obtain ⟨P, hP⟩ : ∃ P, tgsB (l.take j) = P := ⟨_, rfl⟩
        rw [hP] at hpl hsum ⊢
        have h5 : (1494 : Int) < (P.length : Int) + s.length + 4 := by omega
        have HF := Lib.hid (hF.alloc (.cells #[.int .i64 t, .string (B s)] 54 (0, 0)))
        clear hcell ht hb hOk hsn0 hP hF hlong hsum
        go_wp2_with fail
        go_ret2
        exact ⟨rfl, HF.out⟩
      have hnext : (tgsB (l.take (j + 1))).length ≤ 1494 := by rw [← hsn0, List.length_append, tgB_len]; simp only; omega
      have HNX := Lib.hid hnext
      have hsn := tgsB_snoc ht
      obtain ⟨P, hP⟩ : ∃ P, tgsB (l.take j) = P := ⟨_, rfl⟩
      rw [hP] at hsn hsum hpl ⊢
      have h0 : (0 : Int) ≤ t := by have := hOk.1; simp only at this; omega
      have h1 : t < 65536 := by have := hOk.2; simp only at this; omega
      have h2 : (0 : Int) ≤ (s.length : Int) := by omega
      have h3 : (s.length : Int) < 65536 := by omega
      have h4 : ¬ (1494 : Int) < s.length := by omega
      have h5 : ¬ (1494 : Int) < (P.length : Int) + s.length + 4 := by omega
      have hjb : (j : Int) ≤ 20 := by omega
      have HSn := Lib.hid hsn
      have HF := Lib.hid hF
      obtain ⟨BT, hBT⟩ : ∃ x, be 2 t = x := ⟨_, rfl⟩
      obtain ⟨BL, hBL⟩ : ∃ x, be 2 (s.length : Int) = x := ⟨_, rfl⟩
      have hbt : BT.length = 2 := by rw [← hBT, be_length]
      have hbl : BL.length = 2 := by rw [← hBL, be_length]
      have T1 : Hid (∀ v W, v = t → Calls Try.prog 62 #[.int .i64 v] W fun e w' => e = .returned (.string (B BT)) ∧ Fr [] W w') := Lib.hid fun v W hv => by
        subst hv
        rw [← hBT]; exact two_any _ _ h0 h1
      have T2 : Hid (∀ v W, v = (s.length : Int) → Calls Try.prog 62 #[.int .i64 v] W fun e w' => e = .returned (.string (B BL)) ∧ Fr [] W w') := Lib.hid fun v W hv => by
        subst hv
        rw [← hBL]; exact two_any _ _ h2 h3
      have HSn : Hid (P ++ (BT ++ BL ++ s) = tgsB (l.take (j + 1))) := Lib.hid (by rw [← HSn.out, ← hBT, ← hBL]; simp [tgB])
      clear hBT hBL
      have h6 : ¬ 9223372036854775807 < 4 + s.length := by omega
      have h7 : ¬ 9223372036854775807 < P.length + (2 + (2 + s.length)) := by omega
      clear h0 h1 h2 h3 hcell ht hb hOk hsn hsn0 hsum hnext hlong hpl hP hF
      go_wp2_with fail
      have hN := Blk.new wr #[.int .i64 t, .string (B s)] 54
      have hFA := (Fr.refl [] wr).alloc (.cells #[.int .i64 t, .string (B s)] 54 (0, 0))
      have HF3 := Lib.hid (HF.out.trans hFA)
      obtain ⟨q, hq⟩ : ∃ q, wr.heap.size = q := ⟨_, rfl⟩
      obtain ⟨W3, hW3⟩ : ∃ W, wr.alloc (.cells #[.int .i64 t, .string (B s)] 54 (0, 0)) = W := ⟨_, rfl⟩
      rw [hq] at hN ⊢
      rw [hW3] at hN HF3 ⊢
      have HX : Hid (∀ W, Fr [] W3 W → (W.cell? ⟨q, 0, none⟩ = some (.int .i64 t) ∧ W.cell? ⟨q, 1, none⟩ = some (.string (B s))) ∧ Fr [] W3 W) := Lib.hid fun W hW => ⟨⟨(hW.blk hN (by simp)).c 0 _ rfl, (hW.blk hN (by simp)).c 1 _ rfl⟩, hW⟩
      have hG0 := HX.out _ (Fr.refl [] W3).drew
      clear hq hW3 hFA hN c0 c1 HF
      go_region_held3 (fun W => (W.cell? ⟨q, 0, none⟩ = some (.int .i64 t) ∧ W.cell? ⟨q, 1, none⟩ = some (.string (B s))) ∧ Fr [] W3 W)
        (first | exact hG0 | assumption | (refine HX.out _ (Fr.trans ?_ hF5); exact And.right (by assumption)))
        (first | (go_at_call 62; refine (T1.out _ _ (by with_reducible rfl)).mono ?_; rintro e w5 ⟨rfl, hF5⟩) | (go_at_call 62; refine (T2.out _ _ (by with_reducible rfl)).mono ?_; rintro e w5 ⟨rfl, hF5⟩))
      all_goals
        have hF9 : Fr [] W3 w5 := And.right (by assumption)
        have HF6 := Lib.hid (HF3.out.trans hF9)
        clear hG0 hF9
        go_wp2_with fail
        go_roundw
        case rel => exact ⟨j + 1, by omega, by go_num, by rw [← HSn.out, List.append_assoc], HNX.out, HF6.out⟩
        case measure => (simp [intOf]) <;> omega
    · exfalso
      obtain rfl : j = l.length := by omega
      rw [List.take_length] at hpl
      have := HS.out
      omega
end
theorem tgsB_vals {l : List Tg} (h : (tgsB l).length ≤ 100000) : ∀ t, t ∈ l → t.2.length ≤ 100000 := fun t ht => by
  obtain ⟨a, b, rfl⟩ := List.append_of_mem ht
  unfold tgsB at h
  rw [List.flatMap_append, List.length_append, List.flatMap_cons, List.length_append, tgB_len] at h
  omega
section
variable {w : World} {g : Nat} {h : Hs} {ck : Value}
set_option maxRecDepth 100000 in
set_option maxHeartbeats 4000000 in
theorem frame_long {A : Option Addr} {cap : Nat} {l : List Tg} (k : Mc) (c ss : Int) (hT : TgAt w A l) (hok : ∀ t, t ∈ l → TgOk t) (hl : l.length ≤ 20) (hc : l.length ≤ cap) (hm : cap ≤ maxLen) (hv : ∀ t, t ∈ l → t.2.length ≤ 100000) (hs : 1494 < (tgsB l).length) (c0 : 0 ≤ c) (c1 : c ≤ 255) (s0 : 0 ≤ ss) (s1 : ss ≤ 65535) (hB : Blk w g (hsC h ck) 92) :
    Calls Try.prog 39 #[.pointer (some ⟨g, 0, none⟩), .agg (mcL k).toArray, .int .i64 c, .int .i64 ss, .slice A l.length cap] w fun e w' => e = .returned (.slice none 0 0) ∧ Fr [] w w' := by
  have P1 := Lib.hid fun W (hW : Fr [] w W) => puttags_long (hT.fr0 hW) hok hv hl hc hm hs
  have CC := Lib.hid fun (i : Nat) (v : Value) (hv : (hsC h ck)[i]? = some v) W (hW : Fr [] w W) => (hW.blk hB (by simp)).c i v hv
  have hgl := hB.lt
  obtain ⟨⟨m1, m2, m3, m4, m5, m6⟩, sv, un, rt, wt, st, kk, sx, tk, ag⟩ := h
  obtain ⟨k1, k2, k3, k4, k5, k6⟩ := k
  have C0 := Lib.hid (CC.out 0 (.int .u8 m1) rfl)
  have C1 := Lib.hid (CC.out 1 (.int .u8 m2) rfl)
  have C2 := Lib.hid (CC.out 2 (.int .u8 m3) rfl)
  have C3 := Lib.hid (CC.out 3 (.int .u8 m4) rfl)
  have C4 := Lib.hid (CC.out 4 (.int .u8 m5) rfl)
  have C5 := Lib.hid (CC.out 5 (.int .u8 m6) rfl)
  unfold mcL
  simp only
  clear hT hok hl hc hm hs hv c0 c1 s0 s1 hB CC C0 C1 C2 C3 C4 C5
  go_enter Try.func39, Try.ntmps39
  have hF0 := (Fr.refl [] w).alloc (.cells #[.int .u8 k1, .int .u8 k2, .int .u8 k3, .int .u8 k4, .int .u8 k5, .int .u8 k6] 28 (0, 0))
  go_wp2_with fail
  refine (P1.out _ hF0).mono ?_
  rintro e w1 ⟨rfl, hG1⟩
  have hF1 := hF0.trans hG1
  clear hF0 hG1
  go_wp2_with fail
  go_ret
  exact ⟨rfl, hF1⟩
theorem frame_out {A : Option Addr} {cap : Nat} {l : List Tg} (k : Mc) (c ss : Int) (hT : TgAt w A l) (hok : ∀ t, t ∈ l → TgOk t) (hv : ∀ t, t ∈ l → t.2.length ≤ 100000) (hl : l.length ≤ 20) (hc : l.length ≤ cap) (hm : cap ≤ maxLen) (c0 : 0 ≤ c) (c1 : c ≤ 255) (s0 : 0 ≤ ss) (s1 : ss ≤ 65535) (hB : Blk w g (hsC h ck) 92) :
    Calls Try.prog 39 #[.pointer (some ⟨g, 0, none⟩), .agg (mcL k).toArray, .int .i64 c, .int .i64 ss, .slice A l.length cap] w (OutP w (frameL k h.m c ss l) []) := by
  unfold frameL
  by_cases hs : (tgsB l).length ≤ 1494
  · rw [if_pos hs]
    exact (frame_any k c ss hT hok hl hc hm hs c0 c1 s0 s1 hB).mono fun e w' hh => OutP.one hh
  · rw [if_neg hs]
    exact (frame_long k c ss hT hok hl hc hm hv (by omega) c0 c1 s0 s1 hB).mono fun e w' hh => by obtain ⟨rfl, hF⟩ := hh; exact OutP.none_ hF
set_option maxRecDepth 100000 in
set_option maxHeartbeats 4000000 in
theorem tags_more (s : List UInt8) (q : Nat) (hsl : s.length ≤ 100000) (hq : Blk w q #[.int .i64 260, .string (B s)] 54) (hB : Blk w g (hsC h ck) 92) : Calls Try.prog 66 #[.pointer (some ⟨g, 0, none⟩), .slice (some ⟨q, 0, none⟩) 1 1] w (TagsP w (askL h.sv h.un (some s))) := by
  obtain ⟨i0, hi, hz0, hz1, hz2⟩ := info_parts infoTag
  have hown0 : w.ownsRow 0 54 2 (.slice (some ⟨q, 0, none⟩) 1 1) 1 (tgL (260, s)) := ⟨rfl, Or.inr ⟨q, 1, _, rfl, Nat.zero_le _, hq, Nat.le_refl _, by unfold maxLen; omega, rfl, rfl⟩⟩
  have hRd := Lib.hid (Reads.of_own hown0)
  have C6 := Lib.hid fun W (hW : Fr [] w W) => (hW.blk hB (by simp)).c 6 (.string (B h.sv)) rfl
  have C7 := Lib.hid fun W (hW : Fr [] w W) => (hW.blk hB (by simp)).c 7 (.string (B h.un)) rfl
  obtain ⟨sv, hsv⟩ : ∃ x, h.sv = x := ⟨_, rfl⟩
  obtain ⟨un, hun⟩ : ∃ x, h.un = x := ⟨_, rfl⟩
  have HA : Hid (askL h.sv h.un (some s) = (257, sv) :: (260, s) :: (if un = [] then [] else [(259, un)])) := Lib.hid (by unfold askL; rw [hsv, hun]; rfl)
  rw [hsv] at C6
  rw [hun] at C7
  have d6 := C6.out _ (Fr.refl _ _)
  clear hsv hun
  go_enter Try.func66, Try.ntmps66
  go_wp2_with (at_builtin; refine wpList_append_any _ rfl _ _ 90 rfl w.heap.size 54 i0 (.agg #[.int .i64 0, .string ⟨#[]⟩]) 2 24 Try.underlying90 hi hz0 hz1 hz2 rfl (by decide) _ 1 (tgL (257, sv)) rfl (World.ownsRow_lit w #[.int .i64 257, .string (B sv)] 1 (Nat.le_refl _) (by unfold maxLen; omega) rfl) w.heap.size (some ⟨q, 0, none⟩) 1 1 (tgL (260, s)) rfl (hRd.out.alloc (Nat.le_refl _) _) (by simp [tgL, Value.oneCell']) ?c3 ?c4 ?c5 ?_)
  case c3 => unfold maxLen; omega
  case c4 => omega
  case c5 => simp
  intro v1 w1 hown1 hgr1 _
  have hF1 := ((Fr.refl [] w).alloc (.cells #[.int .i64 257, .string (B sv)] 54 (0, 0))).grown hgr1 (fun q hq => by cases hq; exact Nat.le_refl _)
  have d7 := C7.out _ hF1
  obtain ⟨A1, c1, rfl⟩ := own_slice hown1
  have hs1 := hF1.size
  clear hgr1 C6 C7 d6 hB hown0 hRd hq
  by_cases hu : un = []
  · subst hu
    have hb : (B [] != ⟨#[]⟩) = false := rfl
    have hc := own_caps hown1
    have HX : Hid (TagsP w (askL h.sv h.un (some s)) (.returned (.slice A1 (1 + 1) c1)) w1) := Lib.hid (by rw [HA.out, if_pos rfl]; exact ⟨A1, c1, rfl, TgAt.of_own (l := [(257, sv), (260, s)]) hown1, hc.1, hc.2, hF1⟩)
    clear hown1 hc hF1
    go_wp2_with fail
    go_ret
    exact HX.out
  · have hs2 : ¬ B un = ⟨#[]⟩ := fun e => hu (List.eq_nil_of_length_eq_zero (by rw [← B_size, e]; rfl))
    have hs3 : (B un == ⟨#[]⟩) = false := by show ((B un).data == (#[] : Array UInt8)) = false; rw [beq_eq_false_iff_ne]; exact fun h => hs2 (ByteArray.ext h)
    have hb : (B un != ⟨#[]⟩) = true := by simp only [bne, hs3]; rfl
    have hie : un.isEmpty = false := by simpa using hu
    clear hs2 hs3 hb
    go_wp2_with (at_builtin; refine wpList_append_own _ rfl _ _ 90 rfl w.heap.size 54 i0 (.agg #[.int .i64 0, .string ⟨#[]⟩]) 2 24 Try.underlying90 hi hz0 hz1 hz2 rfl (by decide) _ (1 + 1) _ rfl (hown1.alloc _) ⟨w1.heap.size, 0, none⟩ 1 1 (tgL (259, un)) rfl rfl ?d1 ?d2 ?d3 ?d4 ?d5 ?_)
    case d1 => exact new_cells w1 (tgL (259, un)) 54
    case d2 => simp [tgL, Value.oneCell']
    case d3 => unfold maxLen; omega
    case d4 => omega
    case d5 => simp; omega
    intro v2 w2 hown2 hgr2 _
    have hF2 := (hF1.alloc (.cells #[.int .i64 259, .string (B un)] 54 (0, 0))).grown hgr2 (fun q hq => own_new hown1 q hq)
    obtain ⟨A2, c2, rfl⟩ := own_slice hown2
    have hc := own_caps hown2
    have HX : Hid (TagsP w (askL h.sv h.un (some s)) (.returned (.slice A2 (1 + 1 + 1) c2)) w2) := Lib.hid (by rw [HA.out, if_neg hu]; exact ⟨A2, c2, rfl, TgAt.of_own (l := [(257, sv), (260, s), (259, un)]) hown2, hc.1, hc.2, hF2⟩)
    clear hown1 hown2 hgr2 hF2 hF1 hc
    go_wp2_with fail
    go_ret
    exact HX.out
end
end Go.Proofs.Ytcdencpkgfehlaa
