/- HostMeets: what is read of what was laid; texts looked up in a list of texts. -/
import Derived.Test.YtcdencpkgfehlaaPHo2
namespace Go.Proofs.Ytcdencpkgfehlaa
open Go.RowKit
set_option linter.unusedVariables false
theorem disc_cons (c ss : Int) (d : List UInt8) : discB c ss d = 17 :: UInt8.ofNat c.toNat :: (be 2 ss ++ (be 2 (d.length : Int) ++ d)) := rfl
theorem pkt_disc (c ss : Int) (d : List UInt8) (hc0 : 0 ≤ c) (hc1 : c ≤ 255) (hs0 : 0 ≤ ss) (hs1 : ss ≤ 65535) (hd : d.length ≤ 1494) : pkt (discB c ss d) = some (c, ss, d) := by
  have hL : (discB c ss d).length = d.length + 6 := by rw [disc_cons]; simp [be_length]; omega
  have g4 : getV (discB c ss d) 4 2 = (d.length : Int) := by
    have := getV_be (17 :: UInt8.ofNat c.toNat :: be 2 ss) d (d.length : Int) (by omega) (by omega)
    rw [disc_cons]
    simpa [be_length] using this
  have g2 : getV (discB c ss d) 2 2 = ss := by
    have := getV_be [17, UInt8.ofNat c.toNat] (be 2 (d.length : Int) ++ d) ss hs0 (by omega)
    rw [disc_cons]
    simpa using this
  have e0 : (discB c ss d).getD 0 0 = 17 := rfl
  have e1 : (((discB c ss d).getD 1 0).toNat : Int) = c := by
    show (((UInt8.ofNat c.toNat).toNat : Nat) : Int) = c
    rw [UInt8.toNat_ofNat']
    omega
  have hdr : (discB c ss d).drop 6 = d := by
    rw [disc_cons]
    show (be 2 ss ++ (be 2 (d.length : Int) ++ d)).drop 4 = d
    rw [← List.append_assoc, List.drop_append_of_le_length (by simp [be_length]), List.drop_of_length_le (by simp [be_length]), List.nil_append]
  unfold pkt
  rw [if_neg (by rw [hL]; omega), if_neg (by rw [e0]; simp), if_neg (by rw [g4]; omega), if_neg (by rw [g4, hL]; omega), e1, g2, g4, hdr]
  have : (d.length : Int).toNat = d.length := by omega
  rw [this, List.take_length]
theorem tgsB_cons (t : Tg) (l : List Tg) : tgsB (t :: l) = be 2 t.1 ++ (be 2 (t.2.length : Int) ++ (t.2 ++ tgsB l)) := by
  unfold tgsB
  rw [List.flatMap_cons]
  unfold tgB
  simp
theorem tparse_tgsB (l : List Tg) (k : Nat) (hk : l.length ≤ k) (hok : ∀ t, t ∈ l → TgOk t) (hv : ∀ t, t ∈ l → t.2.length ≤ 1494) : tparse k (tgsB l) = some l := by
  induction l generalizing k with
  | nil => exact tparse_nil k
  | cons t l ih =>
    obtain ⟨k', rfl⟩ : ∃ k', k = k' + 1 := ⟨k - 1, by simp at hk; omega⟩
    have ho := hok t List.mem_cons_self
    have hl := hv t List.mem_cons_self
    have e := tgsB_cons t l
    obtain ⟨L, hL⟩ : ∃ L, tgsB (t :: l) = L := ⟨_, rfl⟩
    obtain ⟨R, hR⟩ : ∃ L, tgsB l = L := ⟨_, rfl⟩
    rw [hL, hR] at e
    have hn : L.length = t.2.length + R.length + 4 := by rw [e]; simp [be_length]; omega
    have g0 : getV L 0 2 = t.1 := by
      have := getV_be [] (be 2 (t.2.length : Int) ++ (t.2 ++ R)) t.1 (by have := ho.1; omega) (by have := ho.2; omega)
      rw [List.nil_append, ← e] at this
      exact this
    have g2 : getV L 2 2 = (t.2.length : Int) := by
      have := getV_be (be 2 t.1) (t.2 ++ R) (t.2.length : Int) (by omega) (by omega)
      rw [← e, be_length] at this
      exact this
    have hd4 : L.drop 4 = t.2 ++ R := by
      rw [e, ← List.append_assoc, List.drop_append_of_le_length (by simp [be_length]), List.drop_of_length_le (by simp [be_length]), List.nil_append]
    have hnn : (getV L 2 2).toNat = t.2.length := by rw [g2]; omega
    rw [hL, tparse_tag (t := t.1) (s := t.2) (R := R) (fun h => by rw [h] at hn; simp at hn) (by omega) g0 (by have := ho.1; omega) (by omega) (by rw [g2, hn]; omega) (by rw [hnn, hd4, List.take_left]) (by rw [hnn, ← List.drop_drop, hd4, List.drop_left])]
    rw [← hR, ih k' (by simp at hk; omega) (fun x hx => hok x (List.mem_cons_of_mem _ hx)) (fun x hx => hv x (List.mem_cons_of_mem _ hx))]
    rfl
theorem readF_disc (m k s : Mc) (c ss : Int) (l : List Tg) (hk : mcEq k m = true) (hc0 : 0 ≤ c) (hc1 : c ≤ 255) (hs0 : 0 ≤ ss) (hs1 : ss ≤ 65535) (hd : (tgsB l).length ≤ 1494) (hl : l.length ≤ 20) (hok : ∀ t, t ∈ l → TgOk t) (hv : ∀ t, t ∈ l → t.2.length ≤ 1494) : readF m (k, s, 34915, discB c ss (tgsB l)) = some (c, ss, l) := by
  unfold readF
  rw [if_pos ⟨rfl, hk⟩]
  simp only
  rw [pkt_disc c ss _ hc0 hc1 hs0 hs1 hd]
  simp only
  rw [tparse_tgsB l 20 hl hok hv]
  rfl
/-- a text's cells -/
def strF (s : List UInt8) : List Value := [.string (B s)]
section
variable {w : World}
def IdxS (w : World) (l : List (List UInt8)) (u : List UInt8) (e : Ending) (w' : World) : Prop := (u ∈ l ∧ (∃ j : Nat, j ≤ l.length ∧ e = .returned (.int .i64 j)) ∨ u ∉ l ∧ e = .returned (.int .i64 (-1))) ∧ Fr [] w w'
set_option maxRecDepth 100000 in
set_option maxHeartbeats 4000000 in
theorem idxS_any {A : Option Addr} {cap : Nat} {l : List (List UInt8)} (u : List UInt8) (h : RAt w A 1 strF l) (hl : l.length ≤ 20) (hc : l.length ≤ cap) (hm : cap ≤ maxLen) :
    Calls Try.prog 84 #[.slice A l.length cap, .string (B u)] w (IdxS w l u) := by
  have H := Lib.hid h
  unfold maxLen at hm
  clear h
  go_enter Try.func84, Try.ntmps84
  go_wp2_with fail
  go_loopw [8] (fun iv wr => ∃ j : Nat, j ≤ l.length ∧ iv = .int .i64 j ∧ u ∉ l.take j ∧ Fr [] w wr) (fun iv _ => l.length - (intOf iv).toNat)
  case atStart => exact ⟨0, by omega, rfl, by simp, Fr.refl _ _⟩
  case round =>
    obtain ⟨j, hj, rfl, hnot, hF⟩ := hrel
    by_cases hjl : j < l.length
    · obtain ⟨s, ht⟩ : ∃ t, l[j]? = some t := ⟨_, List.getElem?_eq_getElem hjl⟩
      obtain ⟨b, rfl, hb, hcell⟩ := H.out j _ ht
      have c0 : wr.cell? ⟨b, j, none⟩ = some (.string (B s)) := by have := hcell _ hF 0 _ rfl; simpa using this
      have hjb : (j : Int) ≤ 20 := by omega
      by_cases he : u = s
      · have HX : Hid (∀ W, Fr [] wr W → IdxS w l u (.returned (.int .i64 j)) W) := Lib.hid fun W hW => ⟨Or.inl ⟨by rw [he]; exact List.mem_of_getElem? ht, j, by omega, rfl⟩, hF.trans hW⟩
        have HY := Lib.hid (HX.out _ (Fr.refl _ _))
        subst he
        clear hcell ht hb hnot hF HX
        go_wp2_with fail
        go_ret
        exact HY.out
      · have HNX : Hid (u ∉ l.take (j + 1)) := Lib.hid (by
          rw [List.take_add_one, ht]
          simp only [Option.toList_some, List.mem_append, List.mem_singleton]
          intro hh
          rcases hh with hh | hh
          · exact hnot hh
          · exact he hh)
        have he2 : ¬ B u = B s := fun e => he (by have := congrArg (fun x : ByteArray => x.toList) e; simpa [B_toList] using this)
        have he3 : (B u == B s) = false := by
          show ((B u).data == (B s).data) = false
          rw [beq_eq_false_iff_ne]
          exact fun h => he2 (ByteArray.ext h)
        have he4 : (u == s) = false := by rw [beq_eq_false_iff_ne]; exact he
        have HF := Lib.hid hF
        clear hcell ht hb hnot hF
        go_wp2_with fail
        go_roundw
        case rel => exact ⟨j + 1, by omega, by go_num, HNX.out, HF.out⟩
        case measure => (simp [intOf]) <;> omega
    · obtain rfl : j = l.length := by omega
      have hge : ¬ (l.length : Int) < l.length := by omega
      rw [List.take_length] at hnot
      have HX : Hid (IdxS w l u (.returned (.int .i64 (-1))) wr) := Lib.hid ⟨Or.inr ⟨hnot, rfl⟩, hF⟩
      clear hj hjl hnot hF
      go_wp2_with fail
      go_ret
      exact HX.out
set_option maxRecDepth 100000 in
theorem hasS_any {A : Option Addr} {cap : Nat} {l : List (List UInt8)} (u : List UInt8) (h : RAt w A 1 strF l) (hl : l.length ≤ 20) (hc : l.length ≤ cap) (hm : cap ≤ maxLen) :
    Calls Try.prog 71 #[.slice A l.length cap, .string (B u)] w fun e w' => e = .returned (.bool (decide (u ∈ l))) ∧ Fr [] w w' := by
  have IX := Lib.hid (idxS_any u h hl hc hm)
  clear h hl hc hm
  by_cases hin : u ∈ l
  · rw [decide_eq_true hin]
    go_enter Try.func71, Try.ntmps71
    go_wp2_with fail
    refine IX.out.mono ?_
    rintro e w1 ⟨hi, hF⟩
    have HF := Lib.hid hF
    rcases hi with ⟨_, j, _, rfl⟩ | ⟨hout, _⟩
    · clear hF hin
      go_wp2_with fail
      go_ret
      exact ⟨rfl, HF.out⟩
    · exact absurd hin hout
  · rw [decide_eq_false hin]
    go_enter Try.func71, Try.ntmps71
    go_wp2_with fail
    refine IX.out.mono ?_
    rintro e w1 ⟨hi, hF⟩
    have HF := Lib.hid hF
    rcases hi with ⟨hout, _⟩ | ⟨_, rfl⟩
    · exact absurd hout hin
    · clear hF hin
      go_wp2_with fail
      go_ret
      exact ⟨rfl, HF.out⟩
end
end Go.Proofs.Ytcdencpkgfehlaa
