/- host: the tags of what is asked, as long as no cookie is held. -/
import Derived.Test.YtcdencpkgfehlaaHost1
import Derived.Laws.Cover3
namespace Go.Proofs.Ytcdencpkgfehlaa
open Go.RowKit
set_option linter.unusedVariables false
theorem infoTag : (Try.prog.info? 54).map (fun i => (i.zero, i.size, i.bytes)) = some (some (.agg #[.int .i64 0, .string ⟨#[]⟩]), 2, 24) := by kernel_rfl
def tgF (l : List Tg) : List Value := l.flatMap tgL
theorem tgF_len (l : List Tg) : (tgF l).length = l.length * 2 := by
  unfold tgF
  induction l with
  | nil => rfl
  | cons k r ih => rw [List.flatMap_cons, List.length_append, ih, List.length_cons]; show 2 + _ = _; omega
theorem tgF_get (l : List Tg) (i : Nat) (t : Tg) (h : l[i]? = some t) (c : Nat) (hc : c < 2) : (tgF l)[i * 2 + c]? = (tgL t)[c]? := by
  induction l generalizing i with
  | nil => simp at h
  | cons u r ih =>
    unfold tgF at *
    rw [List.flatMap_cons]
    cases i with
    | zero =>
      simp at h
      subst h
      rw [List.getElem?_append_left (by show _ < 2; omega)]
      simp
    | succ i =>
      rw [List.getElem?_append_right (by show 2 ≤ _; omega)]
      have : (i + 1) * 2 + c - (tgL u).length = i * 2 + c := by show (i + 1) * 2 + c - 2 = _; omega
      rw [this]
      exact ih i (by simpa using h)
theorem TgAt.of_own {w : World} {base cap : Nat} {A : Option Addr} {l : List Tg} (h : w.ownsRow base 54 2 (.slice A l.length cap) l.length (tgF l)) : TgAt w A l := fun i t hi => by
  have hil := (List.getElem?_eq_some_iff.1 hi).1
  obtain ⟨g, cap', hv, hg, hlt⟩ := h.form (by omega)
  cases hv
  refine ⟨g, 0, rfl, hlt, fun W hW => ?_⟩
  have hc : ∀ c, c < 2 → w.cell? ⟨g, i * 2 + c, none⟩ = (tgL t)[c]? := fun c hc => by
    rw [h.cellAt (i * 2 + c) (by omega), tgF_get l i t hi c hc]
  have h0 : (0 + i * 2 : Nat) = i * 2 + 0 := by omega
  have h1 : (0 + i * 2 + 1 : Nat) = i * 2 + 1 := by omega
  rw [h1, h0]
  exact ⟨by rw [World.cell?_of_block (hW.block g hlt (by simp))]; exact hc 0 (by omega), by rw [World.cell?_of_block (hW.block g hlt (by simp))]; exact hc 1 (by omega)⟩
theorem own_caps {w : World} {base e sz n cap : Nat} {A : Option Addr} {ys : List Value} (h : w.ownsRow base e sz (.slice A n cap) n ys) : n ≤ cap ∧ cap ≤ maxLen := by
  rcases h.2 with ⟨h1, h2⟩ | ⟨g', cap', cur, h1, _, _, h4, h5, _⟩
  · injection h1 with _ _ e3; exact ⟨by omega, by unfold maxLen; omega⟩
  · injection h1 with _ _ e3; rw [e3]; exact ⟨h4, h5⟩
theorem own_slice {w : World} {base e sz n : Nat} {v : Value} {ys : List Value} (h : w.ownsRow base e sz v n ys) : ∃ A cap, v = .slice A n cap := by
  rcases h.2 with ⟨h1, h2⟩ | ⟨g', cap, cur, h1, _⟩
  · exact ⟨none, 0, by rw [h1, h2]⟩
  · exact ⟨_, _, h1⟩
def TagsP (w : World) (l : List Tg) (e : Ending) (w' : World) : Prop := ∃ A cap, e = .returned (.slice A l.length cap) ∧ TgAt w' A l ∧ l.length ≤ cap ∧ cap ≤ maxLen ∧ Fr [] w w'
/-- what a host asks with -/
def askT (h : Hs) : List Tg := (257, h.sv) :: (if h.un = [] then [] else [(259, h.un)])
section
variable {w : World} {g : Nat} {h : Hs} {ck : Value}
set_option maxRecDepth 100000 in
set_option maxHeartbeats 4000000 in
theorem tags_any (hB : Blk w g (hsC h ck) 92) : Calls Try.prog 66 #[.pointer (some ⟨g, 0, none⟩), .slice none 0 0] w (TagsP w (askT h)) := by
  obtain ⟨i0, hi, hz0, hz1, hz2⟩ := info_parts infoTag
  have C6 := Lib.hid fun W (hW : Fr [] w W) => (hW.blk hB (by simp)).c 6 (.string (B h.sv)) rfl
  have C7 := Lib.hid fun W (hW : Fr [] w W) => (hW.blk hB (by simp)).c 7 (.string (B h.un)) rfl
  obtain ⟨sv, hsv⟩ : ∃ x, h.sv = x := ⟨_, rfl⟩
  obtain ⟨un, hun⟩ : ∃ x, h.un = x := ⟨_, rfl⟩
  have HA : Hid (askT h = (257, sv) :: (if un = [] then [] else [(259, un)])) := Lib.hid (by unfold askT; rw [hsv, hun])
  rw [hsv] at C6
  rw [hun] at C7
  have d6 := C6.out _ (Fr.refl _ _)
  clear hsv hun
  go_enter Try.func66, Try.ntmps66
  go_wp2_with (at_builtin; refine wpList_append_any _ rfl _ _ 90 rfl w.heap.size 54 i0 (.agg #[.int .i64 0, .string ⟨#[]⟩]) 2 24 Try.underlying90 hi hz0 hz1 hz2 rfl (by decide) _ 1 (tgL (257, sv)) rfl (World.ownsRow_lit w #[.int .i64 257, .string (B sv)] 1 (Nat.le_refl _) (by unfold maxLen; omega) rfl) w.heap.size none 0 0 [] rfl Reads.none_ (by simp) ?c3 ?c4 ?c5 ?_)
  case c3 => unfold maxLen; omega
  case c4 => omega
  case c5 => simp
  intro v1 w1 hown1 hgr1 _
  have hF1 := ((Fr.refl [] w).alloc (.cells #[.int .i64 257, .string (B sv)] 54 (0, 0))).grown hgr1 (fun q hq => by cases hq; exact Nat.le_refl _)
  have d7 := C7.out _ hF1
  obtain ⟨A1, c1, rfl⟩ := own_slice hown1
  have hs1 := hF1.size
  clear hgr1 C6 C7 d6 hB
  by_cases hu : un = []
  · subst hu
    have hb : (B [] != ⟨#[]⟩) = false := rfl
    have hc := own_caps hown1
    have HX : Hid (TagsP w (askT h) (.returned (.slice A1 1 c1)) w1) := Lib.hid (by rw [HA.out, if_pos rfl]; exact ⟨A1, c1, rfl, TgAt.of_own (l := [(257, sv)]) hown1, hc.1, hc.2, hF1⟩)
    clear hown1 hc hF1
    go_wp2_with fail
    go_ret
    exact HX.out
  · have hs2 : ¬ B un = ⟨#[]⟩ := fun e => hu (List.eq_nil_of_length_eq_zero (by rw [← B_size, e]; rfl))
    have hs3 : (B un == ⟨#[]⟩) = false := by show ((B un).data == (#[] : Array UInt8)) = false; rw [beq_eq_false_iff_ne]; exact fun h => hs2 (ByteArray.ext h)
    have hb : (B un != ⟨#[]⟩) = true := by simp only [bne, hs3]; rfl
    have hie : un.isEmpty = false := by simpa using hu
    clear hs2 hs3 hb
    go_wp2_with (at_builtin; refine wpList_append_own _ rfl _ _ 90 rfl w.heap.size 54 i0 (.agg #[.int .i64 0, .string ⟨#[]⟩]) 2 24 Try.underlying90 hi hz0 hz1 hz2 rfl (by decide) _ 1 _ rfl (hown1.alloc _) ⟨w1.heap.size, 0, none⟩ 1 1 (tgL (259, un)) rfl rfl ?d1 ?d2 ?d3 ?d4 ?d5 ?_)
    case d1 => exact new_cells w1 (tgL (259, un)) 54
    case d2 => simp [tgL, Value.oneCell']
    case d3 => unfold maxLen; omega
    case d4 => omega
    case d5 => simp; omega
    intro v2 w2 hown2 hgr2 _
    have hF2 := (hF1.alloc (.cells #[.int .i64 259, .string (B un)] 54 (0, 0))).grown hgr2 (fun q hq => own_new hown1 q hq)
    obtain ⟨A2, c2, rfl⟩ := own_slice hown2
    have hc := own_caps hown2
    have HX : Hid (TagsP w (askT h) (.returned (.slice A2 (1 + 1) c2)) w2) := Lib.hid (by rw [HA.out, if_neg hu]; exact ⟨A2, c2, rfl, TgAt.of_own (l := [(257, sv), (259, un)]) hown2, hc.1, hc.2, hF2⟩)
    clear hown1 hown2 hgr2 hF2 hF1 hc
    go_wp2_with fail
    go_ret
    exact HX.out
end
end Go.Proofs.Ytcdencpkgfehlaa
