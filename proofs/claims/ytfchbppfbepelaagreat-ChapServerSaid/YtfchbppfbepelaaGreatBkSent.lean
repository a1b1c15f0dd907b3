/- the book: packets that were sent (without options), and what such a book is. -/
import Derived.Test.YtfchbppfbepelaaGreatApPkts
namespace Go.Proofs.YtfchbppfbepelaaGreat
open Go.RowKit
set_option linter.unusedVariables false
/-- a wide struct's literal, built -/
theorem wpList_build1 {P : Program} {ops : Array Oper} {rest : List Oper} {o1 : Oper} {a : Act} {w : World} {Q : Exit → Act → World → Prop} (g1 : o1.guard = none)
    (T : TypeId) (parts : Array (Nat × Operand)) (h1 : o1.op = .build T parts) (C : Array Value) (hr1 : ∀ w, (Instr.build T (parts.map fun (i, x) => (i, a.eval x))).run P w = .ok (.agg C) w)
    (h : wpList P ops Q rest (a.put o1.dst (.agg C)) w) : wpList P ops Q (o1 :: rest) a w := by
  refine wpList_plain g1 fun K1 hK1 => ?_
  unfold Oper.wp execOp
  simp only [h1, Sem.run_bind, hr1, Result.andThen_ok, Sem.run_pure]
  exact hK1 _ _ h
theorem build_book (W : World) : (Instr.build 52 #[]).run Tryz.prog W = .ok (.agg #[.slice none 0 0, .slice none 0 0, .slice none 0 0, .slice none 0 0, .slice none 0 0, .slice none 0 0, .slice none 0 0, .slice none 0 0, .slice none 0 0, .slice none 0 0, .slice none 0 0, .slice none 0 0, .slice none 0 0, .slice none 0 0, .slice none 0 0, .slice none 0 0, .slice none 0 0, .slice none 0 0, .slice none 0 0, .slice none 0 0, .slice none 0 0, .slice none 0 0, .slice none 0 0, .slice none 0 0, .slice none 0 0, .slice none 0 0, .slice none 0 0, .slice none 0 0, .slice none 0 0, .slice none 0 0, .slice none 0 0, .slice none 0 0, .slice none 0 0, .slice none 0 0, .slice none 0 0, .slice none 0 0]) W := by kernel_rfl
/-- a book that has packets and their options (which are none) alone; its memory lies at B0 or above -/
structure BkS (B0 : Nat) (w : World) (b : Nat) (kp : List (Bl (Int × Int × List UInt8))) : Prop where
  ex : ∃ (Fb : Nat → Value) (ko : List (Bl (Int × List UInt8))), Blk w b (bkC Fb) 52 ∧ (∀ j, j ≠ 8 → j ≠ 9 → j ≠ 10 → j ≠ 11 → Fb j = .slice none 0 0) ∧
    KB 316 54 2 optF w (Fb 8) (Fb 9) ko ∧ (∀ u, u ∈ ko → u.v = .slice none 0 0 ∧ u.xs = []) ∧ KB 56 53 4 pkF w (Fb 10) (Fb 11) kp ∧
    (∀ q, q ∈ ((Fb 8).ownBlock.toList ++ (Fb 9).ownBlock.toList) ++ ((Fb 10).ownBlock.toList ++ (Fb 11).ownBlock.toList) → B0 ≤ q)
  hb : B0 ≤ b
  hl : ∀ u, u ∈ kp → ∀ q, u.v.ownBlock = some q → B0 ≤ q
/-- frames over blocks that lie at B0 or above and are of the book's -/
def FrT (B0 : Nat) (w w' : World) : Prop := ∃ S, Fr S w w' ∧ ∀ q, q ∈ S → B0 ≤ q ∧ ∃ cur T, Blk w q cur T ∧ (T = 52 ∨ T = 54 ∨ T = 53)
theorem FrT.of {B0 : Nat} {w w' : World} (h : Fr [] w w') : FrT B0 w w' := ⟨[], h, fun q hq => by cases hq⟩
theorem FrT.blk {B0 : Nat} {w w' : World} (h : FrT B0 w w') {g T : Nat} {cs : Array Value} (hB : Blk w g cs T) (h1 : T ≠ 52) (h2 : T ≠ 54) (h3 : T ≠ 53) : Blk w' g cs T := by
  obtain ⟨S, hF, hS⟩ := h
  refine hF.blk hB fun hg => ?_
  obtain ⟨_, cur, U, hc, hU⟩ := hS g hg
  rcases hU with rfl | rfl | rfl
  · exact hB.neT hc h1 rfl
  · exact hB.neT hc h2 rfl
  · exact hB.neT hc h3 rfl
theorem FrT.size {B0 : Nat} {w w' : World} (h : FrT B0 w w') : w.heap.size ≤ w'.heap.size := by
  obtain ⟨S, hF, _⟩ := h
  exact hF.size
theorem FrT.trans {B0 : Nat} {a b c : World} (h : FrT B0 a b) (k : FrT B0 b c) : FrT B0 a c := by
  obtain ⟨S, hF, hS⟩ := h
  obtain ⟨S2, kF, kS⟩ := k
  refine ⟨S ++ S2.filter (fun q => decide (q < a.heap.size)), (hF.mono (fun x hx => List.mem_append_left _ hx)).sub kF (fun x hx => ?_), fun q hq => ?_⟩
  · by_cases hl : x < a.heap.size
    · exact Or.inl (List.mem_append_right _ (List.mem_filter.2 ⟨hx, by simpa using hl⟩))
    · exact Or.inr (Nat.le_of_not_lt hl)
  · rcases List.mem_append.1 hq with h1 | h1
    · exact hS q h1
    · obtain ⟨h2, h3⟩ := List.mem_filter.1 h1
      have h3 : q < a.heap.size := by simpa using h3
      obtain ⟨hb, cur, T, hc, hT⟩ := kS q h2
      by_cases hqS : q ∈ S
      · exact ⟨hb, (hS q hqS).2⟩
      · refine ⟨hb, cur, T, ?_, hT⟩
        unfold Blk at hc ⊢
        rw [← hF.block q h3 hqS]
        exact hc
theorem FrT.fr {B0 : Nat} {w0 w w' : World} (h : FrT B0 w w') (h0 : Fr [] w0 w) (hb : w0.heap.size ≤ B0) : Fr [] w0 w' := by
  obtain ⟨S, hF, hS⟩ := h
  exact h0.sub hF fun x hx => Or.inr (Nat.le_trans hb (hS x hx).1)
/-- rows of another type stay -/
theorem FrT.row {B0 : Nat} {w w' : World} (h : FrT B0 w w') {base sz n : Nat} {T : TypeId} {v : Value} {ys : List Value} (hr : w.ownsRow base T sz v n ys) (h1 : T ≠ 52) (h2 : T ≠ 54) (h3 : T ≠ 53) : w'.ownsRow base T sz v n ys := by
  obtain ⟨S, hF, hS⟩ := h
  refine rown_off hr hF fun q hq cur U hc hU => ?_
  subst hU
  obtain ⟨_, cur', U', hc', hU'⟩ := hS q hq
  rcases hU' with rfl | rfl | rfl
  · exact hc.neT hc' h1 rfl
  · exact hc.neT hc' h2 rfl
  · exact hc.neT hc' h3 rfl
theorem BkS.fr {B0 : Nat} {w w' : World} {b : Nat} {kp : List (Bl (Int × Int × List UInt8))} (h : BkS B0 w b kp) {S : List Nat} (hF : Fr S w w') (hS : ∀ q, q ∈ S → ∀ cur T, Blk w q cur T → T ≠ 52 ∧ T ≠ 316 ∧ T ≠ 54 ∧ T ≠ 56 ∧ T ≠ 53) : BkS B0 w' b kp := by
  obtain ⟨⟨Fb, ko, hB, hn, h8, ho, h10, hb⟩, hbb, hll⟩ := h
  exact ⟨⟨Fb, ko, hF.blk hB (fun hq => (hS b hq _ _ hB).1 rfl), hn, h8.off hF (fun q hq cur T hc => ⟨(hS q hq cur T hc).2.1, (hS q hq cur T hc).2.2.1⟩), ho, h10.off hF (fun q hq cur T hc => ⟨(hS q hq cur T hc).2.2.2.1, (hS q hq cur T hc).2.2.2.2⟩), hb⟩, hbb, hll⟩
theorem BkS.fr0 {B0 : Nat} {w w' : World} {b : Nat} {kp : List (Bl (Int × Int × List UInt8))} (h : BkS B0 w b kp) (hF : Fr [] w w') : BkS B0 w' b kp := h.fr hF (fun q hq => by cases hq)
theorem BkS.new (w : World) : BkS w.heap.size (w.alloc (.cells (bkC fun _ => .slice none 0 0) 52 (0, 0))) w.heap.size [] :=
  ⟨⟨fun _ => .slice none 0 0, [], Blk.new _ _ _, fun _ _ _ _ _ => rfl, KB.nil _, by simp, KB.nil _, by simp [Value.ownBlock]⟩, Nat.le_refl _, by simp⟩
section
variable {w : World} {B0 b : Nat} {kp : List (Bl (Int × Int × List UInt8))}
theorem BkS.opts (h : BkS B0 w b kp) (hw : B0 ≤ w.heap.size) :
    Calls Tryz.prog 106 #[.pointer (some ⟨b, 0, none⟩), .slice none 0 0] w fun e w' => e = .returned (.tuple #[]) ∧ BkS B0 w' b kp ∧ FrT B0 w w' := by
  obtain ⟨⟨Fb, ko, hB, hn, h8, ho, h10, hb⟩, hbb, hll⟩ := h
  refine (opt_add hB h8 none 0 [] (World.ownsRow_nil _ _ _ _) (by simp) (fun u hu q hq => by simp [Value.ownBlock])).mono ?_
  rintro e w' ⟨rfl, Fb', k', hB', hsame, hK, hk, hF, hq⟩
  have hty : ∀ q, q ∈ b :: ((Fb 8).ownBlock.toList ++ (Fb 9).ownBlock.toList) → B0 ≤ q ∧ ∃ cur T, Blk w q cur T ∧ (T = 52 ∨ T = 54 ∨ T = 53) := fun q hq => by
    rcases List.mem_cons.1 hq with rfl | h1
    · exact ⟨hbb, _, _, hB, Or.inl rfl⟩
    · obtain ⟨cur, hc⟩ := h8.blk q h1
      exact ⟨hb q (List.mem_append_left _ h1), cur, _, hc, Or.inr (Or.inl rfl)⟩
  refine ⟨rfl, ⟨⟨Fb', k', hB', fun j h1 h2 h3 h4 => by rw [hsame j h1 h2]; exact hn j h1 h2 h3 h4, hK, fun u hu => ?_, ?_, fun q hm => ?_⟩, hbb, hll⟩, _, hF, hty⟩
  · rcases hk with rfl | rfl
    · exact ho u hu
    · rcases List.mem_append.1 hu with h1 | h1
      · exact ho u h1
      · simp at h1; subst h1; exact ⟨rfl, rfl⟩
  · rw [hsame 10 (by decide) (by decide), hsame 11 (by decide) (by decide)]
    refine h10.off hF fun q hq cur T hc => ?_
    obtain ⟨_, cur', U, hc', hU⟩ := hty q hq
    refine ⟨fun hT => ?_, fun hT => ?_⟩
    · subst hT
      rcases hU with rfl | rfl | rfl
      · exact hc.neT hc' (by decide) rfl
      · exact hc.neT hc' (by decide) rfl
      · exact hc.neT hc' (by decide) rfl
    · subst hT
      rcases List.mem_cons.1 hq with rfl | h1
      · exact hB.neT hc (by decide) rfl
      · obtain ⟨cur2, hc2⟩ := h8.blk q h1
        exact hc.neT hc2 (by decide) rfl
  · rcases List.mem_append.1 hm with h1 | h1
    · rcases hq q h1 with h2 | h2
      · exact hb q (List.mem_append_left _ h2)
      · exact Nat.le_trans hw h2
    · rw [hsame 10 (by decide) (by decide), hsame 11 (by decide) (by decide)] at h1
      exact hb q (List.mem_append_right _ h1)
theorem BkS.pkts (h : BkS B0 w b kp) (hw : B0 ≤ w.heap.size) (A : Option Addr) (c : Nat) (l : List (Int × Int × List UInt8)) (hx : w.ownsRow 0 56 4 (.slice A l.length c) l.length (rowF pkF l)) (hl : l.length ≤ 2000) (hap : ∀ u, u ∈ kp → ∀ q, u.v.ownBlock = some q → (Value.slice A l.length c).ownBlock ≠ some q) (hvb : ∀ q, (Value.slice A l.length c).ownBlock = some q → B0 ≤ q) :
    Calls Tryz.prog 107 #[.pointer (some ⟨b, 0, none⟩), .slice A l.length c] w fun e w' => e = .returned (.tuple #[]) ∧ (∃ kp', BkS B0 w' b kp' ∧ (kp' = kp ∨ kp' = kp ++ [⟨.slice A l.length c, l⟩])) ∧ FrT B0 w w' := by
  obtain ⟨⟨Fb, ko, hB, hn, h8, ho, h10, hb⟩, hbb, hll⟩ := h
  refine (pk_add hB h10 A c l hx hl hap).mono ?_
  rintro e w' ⟨rfl, Fb', k', hB', hsame, hK, hk, hF, hq⟩
  have hty : ∀ q, q ∈ b :: ((Fb 10).ownBlock.toList ++ (Fb 11).ownBlock.toList) → B0 ≤ q ∧ ∃ cur T, Blk w q cur T ∧ (T = 52 ∨ T = 54 ∨ T = 53) := fun q hq => by
    rcases List.mem_cons.1 hq with rfl | h1
    · exact ⟨hbb, _, _, hB, Or.inl rfl⟩
    · obtain ⟨cur, hc⟩ := h10.blk q h1
      exact ⟨hb q (List.mem_append_right _ h1), cur, _, hc, Or.inr (Or.inr rfl)⟩
  refine ⟨rfl, ⟨k', ⟨⟨Fb', ko, hB', fun j h1 h2 h3 h4 => by rw [hsame j h3 h4]; exact hn j h1 h2 h3 h4, ?_, ho, hK, fun q hm => ?_⟩, hbb, fun u hu q hq => ?_⟩, hk⟩, _, hF, hty⟩
  · rw [hsame 8 (by decide) (by decide), hsame 9 (by decide) (by decide)]
    refine h8.off hF fun q hq cur T hc => ?_
    refine ⟨fun hT => ?_, fun hT => ?_⟩
    · subst hT
      rcases List.mem_cons.1 hq with rfl | h1
      · exact hB.neT hc (by decide) rfl
      · obtain ⟨cur2, hc2⟩ := h10.blk q h1
        exact hc.neT hc2 (by decide) rfl
    · subst hT
      rcases List.mem_cons.1 hq with rfl | h1
      · exact hB.neT hc (by decide) rfl
      · obtain ⟨cur2, hc2⟩ := h10.blk q h1
        exact hc.neT hc2 (by decide) rfl
  · rcases List.mem_append.1 hm with h1 | h1
    · rw [hsame 8 (by decide) (by decide), hsame 9 (by decide) (by decide)] at h1
      exact hb q (List.mem_append_left _ h1)
    · rcases hq q h1 with h2 | h2
      · exact hb q (List.mem_append_right _ h2)
      · exact Nat.le_trans hw h2
  · rcases hk with rfl | rfl
    · exact hll u hu q hq
    · rcases List.mem_append.1 hu with h1 | h1
      · exact hll u h1 q hq
      · simp at h1; subst h1; exact hvb q hq
/-- Sent: packets, and their options -/
theorem BkS.sent (h : BkS B0 w b kp) (hw : B0 ≤ w.heap.size) (A : Option Addr) (c : Nat) (l : List (Int × Int × List UInt8)) (hx : w.ownsRow 0 56 4 (.slice A l.length c) l.length (rowF pkF l)) (hl : l.length ≤ 2000) (hap : ∀ u, u ∈ kp → ∀ q, u.v.ownBlock = some q → (Value.slice A l.length c).ownBlock ≠ some q) (hvb : ∀ q, (Value.slice A l.length c).ownBlock = some q → B0 ≤ q) :
    Calls Tryz.prog 19 #[.pointer (some ⟨b, 0, none⟩), .slice A l.length c] w fun e w' => e = .returned (.tuple #[]) ∧ (∃ kp', BkS B0 w' b kp' ∧ (kp' = kp ∨ kp' = kp ++ [⟨.slice A l.length c, l⟩])) ∧ FrT B0 w w' := by
  have hlI : (l.length : Int) ≤ 2000 := by omega
  have H := Lib.hid h
  have HX := Lib.hid hx
  have HAP := Lib.hid hap
  have HVB := Lib.hid hvb
  clear h hx hap hvb
  go_enter Tryz.func19, Tryz.ntmps19
  go_wp2_with fail
  go_loopw [4] (fun iv wr => ∃ j : Nat, j ≤ l.length ∧ iv = .int .i64 j ∧ BkS B0 wr b kp ∧ FrT B0 w wr) (fun iv _ => l.length - (intOf iv).toNat)
  case atStart => exact ⟨0, Nat.zero_le _, rfl, H.out, FrT.of (Fr.refl _ _)⟩
  case round =>
    obtain ⟨j, hj, rfl, hK, hF⟩ := hrel
    have hwr : B0 ≤ wr.heap.size := Nat.le_trans hw hF.size
    have hrow := hF.row HX.out (by decide) (by decide) (by decide)
    by_cases hjl : j < l.length
    · obtain ⟨q, cap, hv, hqb, hql⟩ := hrow.form (by omega)
      injection hv with e1 e2 e3
      subst e1 e3
      have y2 : wr.cell? ⟨q, j * 4 + 2, none⟩ = some (.slice none 0 0) := by
        rw [hrow.cellAt (j * 4 + 2) (by omega), rowF_get pkF_len l j _ (List.getElem?_eq_getElem hjl) 2 (by decide)]
        rfl
      have hcp := rown_caps hrow
      have hcp1 := hcp.1
      have hcp2 := hcp.2
      have HK := Lib.hid hK
      have HF := Lib.hid hF
      have HO : Hid (∀ N, BkS B0 (wr.drewN N) b kp) := Lib.hid fun N => hK.fr0 ((Fr.refl [] wr).drewN N)
      clear hK hF hrow hcp
      go_wp2_with (go_at_call 106; refine (HK.out.opts hwr).mono ?_; rintro e wn ⟨rfl, hK2, hF2⟩)
      have HK2 := Lib.hid (And.intro hK2 (HF.out.trans hF2))
      clear hK2 hF2 y2
      go_wp2_with fail
      go_roundw
      case rel => exact ⟨j + 1, by omega, by go_num, HK2.out.1, HK2.out.2⟩
      case measure => (simp [intOf]) <;> omega
    · obtain rfl : j = l.length := by omega
      have HF := Lib.hid hF
      have HS := Lib.hid (hK.pkts hwr A c l hrow hl HAP.out HVB.out)
      clear hK hF hrow
      go_wp2_with (go_at_call 107; refine HS.out.mono ?_; rintro e wn ⟨rfl, hK2, hF2⟩)
      have HEND := Lib.hid (And.intro hK2 (HF.out.trans hF2))
      clear hK2 hF2
      go_wp2_with fail
      exact bodyPost_end (results_none rfl _ _ _) rfl ⟨rfl, HEND.out⟩
theorem BkS.lt (h : BkS B0 w b kp) : ∀ u, u ∈ kp → ∀ q, u.v.ownBlock = some q → q < w.heap.size := fun u hu q hq => by
  obtain ⟨⟨Fb, ko, hB, hn, h8, ho, h10, hb⟩, hbb, hll⟩ := h
  obtain ⟨ws, hK, _⟩ := h10
  obtain ⟨cur, hc⟩ := rown_blk (hK.ls u hu) q hq
  exact hc.lt
theorem BkS.apart {w0 : World} (h : BkS w0.heap.size w b kp) (h0 : Fr [] w0 w) : Calls Tryz.prog 26 #[.pointer (some ⟨b, 0, none⟩)] w fun e w' => e = .returned (.bool true) ∧ Fr [] w0 w' := by
  obtain ⟨⟨Fb, ko, hB, hn, h8, ho, h10, hb⟩, hbb, hll⟩ := h
  refine apart_pkts hB h0 (hn 0 (by decide) (by decide) (by decide) (by decide)) (hn 2 (by decide) (by decide) (by decide) (by decide)) (hn 4 (by decide) (by decide) (by decide) (by decide)) (hn 6 (by decide) (by decide) (by decide) (by decide)) (hn 12 (by decide) (by decide) (by decide) (by decide)) (hn 14 (by decide) (by decide) (by decide) (by decide)) (hn 16 (by decide) (by decide) (by decide) (by decide)) (hn 18 (by decide) (by decide) (by decide) (by decide)) (hn 20 (by decide) (by decide) (by decide) (by decide)) (hn 22 (by decide) (by decide) (by decide) (by decide)) (hn 24 (by decide) (by decide) (by decide) (by decide)) (hn 26 (by decide) (by decide) (by decide) (by decide)) (hn 28 (by decide) (by decide) (by decide) (by decide)) (hn 30 (by decide) (by decide) (by decide) (by decide)) (hn 32 (by decide) (by decide) (by decide) (by decide)) (hn 34 (by decide) (by decide) (by decide) (by decide)) h8 h10 (fun u hu q hq => ?_) hll
  rw [(ho u hu).1] at hq
  cases hq
end
end Go.Proofs.YtfchbppfbepelaaGreat
