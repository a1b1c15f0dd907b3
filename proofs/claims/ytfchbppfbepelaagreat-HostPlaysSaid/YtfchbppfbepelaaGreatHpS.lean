/- two hosts and a book of frames: what a round finds, and what each call leaves of it. -/
import Derived.Test.YtfchbppfbepelaaGreatHpL
import Derived.Test.YtfchbppfbepelaaGreatApEths
import Derived.Test.YtfchbppfbepelaaGreatMgA
namespace Go.Proofs.YtfchbppfbepelaaGreat
open Go.RowKit Go.Maps
set_option linter.unusedVariables false
theorem wpList_buildK {P : Program} {ops : Array Oper} {rest : List Oper} {o1 : Oper} {a : Act} {w : World} {Q : Exit → Act → World → Prop} (g1 : o1.guard = none)
    (T : TypeId) (parts : Array (Nat × Operand)) (h1 : o1.op = .build T parts) (C : Array Value) (hr1 : ∀ w, (Instr.build T (parts.map fun (i, x) => (i, a.eval x))).run P w = .ok (.agg C) w)
    (h : wpList P ops Q rest (a.put o1.dst (.agg C)) w) : wpList P ops Q (o1 :: rest) a w := by
  refine wpList_plain g1 fun K1 hK1 => ?_
  unfold Oper.wp execOp
  simp only [h1, Sem.run_bind, hr1, Result.andThen_ok, Sem.run_pure]
  exact hK1 _ _ h
/-- a book that has frames alone; its memory lies at B0 or above -/
structure BkE (B0 : Nat) (w : World) (b : Nat) (kp : List (Bl Eth)) : Prop where
  ex : ∃ (Fb : Nat → Value), Blk w b (bkC Fb) 52 ∧ (∀ j, j ≠ 4 → j ≠ 5 → Fb j = .slice none 0 0) ∧
    KB 113 116 14 etF w (Fb 4) (Fb 5) kp ∧ (∀ q, q ∈ (Fb 4).ownBlock.toList ++ (Fb 5).ownBlock.toList → B0 ≤ q)
  hb : B0 ≤ b
  hl : ∀ u, u ∈ kp → ∀ q, u.v.ownBlock = some q → B0 ≤ q
def FrE (B0 : Nat) (w w' : World) : Prop := ∃ S, Fr S w w' ∧ ∀ q, q ∈ S → B0 ≤ q ∧ ∃ cur T, Blk w q cur T ∧ (T = 52 ∨ T = 116)
theorem FrE.row {B0 : Nat} {w w' : World} (h : FrE B0 w w') {base sz n : Nat} {T : TypeId} {v : Value} {ys : List Value} (hr : w.ownsRow base T sz v n ys) (h1 : T ≠ 52) (h2 : T ≠ 116) : w'.ownsRow base T sz v n ys := by
  obtain ⟨S, hF, hS⟩ := h
  refine rown_off hr hF fun q hq cur U hc hU => ?_
  subst hU
  obtain ⟨_, cur', U', hc', hU'⟩ := hS q hq
  rcases hU' with rfl | rfl
  · exact hc.neT hc' h1 rfl
  · exact hc.neT hc' h2 rfl
theorem FrE.blk {B0 : Nat} {w w' : World} (h : FrE B0 w w') {g T : Nat} {cs : Array Value} (hB : Blk w g cs T) (h1 : T ≠ 52) (h2 : T ≠ 116) : Blk w' g cs T := by
  obtain ⟨S, hF, hS⟩ := h
  refine hF.blk hB fun hg => ?_
  obtain ⟨_, cur, U, hc, hU⟩ := hS g hg
  rcases hU with rfl | rfl
  · exact hB.neT hc h1 rfl
  · exact hB.neT hc h2 rfl
theorem BkE.fr {B0 : Nat} {w w' : World} {b : Nat} {kp : List (Bl Eth)} (h : BkE B0 w b kp) {S : List Nat} (hF : Fr S w w') (hS : ∀ q, q ∈ S → ∀ cur T, Blk w q cur T → T ≠ 52 ∧ T ≠ 113 ∧ T ≠ 116) : BkE B0 w' b kp := by
  obtain ⟨⟨Fb, hB, hn, h8, hb⟩, hbb, hll⟩ := h
  exact ⟨⟨Fb, hF.blk hB (fun hq => (hS b hq _ _ hB).1 rfl), hn, h8.off hF (fun q hq cur T hc => (hS q hq cur T hc).2), hb⟩, hbb, hll⟩
theorem BkE.fr0 {B0 : Nat} {w w' : World} {b : Nat} {kp : List (Bl Eth)} (h : BkE B0 w b kp) (hF : Fr [] w w') : BkE B0 w' b kp := h.fr hF (fun q hq => by cases hq)
theorem BkE.new {B0 : Nat} (w : World) (hw : B0 ≤ w.heap.size) : BkE B0 (w.alloc (.cells (bkC fun _ => .slice none 0 0) 52 (0, 0))) w.heap.size [] :=
  ⟨⟨fun _ => .slice none 0 0, Blk.new _ _ _, fun _ _ _ => rfl, KB.nil _, by simp [Value.ownBlock]⟩, hw, by simp⟩
theorem ethF_etF (l : List Eth) : rowF ethF l = rowF etF l := rfl
section
variable {w : World} {B0 b : Nat} {kp : List (Bl Eth)}
theorem BkE.eths (h : BkE B0 w b kp) (hw : B0 ≤ w.heap.size) (A : Option Addr) (c : Nat) (l : List Eth) (hx : w.ownsRow 0 113 14 (.slice A l.length c) l.length (rowF etF l)) (hl : l.length ≤ 2000) (hap : ∀ u, u ∈ kp → ∀ q, u.v.ownBlock = some q → (Value.slice A l.length c).ownBlock ≠ some q) (hvb : ∀ q, (Value.slice A l.length c).ownBlock = some q → B0 ≤ q) :
    Calls Tryz.prog 62 #[.pointer (some ⟨b, 0, none⟩), .slice A l.length c] w fun e w' => e = .returned (.tuple #[]) ∧ (∃ kp', BkE B0 w' b kp') ∧ FrE B0 w w' := by
  obtain ⟨⟨Fb, hB, hn, h10, hb⟩, hbb, hll⟩ := h
  refine (et_add hB h10 A c l hx hl hap).mono ?_
  rintro e w' ⟨rfl, Fb', k', hB', hsame, hK, hk, hF, hq⟩
  have hty : ∀ q, q ∈ b :: ((Fb 4).ownBlock.toList ++ (Fb 5).ownBlock.toList) → B0 ≤ q ∧ ∃ cur T, Blk w q cur T ∧ (T = 52 ∨ T = 116) := fun q hq => by
    rcases List.mem_cons.1 hq with rfl | h1
    · exact ⟨hbb, _, _, hB, Or.inl rfl⟩
    · obtain ⟨cur, hc⟩ := h10.blk q h1
      exact ⟨hb q h1, cur, _, hc, Or.inr rfl⟩
  refine ⟨rfl, ⟨k', ⟨Fb', hB', fun j h1 h2 => by rw [hsame j h1 h2]; exact hn j h1 h2, hK, fun q hm => ?_⟩, hbb, fun u hu q hq => ?_⟩, _, hF, hty⟩
  · rcases hq q hm with h2 | h2
    · exact hb q h2
    · exact Nat.le_trans hw h2
  · rcases hk with rfl | rfl
    · exact hll u hu q hq
    · rcases List.mem_append.1 hu with h1 | h1
      · exact hll u h1 q hq
      · simp at h1; subst h1; exact hvb q hq
theorem BkE.lt (h : BkE B0 w b kp) : ∀ u, u ∈ kp → ∀ q, u.v.ownBlock = some q → q < w.heap.size := fun u hu q hq => by
  obtain ⟨⟨Fb, hB, hn, h10, hb⟩, hbb, hll⟩ := h
  obtain ⟨ws, hK, _⟩ := h10
  obtain ⟨cur, hc⟩ := rown_blk (hK.ls u hu) q hq
  exact hc.lt
theorem BkE.apart {w0 : World} (h : BkE w0.heap.size w b kp) (h0 : Fr [] w0 w) : Calls Tryz.prog 26 #[.pointer (some ⟨b, 0, none⟩)] w fun e w' => e = .returned (.bool true) ∧ Fr [] w0 w' := by
  obtain ⟨⟨Fb, hB, hn, h10, hb⟩, hbb, hll⟩ := h
  exact apart_eths hB h0 (hn 0 (by decide) (by decide)) (hn 2 (by decide) (by decide)) (hn 6 (by decide) (by decide)) (hn 8 (by decide) (by decide)) (hn 10 (by decide) (by decide)) (hn 12 (by decide) (by decide)) (hn 14 (by decide) (by decide)) (hn 16 (by decide) (by decide)) (hn 18 (by decide) (by decide)) (hn 20 (by decide) (by decide)) (hn 22 (by decide) (by decide)) (hn 24 (by decide) (by decide)) (hn 26 (by decide) (by decide)) (hn 28 (by decide) (by decide)) (hn 30 (by decide) (by decide)) (hn 32 (by decide) (by decide)) (hn 34 (by decide) (by decide)) h10 hll
end
/-- what a round of HostPlays finds -/
structure HPs (w0 : World) (b c g : Nat) (p : Ps) (d : Dh) (kp : List (Bl Eth)) (w : World) : Prop where
  hr : HR p d
  hi : HI p
  bk : BkE w0.heap.size w b kp
  pr : PhIs w c p
  dc : Blk w g (dhC d) 254
  fr : Fr [] w0 w
  hc : w0.heap.size ≤ c
  hg : w0.heap.size ≤ g
section
variable {w0 w : World} {b c g : Nat} {p : Ps} {d : Dh} {kp : List (Bl Eth)}
theorem HPs.fr0 (H : HPs w0 b c g p d kp w) {w' : World} (hF : Fr [] w w') : HPs w0 b c g p d kp w' :=
  ⟨H.hr, H.hi, H.bk.fr0 hF, H.pr.fr0 hF, hF.blk H.dc (by simp), H.fr.trans hF, H.hc, H.hg⟩
/-- the program's host has been called -/
theorem HPs.prog (H : HPs w0 b c g p d kp w) {w1 : World} (hF : Fr [c] w w1) : BkE w0.heap.size w1 b kp ∧ Blk w1 g (dhC d) 254 ∧ Fr [] w0 w1 := by
  obtain ⟨ck, hB, _⟩ := H.pr
  refine ⟨H.bk.fr hF (fun q hq cur T hc => ?_), hF.blk H.dc (fun hq => ?_), H.fr.sub hF (fun x hx => by simp at hx; subst hx; exact Or.inr H.hc)⟩
  · simp at hq
    subst hq
    exact ⟨fun e => hc.neT hB (by rw [e]; decide) rfl, fun e => hc.neT hB (by rw [e]; decide) rfl, fun e => hc.neT hB (by rw [e]; decide) rfl⟩
  · simp at hq
    exact absurd hq (H.dc.neT hB (by decide))
/-- then the document's -/
theorem HPs.doc (H : HPs w0 b c g p d kp w) {w1 w2 : World} {p' : Ps} {d' : Dh} (hr : HR p' d') (hi : HI p') (hb : BkE w0.heap.size w1 b kp) (hp : PhIs w1 c p') (hd1 : Blk w1 g (dhC d) 254) (h0 : Fr [] w0 w1) (hF : Fr [g] w1 w2) (hd : Blk w2 g (dhC d') 254) : HPs w0 b c g p' d' kp w2 := by
  refine ⟨hr, hi, hb.fr hF (fun q hq cur T hcc => ?_), hp.fr hF (fun q hq cur T hcc => ?_), hd, h0.sub hF (fun x hx => by simp at hx; subst hx; exact Or.inr H.hg), H.hc, H.hg⟩
  · simp at hq
    subst hq
    exact ⟨fun e => hcc.neT hd1 (by rw [e]; decide) rfl, fun e => hcc.neT hd1 (by rw [e]; decide) rfl, fun e => hcc.neT hd1 (by rw [e]; decide) rfl⟩
  · simp at hq
    subst hq
    exact ⟨fun e => hcc.neT hd1 (by rw [e]; decide) rfl, fun e => hcc.neT hd1 (by rw [e]; decide) rfl⟩
theorem HPs.book (H : HPs w0 b c g p d kp w) {w' : World} {kp' : List (Bl Eth)} (hF : FrE w0.heap.size w w') (hb : BkE w0.heap.size w' b kp') : HPs w0 b c g p d kp' w' := by
  have hst := hF.blk H.dc (by decide) (by decide)
  obtain ⟨S, hF, hS⟩ := hF
  refine ⟨H.hr, H.hi, hb, H.pr.fr hF (fun q hq cur T hc => ?_), hst, H.fr.sub hF (fun x hx => Or.inr (hS x hx).1), H.hc, H.hg⟩
  obtain ⟨_, cur', T', hc', hT'⟩ := hS q hq
  refine ⟨fun e => ?_, fun e => ?_⟩
  · subst e
    rcases hT' with rfl | rfl
    · exact hc.neT hc' (by decide) rfl
    · exact hc.neT hc' (by decide) rfl
  · subst e
    rcases hT' with rfl | rfl
    · exact hc.neT hc' (by decide) rfl
    · exact hc.neT hc' (by decide) rfl
end
end Go.Proofs.YtfchbppfbepelaaGreat
