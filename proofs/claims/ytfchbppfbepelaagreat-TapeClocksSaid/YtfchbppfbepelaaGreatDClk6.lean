/- two clocks and a book of keys: what a round finds, and what each call leaves of it. -/
import Derived.Test.YtfchbppfbepelaaGreatDClk5
import Derived.Test.YtfchbppfbepelaaGreatApKeys
import Derived.Test.YtfchbppfbepelaaGreatStr
namespace Go.Proofs.YtfchbppfbepelaaGreat
open Go.RowKit Go.Maps
set_option linter.unusedVariables false
/-- a book that has keys alone; its memory lies at B0 or above -/
structure BkY (B0 : Nat) (w : World) (b : Nat) (kp : List (Bl (Int × Int))) : Prop where
  ex : ∃ (Fb : Nat → Value), Blk w b (bkC Fb) 52 ∧ (∀ j, j ≠ 16 → j ≠ 17 → Fb j = .slice none 0 0) ∧
    KB 141 146 2 keyF w (Fb 16) (Fb 17) kp ∧ (∀ q, q ∈ (Fb 16).ownBlock.toList ++ (Fb 17).ownBlock.toList → B0 ≤ q)
  hb : B0 ≤ b
  hl : ∀ u, u ∈ kp → ∀ q, u.v.ownBlock = some q → B0 ≤ q
def FrY (B0 : Nat) (w w' : World) : Prop := ∃ S, Fr S w w' ∧ ∀ q, q ∈ S → B0 ≤ q ∧ ∃ cur T, Blk w q cur T ∧ (T = 52 ∨ T = 146)
theorem FrY.row {B0 : Nat} {w w' : World} (h : FrY B0 w w') {base sz n : Nat} {T : TypeId} {v : Value} {ys : List Value} (hr : w.ownsRow base T sz v n ys) (h1 : T ≠ 52) (h2 : T ≠ 146) : w'.ownsRow base T sz v n ys := by
  obtain ⟨S, hF, hS⟩ := h
  refine rown_off hr hF fun q hq cur U hc hU => ?_
  subst hU
  obtain ⟨_, cur', U', hc', hU'⟩ := hS q hq
  rcases hU' with rfl | rfl
  · exact hc.neT hc' h1 rfl
  · exact hc.neT hc' h2 rfl
theorem FrY.blk {B0 : Nat} {w w' : World} (h : FrY B0 w w') {g T : Nat} {cs : Array Value} (hB : Blk w g cs T) (h1 : T ≠ 52) (h2 : T ≠ 146) : Blk w' g cs T := by
  obtain ⟨S, hF, hS⟩ := h
  refine hF.blk hB fun hg => ?_
  obtain ⟨_, cur, U, hc, hU⟩ := hS g hg
  rcases hU with rfl | rfl
  · exact hB.neT hc h1 rfl
  · exact hB.neT hc h2 rfl
theorem BkY.fr {B0 : Nat} {w w' : World} {b : Nat} {kp : List (Bl (Int × Int))} (h : BkY B0 w b kp) {S : List Nat} (hF : Fr S w w') (hS : ∀ q, q ∈ S → ∀ cur T, Blk w q cur T → T ≠ 52 ∧ T ≠ 141 ∧ T ≠ 146) : BkY B0 w' b kp := by
  obtain ⟨⟨Fb, hB, hn, h8, hb⟩, hbb, hll⟩ := h
  exact ⟨⟨Fb, hF.blk hB (fun hq => (hS b hq _ _ hB).1 rfl), hn, h8.off hF (fun q hq cur T hc => (hS q hq cur T hc).2), hb⟩, hbb, hll⟩
theorem BkY.fr0 {B0 : Nat} {w w' : World} {b : Nat} {kp : List (Bl (Int × Int))} (h : BkY B0 w b kp) (hF : Fr [] w w') : BkY B0 w' b kp := h.fr hF (fun q hq => by cases hq)
theorem BkY.new {B0 : Nat} (w : World) (hw : B0 ≤ w.heap.size) : BkY B0 (w.alloc (.cells (bkC fun _ => .slice none 0 0) 52 (0, 0))) w.heap.size [] :=
  ⟨⟨fun _ => .slice none 0 0, Blk.new _ _ _, fun _ _ _ => rfl, KB.nil _, by simp [Value.ownBlock]⟩, hw, by simp⟩
theorem rowF_key (l : List Ky) : rowF keyF l = flatKy l := rfl
section
variable {w : World} {B0 b : Nat} {kp : List (Bl (Int × Int))}
theorem BkY.keys (h : BkY B0 w b kp) (hw : B0 ≤ w.heap.size) (A : Option Addr) (c : Nat) (l : List (Int × Int)) (hx : w.ownsRow 0 141 2 (.slice A l.length c) l.length (rowF keyF l)) (hl : l.length ≤ 2000) (hap : ∀ u, u ∈ kp → ∀ q, u.v.ownBlock = some q → (Value.slice A l.length c).ownBlock ≠ some q) (hvb : ∀ q, (Value.slice A l.length c).ownBlock = some q → B0 ≤ q) :
    Calls Tryz.prog 74 #[.pointer (some ⟨b, 0, none⟩), .slice A l.length c] w fun e w' => e = .returned (.tuple #[]) ∧ (∃ kp', BkY B0 w' b kp') ∧ FrY B0 w w' := by
  obtain ⟨⟨Fb, hB, hn, h10, hb⟩, hbb, hll⟩ := h
  refine (key_add hB h10 A c l hx hl hap).mono ?_
  rintro e w' ⟨rfl, Fb', k', hB', hsame, hK, hk, hF, hq⟩
  have hty : ∀ q, q ∈ b :: ((Fb 16).ownBlock.toList ++ (Fb 17).ownBlock.toList) → B0 ≤ q ∧ ∃ cur T, Blk w q cur T ∧ (T = 52 ∨ T = 146) := fun q hq => by
    rcases List.mem_cons.1 hq with rfl | h1
    · exact ⟨hbb, _, _, hB, Or.inl rfl⟩
    · obtain ⟨cur, hc⟩ := h10.blk q h1
      exact ⟨hb q h1, cur, _, hc, Or.inr rfl⟩
  refine ⟨rfl, ⟨k', ⟨Fb', hB', fun j h1 h2 => by rw [hsame j h1 h2]; exact hn j h1 h2, hK, fun q hm => ?_⟩, hbb, fun u hu q hq => ?_⟩, _, hF, hty⟩
  · rcases hq q hm with h2 | h2
    · exact hb q h2
    · exact Nat.le_trans hw h2
  · rcases hk with rfl | rfl
    · exact hll u hu q hq
    · rcases List.mem_append.1 hu with h1 | h1
      · exact hll u h1 q hq
      · simp at h1; subst h1; exact hvb q hq
theorem BkY.lt (h : BkY B0 w b kp) : ∀ u, u ∈ kp → ∀ q, u.v.ownBlock = some q → q < w.heap.size := fun u hu q hq => by
  obtain ⟨⟨Fb, hB, hn, h10, hb⟩, hbb, hll⟩ := h
  obtain ⟨ws, hK, _⟩ := h10
  obtain ⟨cur, hc⟩ := rown_blk (hK.ls u hu) q hq
  exact hc.lt
theorem BkY.apart {w0 : World} (h : BkY w0.heap.size w b kp) (h0 : Fr [] w0 w) : Calls Tryz.prog 26 #[.pointer (some ⟨b, 0, none⟩)] w fun e w' => e = .returned (.bool true) ∧ Fr [] w0 w' := by
  obtain ⟨⟨Fb, hB, hn, h10, hb⟩, hbb, hll⟩ := h
  exact apart_keys hB h0 (hn 0 (by decide) (by decide)) (hn 2 (by decide) (by decide)) (hn 4 (by decide) (by decide)) (hn 6 (by decide) (by decide)) (hn 8 (by decide) (by decide)) (hn 10 (by decide) (by decide)) (hn 12 (by decide) (by decide)) (hn 14 (by decide) (by decide)) (hn 18 (by decide) (by decide)) (hn 20 (by decide) (by decide)) (hn 22 (by decide) (by decide)) (hn 24 (by decide) (by decide)) (hn 26 (by decide) (by decide)) (hn 28 (by decide) (by decide)) (hn 30 (by decide) (by decide)) (hn 32 (by decide) (by decide)) (hn 34 (by decide) (by decide)) h10 hll
end
/-- blocks of the program's clock -/
def OffC (B0 : Nat) (w : World) (S : List Nat) : Prop := ∀ q, q ∈ S → B0 ≤ q ∧ ∀ cur T, Blk w q cur T → T = 137
section
variable {w0 w : World} {c : Nat} {m : Option Nat} {n o : Int} {l : Tms}
theorem Clk.offC {B0 : Nat} (h : Clk w c m n o l) (h2 : B0 ≤ c) (h3 : ∀ b, m = some b → B0 ≤ b) : OffC B0 w (c :: m.toList) := fun q hq => by
  rcases List.mem_cons.1 hq with rfl | h1
  · exact ⟨h2, fun cur T hc => Classical.byContradiction fun hT => hc.neT h.st hT rfl⟩
  · have hm : m = some q := by simpa using h1
    refine ⟨h3 q hm, fun cur T hc => ?_⟩
    rcases h.mp with ⟨e, _⟩ | ⟨b, e, hM⟩
    · rw [e] at hm; cases hm
    · rw [e] at hm
      cases hm
      exact absurd rfl (hM.not_row hc)
theorem OffC.nil (B0 : Nat) (w : World) : OffC B0 w [] := fun q hq => by cases hq
theorem set_y (k : Ky) (a : Int) (hk : KyOk k) (h : CkIn w0 w c n o l) (hI : CI n o l) (ho : o ≤ 1099511627776) (hF : Fr [] w0 w) :
    Calls Tryz.prog 68 #[.pointer (some ⟨c, 0, none⟩), .agg (kyC k), .int .i64 a] w fun e w' => e = .returned (.int .i64 (setE l k a)) ∧ CkIn w0 w' c n (setO o l k a) (setL n o l k a) ∧ ∃ S, Fr S w w' ∧ OffC w0.heap.size w S := by
  obtain ⟨m, h1, h2, h3⟩ := h
  refine (set_any k a hk h1 hI.n0 hI.n1 hI.o0 ho hI.len).mono ?_
  rintro e w' ⟨he, m', hC, hG, hm⟩
  refine ⟨he, ⟨m', hC, h2, ?_⟩, _, hG, h1.offC h2 h3⟩
  intro b hb
  rcases hm with rfl | ⟨b', hb', hge⟩
  · exact h3 b hb
  · rw [hb'] at hb; cases hb; exact Nat.le_trans hF.size hge
theorem cancel_y (k : Ky) (hk : KyOk k) (h : CkIn w0 w c n o l) :
    Calls Tryz.prog 70 #[.pointer (some ⟨c, 0, none⟩), .agg (kyC k)] w fun e w' => e = .returned (.bool (look l k).isSome) ∧ CkIn w0 w' c n o (cutL l k) ∧ ∃ S, Fr S w w' ∧ OffC w0.heap.size w S := by
  obtain ⟨m, h1, h2, h3⟩ := h
  unfold cutL
  cases hb : (look l k).isSome with
  | false =>
    rw [if_neg (by simp)]
    exact (cancel_no k hk h1 hb).mono fun e w' ⟨he, hG⟩ => ⟨he, ⟨m, h1.fr0 hG, h2, h3⟩, [], hG, OffC.nil _ _⟩
  | true =>
    rw [if_pos rfl]
    cases m with
    | none =>
      rcases h1.mp with ⟨_, rfl⟩ | ⟨b, h, _⟩
      · exact absurd hb (by simp [look])
      · cases h
    | some b => exact (cancel_yes k hk h1 hb).mono fun e w' ⟨he, hC, hG⟩ => ⟨he, ⟨some b, hC, h2, h3⟩, _, hG, h1.offC h2 h3⟩
def TickY (w0 w : World) (c : Nat) (N o : Int) (l : Tms) (e : Ending) (w' : World) : Prop := ∃ (ks : List Ky) (A : Option Addr) (cap : Nat), e = .returned (.slice A ks.length cap) ∧ ks.Perm (dks N l) ∧ Sorted_ l ks ∧
  CkIn w0 w' c N o (undue N l) ∧ (∃ S, Fr S w w' ∧ OffC w0.heap.size w S) ∧ w'.ownsRow w.heap.size 141 2 (.slice A ks.length cap) ks.length (flatKy ks)
theorem tick_y (a : Int) (h : CkIn w0 w c n o l) (hI : CI n o l) (a0 : 1 ≤ a) (a1 : a ≤ 1000000) :
    Calls Tryz.prog 72 #[.pointer (some ⟨c, 0, none⟩), .int .i64 a] w (TickY w0 w c (later n a) o l) := by
  obtain ⟨m, h1, h2, h3⟩ := h
  refine (tick_any a h1 a0 a1 hI.n0 hI.n1 hI.len).mono ?_
  rintro e w' ⟨ks, A, cap, he, hp, hs, hr, hC, hG, ho⟩
  exact ⟨ks, A, cap, he, hp, hs, ⟨m, hC, h2, h3⟩, ⟨_, hG, h1.offC h2 h3⟩, ho⟩
theorem CkIn.off {w' : World} {S : List Nat} (h : CkIn w0 w c n o l) (hF : Fr S w w') (hS : ∀ q, q ∈ S → ∃ cur T, Blk w q cur T ∧ T ≠ 137) : CkIn w0 w' c n o l := by
  obtain ⟨m, h1, h2, h3⟩ := h
  refine ⟨m, h1.fr hF (fun hc => ?_) (fun b hb hq => ?_), h2, h3⟩
  · obtain ⟨cur, T, hB, hT⟩ := hS c hc
    exact hB.neT h1.st hT rfl
  · obtain ⟨cur, T, hB, hT⟩ := hS b hq
    rcases h1.mp with ⟨e, _⟩ | ⟨b', e, hM⟩
    · rw [e] at hb; cases hb
    · rw [e] at hb
      cases hb
      exact hM.not_row hB rfl
end
/-- what a round of TapeClocks finds -/
structure TCs (w0 : World) (b c g : Nat) (n o : Int) (l : Tms) (r : Value) (D : List DT) (kp : List (Bl (Int × Int))) (w : World) : Prop where
  ok : CI n o l
  cr : CR l D
  bk : BkY w0.heap.size w b kp
  ck : CkIn w0 w c n o l
  dc : DCk w g n r D
  fr : Fr [] w0 w
  hg : w0.heap.size ≤ g
  hr : ∀ q, r.ownBlock = some q → w0.heap.size ≤ q
section
variable {w0 w : World} {b c g : Nat} {n o : Int} {l : Tms} {r : Value} {D : List DT} {kp : List (Bl (Int × Int))}
theorem TCs.fr0 (H : TCs w0 b c g n o l r D kp w) {w' : World} (hF : Fr [] w w') : TCs w0 b c g n o l r D kp w' :=
  ⟨H.ok, H.cr, H.bk.fr0 hF, H.ck.fr0 hF, H.dc.fr0 hF, H.fr.trans hF, H.hg, H.hr⟩
/-- the program's clock has been called -/
theorem TCs.prog (H : TCs w0 b c g n o l r D kp w) {w1 : World} {S : List Nat} (hF : Fr S w w1) (hS : OffC w0.heap.size w S) : BkY w0.heap.size w1 b kp ∧ DCk w1 g n r D ∧ Fr [] w0 w1 := by
  refine ⟨H.bk.fr hF (fun q hq cur T hc => ?_), H.dc.frS hF (fun hq => ?_) (fun q hq hqs => ?_), H.fr.sub hF (fun x hx => Or.inr (hS x hx).1)⟩
  · have e := (hS q hq).2 cur T hc
    subst e
    exact ⟨by decide, by decide, by decide⟩
  · have e := (hS g hq).2 _ _ H.dc.st
    exact absurd e (by decide)
  · obtain ⟨cur, hc⟩ := rown_blk H.dc.row q hq
    have e := (hS q hqs).2 _ _ hc
    exact absurd e (by decide)
/-- then the document's -/
theorem TCs.doc {w1 w2 : World} {n' o' : Int} {l' : Tms} {r' : Value} {D' : List DT} (ok : CI n' o' l') (cr : CR l' D') (hb : BkY w0.heap.size w1 b kp) (hc : CkIn w0 w1 c n' o' l') (hd1 : DCk w1 g n r D) (h0 : Fr [] w0 w1) (hg : w0.heap.size ≤ g) (hF : Fr [g] w1 w2) (hd : DCk w2 g n' r' D') (hr : ∀ q, r'.ownBlock = some q → w0.heap.size ≤ q) : TCs w0 b c g n' o' l' r' D' kp w2 := by
  refine ⟨ok, cr, hb.fr hF (fun q hq cur T hcc => ?_), hc.off hF (fun q hq => ?_), hd, h0.sub hF (fun x hx => by simp at hx; subst hx; exact Or.inr hg), hg, hr⟩
  · simp at hq
    subst hq
    exact ⟨fun e => hcc.neT hd1.st (by rw [e]; decide) rfl, fun e => hcc.neT hd1.st (by rw [e]; decide) rfl, fun e => hcc.neT hd1.st (by rw [e]; decide) rfl⟩
  · simp at hq
    subst hq
    exact ⟨_, _, hd1.st, by decide⟩
theorem TCs.book (H : TCs w0 b c g n o l r D kp w) {w' : World} {kp' : List (Bl (Int × Int))} (hF : FrY w0.heap.size w w') (hb : BkY w0.heap.size w' b kp') : TCs w0 b c g n o l r D kp' w' := by
  have hst := hF.blk H.dc.st (by decide) (by decide)
  have hrow := hF.row H.dc.row (by decide) (by decide)
  obtain ⟨S, hF, hS⟩ := hF
  refine ⟨H.ok, H.cr, hb, H.ck.off hF (fun q hq => ?_), ⟨hst, hrow⟩, H.fr.sub hF (fun x hx => Or.inr (hS x hx).1), H.hg, H.hr⟩
  obtain ⟨_, cur, T, hc, hT⟩ := hS q hq
  refine ⟨cur, T, hc, ?_⟩
  rcases hT with rfl | rfl <;> decide
end
end Go.Proofs.YtfchbppfbepelaaGreat
