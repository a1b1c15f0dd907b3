/- ac: what a concentrator holds; none, next. -/
import Derived.Test.YtcdencpkgfehlaaAcA
import Derived.Deep.RegionHeld3
namespace Go.Proofs.Ytcdencpkgfehlaa
open Go.RowKit Go.Maps
set_option linter.unusedVariables false
/-- a session, and the block that it lies in -/
structure Ses where
  m : Mc
  n : Int
  u : List UInt8
  used : Bool
  p : Nat
def seL (s : Ses) : List Value := mcL s.m ++ [.int .i64 s.n, .string (B s.u), .bool s.used]
def seC (s : Ses) : Array Value := (seL s).toArray
/-- what a concentrator's cells hold -/
structure Cn where
  m : Mc
  nm : List UInt8
  sec : List UInt8
  sv : Value
  most : Int
  at_ : Nat
  tk : Nat
  last : Int
  gone : Value
def cnC (c : Cn) : Array Value := #[.int .u8 c.m.a, .int .u8 c.m.b, .int .u8 c.m.c, .int .u8 c.m.d, .int .u8 c.m.e, .int .u8 c.m.f, .string (B c.nm), .string (B c.sec), c.sv, .int .i64 c.most, .map (some c.at_), .map (some c.tk), .int .u16 c.last, c.gone]
def kv (s : Ses) : Idk × Nat := ((s.m, s.n), s.p)
def nv (s : Ses) : Int × Unit := (s.n, ())
def ptrV (p : Nat) : Value := .pointer (some ⟨p, 0, none⟩)
def unitV (_ : Unit) : Value := .agg #[]
structure CnIs (w : World) (g : Nat) (c : Cn) (S : List Ses) (G : List Idk) : Prop where
  st : Blk w g (cnC c) 85
  hM : MapIs idE ptrV w c.at_ (S.map kv)
  tM : MapIs intE unitV w c.tk (S.map nv)
  ne : c.at_ ≠ c.tk
  ses : ∀ s, s ∈ S → Blk w s.p (seC s) 63
  nd : (S.map (·.p)).Nodup
  num : ∀ s, s ∈ S → 1 ≤ s.n ∧ s.n ≤ c.last
  nums : (S.map (·.n)).Nodup
  last : 0 ≤ c.last
  gn : w.ownsRow 0 61 7 c.gone G.length (G.flatMap idL)
theorem MapIs.not_blk {P : Program} {k : TypeId} {κ ν : Type} {E : KeyEnc P k κ} {ev : ν → Value} {w : World} {b : Nat} {L : List (κ × ν)} (h : MapIs E ev w b L) {g T : Nat} {cs : Array Value} (hB : Blk w g cs T) : g ≠ b := fun e => by
  subst e
  obtain ⟨es, cl, he, _⟩ := h
  unfold Blk at hB
  rw [he] at hB
  cases hB
theorem Blk.ne_type {w : World} {a b T U : Nat} {cs ds : Array Value} (h : Blk w a cs T) (k : Blk w b ds U) (hT : T ≠ U) : a ≠ b := fun e => by
  subst e
  unfold Blk at h k
  rw [h] at k
  injection k with k
  injection k with _ k
  exact hT k
/-- the blocks that belong to it -/
def foot (g : Nat) (c : Cn) (S : List Ses) : List Nat := g :: c.at_ :: c.tk :: (S.map (·.p) ++ (c.gone.ownBlock).toList)
def zst : Value := .agg #[]
theorem zero_unit (w : World) : (zeroValue 158).run Try.prog w = .ok (.agg #[]) w := by kernel_rfl
theorem eq_map_nil (m : Option Nat) (W : World) : (binOp .eql 81 (.map m) (.map none)).run Try.prog W = .ok (.bool m.isNone) W := by
  simp only [binOp]
  simp [Op.equal, Op.maxDepth, run_equalIn_map_nil W 9999 _ _ _ m Try.underlying81]
section
variable {w : World} {g : Nat} {c : Cn} {S : List Ses} {G : List Idk}
set_option maxRecDepth 100000 in
theorem cnone_any (hB : Blk w g (cnC c) 85) : Calls Try.prog 48 #[.pointer (some ⟨g, 0, none⟩)] w fun e w' => e = .returned (.bool false) ∧ w' = w := by
  have c10 : w.cell? ⟨g, 10, none⟩ = some (.map (some c.at_)) := hB.c 10 _ rfl
  have hmn : ∀ W, (binOp .eql 81 (.map (some c.at_)) (.map none)).run Try.prog W = .ok (.bool false) W := fun W => eq_map_nil (some c.at_) W
  go_enter Try.func48, Try.ntmps48
  go_wp2_with fail
  go_ret
  exact ⟨rfl, rfl⟩
theorem cnone_nil : Calls Try.prog 48 #[.pointer none] w fun e w' => e = .returned (.bool true) ∧ w' = w := by
  go_enter Try.func48, Try.ntmps48
  go_wp2
  go_ret
  exact ⟨rfl, rfl⟩
def NextP (w : World) (g : Nat) (c : Cn) (S : List Ses) (e : Ending) (w' : World) : Prop := e = .returned (.int .i64 (c.last + 1)) ∧ Blk w' g (cnC { c with last := c.last + 1 }) 85 ∧ MapIs intE unitV w' c.tk (S.map nv ++ [(c.last + 1, ())]) ∧ Fr [g, c.tk] w w'
set_option maxRecDepth 100000 in
set_option maxHeartbeats 4000000 in
theorem next_ok (h : CnIs w g c S G) (hr : c.last < 60000) (hl : S.length < 1000) : Calls Try.prog 85 #[.pointer (some ⟨g, 0, none⟩)] w (NextP w g c S) := by
  obtain ⟨n, hn⟩ : ∃ n, c.last + 1 = n := ⟨_, rfl⟩
  have hlast := h.last
  have hB0 := h.st
  have d12 : w.cell? ⟨g, 12, none⟩ = some (.int .u16 c.last) := hB0.c 12 _ rfl
  have f12 := hB0.fz 12
  have hwr : IntKind.u16.wrap (c.last + 1) = n := by rw [IntKind.wrap_u16]; omega
  have hw64 : IntKind.i64.wrap n = n := by rw [IntKind.wrap_i64]; omega
  have hw64' : wrap64 n = n := by unfold wrap64; omega
  have hn0 : (n != 0) = true := by simp; omega
  have hB1 : Blk (w.setCell ⟨g, 12, none⟩ (.int .u16 n)) g (cnC { c with last := n }) 85 := by
    have := hB0.set 12 (.int .u16 n)
    simpa [cnC] using this
  have hF1 := (Fr.refl [g, c.tk] w).setCell (p := ⟨g, 12, none⟩) (by simp) (.int .u16 n)
  obtain ⟨W1, hW1⟩ : ∃ W, w.setCell ⟨g, 12, none⟩ (.int .u16 n) = W := ⟨_, rfl⟩
  have hT1 : MapIs intE unitV W1 c.tk (S.map nv) := by
    rw [← hW1]
    have hg : c.tk ∉ [g] := by simpa using Ne.symm (h.tM.not_blk hB0)
    exact h.tM.fr ((Fr.refl [g] w).setCell (p := ⟨g, 12, none⟩) (by simp) (.int .u16 n)) hg
  rw [hW1] at hB1 hF1
  have hnone : look (S.map nv) n = none := look_none.2 fun p hp hpx => by
    obtain ⟨s, hs, rfl⟩ := List.mem_map.1 hp
    have := (h.num s hs).2
    simp only [nv] at hpx
    omega
  have hIn : In64 n := by unfold In64; omega
  have HS : Hid (∀ W, Fr [] W1 W → (W.cell? ⟨g, 11, none⟩ = some (.map (some c.tk)) ∧ W.cell? ⟨g, 12, none⟩ = some (.int .u16 n) ∧ (Instr.lookup 82 (.map (some c.tk)) (.int .i64 n) true).run Try.prog W = .ok (.tuple #[.agg #[], .bool false]) W) ∧ Fr [] W1 W) := Lib.hid fun W hW => by
    have hb := hW.blk hB1 (by simp)
    have hm := (hT1.fr hW (by simp)).lookup Try.underlying82 (zero_unit W) true n hIn
    rw [hnone] at hm
    exact ⟨⟨hb.c 11 _ rfl, hb.c 12 _ rfl, hm⟩, hW⟩
  have hG0 := HS.out _ (Fr.refl [] W1).drew
  have HT1 := Lib.hid hT1
  have HB1 := Lib.hid hB1
  have HF1 := Lib.hid hF1
  have HNn := Lib.hid hnone
  have HN := Lib.hid hn
  have hwr2 : IntKind.u16.wrap (c.last + 1) = n := hwr
  have hw16 : (c.last + 1) % 65536 = n := by omega
  have hLl : (S.map nv).length < maxLen := by rw [List.length_map]; unfold maxLen; omega
  have HLl := Lib.hid hLl
  clear hlast hB0 hB1 hT1 hF1 hnone hl hr hLl h hn
  go_enter Try.func85, Try.ntmps85
  go_wp2_with fail
  refine wp_loop_rounds 2 ?_
  rw [rounds_succ]
  go_wp2_with fail
  go_region_held3 (fun W => (W.cell? ⟨g, 11, none⟩ = some (.map (some c.tk)) ∧ W.cell? ⟨g, 12, none⟩ = some (.int .u16 n) ∧ (Instr.lookup 82 (.map (some c.tk)) (.int .i64 n) true).run Try.prog W = .ok (.tuple #[.agg #[], .bool false]) W) ∧ Fr [] W1 W)
    (first | exact hG0 | assumption | exact HS.out _ ((Fr.refl [] W1).alloc _).drew)
    (fail)
  all_goals
    go_wp2_with fail
    obtain ⟨V, hV⟩ : ∃ V, (W1.alloc (.cells #[] 158 (0, 0))).drew = V := ⟨_, rfl⟩
    have hFV : Fr [] W1 V := by rw [← hV]; exact ((Fr.refl [] W1).alloc _).drew
    rw [hV]
    obtain ⟨V2, hrun, hm2, hF3⟩ : ∃ V2, (Instr.mapUpdate 82 (.map (some c.tk)) (.int .i64 n) (.agg #[])).run Try.prog V.drew = .ok () V2 ∧ MapIs intE unitV V2 c.tk (put (S.map nv) n ()) ∧ Fr [c.tk] V V2 := by
      obtain ⟨V2, h1, h2, h3⟩ := (HT1.out.fr (hFV.trans (Fr.refl [] V).drew) (by simp)).update Try.underlying82 HLl.out n hIn ()
      exact ⟨V2, h1, h2, ((Fr.refl _ _).drew).trans h3⟩
    have hput : put (S.map nv) n () = S.map nv ++ [(n, ())] := by unfold put; rw [HNn.out]; rfl
    rw [hput] at hm2
    have hng : g ∉ [c.tk] := by
      have hx := HT1.out.not_blk HB1.out
      simpa using hx
    have hB2 := hF3.blk (hFV.blk HB1.out (by simp)) hng
    have c11 : V.cell? ⟨g, 11, none⟩ = some (.map (some c.tk)) := (hFV.blk HB1.out (by simp)).c 11 _ rfl
    have c12 : V.cell? ⟨g, 12, none⟩ = some (.int .u16 n) := (hFV.blk HB1.out (by simp)).c 12 _ rfl
    have d12' : V2.cell? ⟨g, 12, none⟩ = some (.int .u16 n) := hB2.c 12 _ rfl
    have HX : Hid (NextP w g c S (.returned (.int .i64 n)) V2) := Lib.hid (by
      unfold NextP
      rw [HN.out]
      exact ⟨rfl, hB2, hm2, (HF1.out.trans (hFV.mono (by simp))).trans (hF3.mono (by simp))⟩)
    clear hV hm2 hput hng hB2 hF3 hFV HS hG0 HT1 HB1 HF1 HNn HN HLl hIn
    go_region
    go_wp2_with fail
    go_ret
    exact HX.out
end
end Go.Proofs.Ytcdencpkgfehlaa
