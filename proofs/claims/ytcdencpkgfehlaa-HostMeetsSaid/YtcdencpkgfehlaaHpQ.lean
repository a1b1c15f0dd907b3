/- host: what a host does, as functions of what it holds: the program's -/
import Derived.Test.YtcdencpkgfehlaaPHo1
import Derived.Test.YtcdencpkgfehlaaTgtA
namespace Go.Proofs.Ytcdencpkgfehlaa
open Go.RowKit
set_option linter.unusedVariables false
abbrev Ps := Hs × Option (List UInt8)
/-- the cookie's value -/
def CkV (w : World) : Option (List UInt8) → Value → Prop
  | none, v => v = .slice none 0 0
  | some s, v => ∃ q, v = .slice (some ⟨q, 0, none⟩) 1 1 ∧ Blk w q #[.int .i64 260, .string (B s)] 54
/-- the program's host lies at g -/
def PhIs (w : World) (g : Nat) (p : Ps) : Prop := ∃ ck, Blk w g (hsC p.1 ck) 92 ∧ CkV w p.2 ck
theorem CkV.fr {w w' : World} {o : Option (List UInt8)} {v : Value} (h : CkV w o v) {S : List Nat} (hF : Fr S w w') (hS : ∀ q, q ∈ S → ∀ cur T, Blk w q cur T → T ≠ 54) : CkV w' o v := by
  cases o with
  | none => exact h
  | some s =>
    obtain ⟨q, h1, h2⟩ := h
    exact ⟨q, h1, hF.blk h2 (fun hq => hS q hq _ _ h2 rfl)⟩
theorem PhIs.fr {w w' : World} {g : Nat} {p : Ps} (h : PhIs w g p) {S : List Nat} (hF : Fr S w w') (hS : ∀ q, q ∈ S → ∀ cur T, Blk w q cur T → T ≠ 92 ∧ T ≠ 54) : PhIs w' g p := by
  obtain ⟨ck, h1, h2⟩ := h
  exact ⟨ck, hF.blk h1 (fun hq => (hS g hq _ _ h1).1 rfl), h2.fr hF (fun q hq cur T hc => (hS q hq cur T hc).2)⟩
theorem PhIs.fr0 {w w' : World} {g : Nat} {p : Ps} (h : PhIs w g p) (hF : Fr [] w w') : PhIs w' g p := h.fr hF (fun q hq => by cases hq)
def mineB (un : List UInt8) (l : List Tg) : Bool := decide (un = [] ∨ 0 < findN l 259 ∧ findS l 259 = un)
def offB (sv : List UInt8) (l : List Tg) : Bool := decide ((257, sv) ∈ l)
def pSayL (p : Ps) : List Eth := if p.1.st = 1 then frameL mcF p.1.m 9 0 (askL p.1.sv p.1.un none) else frameL p.1.k p.1.m 25 0 (askL p.1.sv p.1.un p.2)
def pStart (p : Ps) : Ps × List Eth := if p.1.st = 0 ∨ p.1.st = 4 then ((entered p.1 1, none), frameL mcF p.1.m 9 0 (askL p.1.sv p.1.un none)) else (p, [])
def pStop (p : Ps) : Ps × List Eth := ((entered p.1 0, none), if p.1.st = 3 then frameL p.1.k p.1.m 167 p.1.ss [] else [])
def pTick (p : Ps) : Ps × List Eth := if p.1.st = 1 ∨ p.1.st = 2 then (if p.1.tk + 1 < p.1.wt * 2 ^ p.1.ag.toNat then (({ p.1 with tk := p.1.tk + 1 }, p.2), []) else if p.1.rt ≤ p.1.ag then ((entered p.1 4, none), []) else (({ p.1 with tk := 0, ag := p.1.ag + 1 }, p.2), pSayL p)) else (p, [])
def pChosen (p : Ps) (src : Mc) (l : List Tg) : Ps := ({ p.1 with st := 2, tk := 0, ag := 0, ss := 0, k := src }, if 0 < findN l 260 then some (findS l 260) else p.2)
def pGot (p : Ps) (src : Mc) (c ss : Int) (l : List Tg) : Ps × List Eth :=
  if p.1.st = 1 ∧ c = 7 ∧ ss = 0 then (if offB p.1.sv l = true ∧ mineB p.1.un l = true then (pChosen p src l, pSayL (pChosen p src l)) else (p, []))
  else if p.1.st = 2 ∧ c = 101 ∧ mcEq src p.1.k = true ∧ mineB p.1.un l = true then (if ss = 0 then ((entered p.1 4, none), []) else (({ p.1 with st := 3, tk := 0, ag := 0, ss := ss }, p.2), []))
  else if p.1.st = 3 ∧ c = 167 ∧ mcEq src p.1.k = true ∧ ss = p.1.ss then ((entered p.1 0, none), [])
  else (p, [])
/-- a frame of discovery for a card: where it is from, and what is in it -/
def readF (m : Mc) (f : Eth) : Option (Int × Int × List Tg) := if f.2.2.1 = 34915 ∧ mcEq f.1 m = true then (match pkt f.2.2.2 with | none => none | some (c, ss, d) => (tparse 20 d).map fun l => (c, ss, l)) else none
def pTake (p : Ps) (f : Eth) : Ps × List Eth := match readF p.1.m f with | none => (p, []) | some (c, ss, l) => pGot p f.2.1 c ss l
def dataL (st : Int) (k m : Mc) (id : Int) (f : Eth) : List UInt8 × Bool := if st = 3 ∧ f.2.2.1 = 34916 ∧ mcEq f.2.1 k = true ∧ mcEq f.1 m = true then (match pkt f.2.2.2 with | none => ([], false) | some (c, ss, d) => if c = 0 ∧ ss = id then (d, true) else ([], false)) else ([], false)
def eth0 : Eth := (mc0, mc0, 0, [])
def framL (st : Int) (k m : Mc) (id : Int) (d : List UInt8) : Eth × Int := if st = 3 then (if d.length ≤ 1494 then ((k, m, 34916, discB 0 id d), 0) else (eth0, 2)) else (eth0, 20)
/-- what a host may hold -/
structure HI (p : Ps) : Prop where
  sv : p.1.sv.length ≤ 40
  un : p.1.un.length ≤ 40
  rt : 0 ≤ p.1.rt ∧ p.1.rt ≤ 10
  wt : 1 ≤ p.1.wt ∧ p.1.wt ≤ 100
  ag : 0 ≤ p.1.ag ∧ p.1.ag ≤ p.1.rt
  tk : 0 ≤ p.1.tk ∧ p.1.tk ≤ 102400
  ss : 0 ≤ p.1.ss ∧ p.1.ss ≤ 65535
  o : ∀ s, p.2 = some s → s.length ≤ 1494
theorem HI.entered {p : Ps} (h : HI p) (s : Int) : HI (entered p.1 s, none) := ⟨h.sv, h.un, h.rt, h.wt, ⟨Int.le_refl _, h.rt.1⟩, ⟨Int.le_refl _, by show (0 : Int) ≤ 102400; omega⟩, ⟨Int.le_refl _, by show (0 : Int) ≤ 65535; omega⟩, fun s hs => by cases hs⟩
theorem HI.start {p : Ps} (h : HI p) : HI (pStart p).1 := by
  unfold pStart
  split
  · exact h.entered 1
  · exact h
theorem HI.stop {p : Ps} (h : HI p) : HI (pStop p).1 := h.entered 0
theorem HI.tick {p : Ps} (h : HI p) : HI (pTick p).1 := by
  unfold pTick
  split
  · split
    · rename_i hlt
      have := (shl_small p.1.wt p.1.ag h.wt.1 h.wt.2 h.ag.1 (Int.le_trans h.ag.2 h.rt.2)).2.2
      exact ⟨h.sv, h.un, h.rt, h.wt, h.ag, ⟨by have := h.tk.1; show 0 ≤ p.1.tk + 1; omega, by show p.1.tk + 1 ≤ 102400; omega⟩, h.ss, h.o⟩
    · split
      · exact h.entered 4
      · rename_i hr
        exact ⟨h.sv, h.un, h.rt, h.wt, ⟨by have := h.ag.1; show 0 ≤ p.1.ag + 1; omega, by show p.1.ag + 1 ≤ p.1.rt; omega⟩, ⟨Int.le_refl _, by show (0 : Int) ≤ 102400; omega⟩, h.ss, h.o⟩
  · exact h
theorem HI.chosen {p : Ps} (h : HI p) (src : Mc) (l : List Tg) (hl : (findS l 260).length ≤ 1494) : HI (pChosen p src l) :=
  ⟨h.sv, h.un, h.rt, h.wt, ⟨Int.le_refl _, h.rt.1⟩, ⟨Int.le_refl _, by show (0 : Int) ≤ 102400; omega⟩, ⟨Int.le_refl _, by show (0 : Int) ≤ 65535; omega⟩, fun s hs => by
    unfold pChosen at hs
    simp only at hs
    split at hs
    · injection hs with hs; rw [← hs]; exact hl
    · exact h.o s hs⟩
theorem HI.got {p : Ps} (h : HI p) (src : Mc) (c ss : Int) (l : List Tg) (hs : 0 ≤ ss ∧ ss ≤ 65535) (hl : (findS l 260).length ≤ 1494) : HI (pGot p src c ss l).1 := by
  unfold pGot
  split
  · split
    · exact h.chosen src l hl
    · exact h
  · split
    · split
      · exact h.entered 4
      · exact ⟨h.sv, h.un, h.rt, h.wt, ⟨Int.le_refl _, h.rt.1⟩, ⟨Int.le_refl _, by show (0 : Int) ≤ 102400; omega⟩, hs, h.o⟩
    · split
      · exact h.entered 0
      · exact h
theorem findS_len (l : List Tg) (k : Int) (n : Nat) (h : ∀ t, t ∈ l → t.2.length ≤ n) : (findS l k).length ≤ n := by
  unfold findS
  cases hf : l.find? (fun t => t.1 == k) with
  | none => simp
  | some t => exact h t (List.mem_of_find?_eq_some hf)
theorem readF_bd {m : Mc} {f : Eth} {c ss : Int} {l : List Tg} (h : readF m f = some (c, ss, l)) : (0 ≤ ss ∧ ss ≤ 65535) ∧ l.length ≤ 20 ∧ ∀ t, t ∈ l → t.2.length ≤ 1494 := by
  unfold readF at h
  split at h
  · cases hp : pkt f.2.2.2 with
    | none => rw [hp] at h; cases h
    | some x =>
      obtain ⟨c', ss', d⟩ := x
      rw [hp] at h
      simp only at h
      cases ht : tparse 20 d with
      | none => rw [ht] at h; cases h
      | some l' =>
        rw [ht] at h
        injection h with h
        injection h with h1 h
        injection h with h2 h3
        subst h1 h2 h3
        obtain ⟨t, _, _, hs, hd⟩ := pkt_some hp
        obtain ⟨a, b⟩ := tparse_len ht
        exact ⟨hs, a, fun t ht => Nat.le_trans (b t ht) hd⟩
  · cases h
theorem HI.take {p : Ps} (h : HI p) (f : Eth) : HI (pTake p f).1 := by
  unfold pTake
  cases hr : readF p.1.m f with
  | none => exact h
  | some x =>
    obtain ⟨c, ss, l⟩ := x
    obtain ⟨a, _, b⟩ := readF_bd hr
    exact h.got _ _ _ _ a (findS_len l 260 1494 b)
theorem HI.new (m : Mc) (sv un : List UInt8) (rt wt : Int) (h1 : sv.length ≤ 40) (h2 : un.length ≤ 40) (r0 : 0 ≤ rt) (r1 : rt ≤ 10) (w0 : 1 ≤ wt) (w1 : wt ≤ 100) : HI (hs0 m sv un rt wt, none) :=
  ⟨h1, h2, ⟨r0, r1⟩, ⟨w0, w1⟩, ⟨Int.le_refl _, r0⟩, ⟨Int.le_refl _, by show (0 : Int) ≤ 102400; omega⟩, ⟨Int.le_refl _, by show (0 : Int) ≤ 65535; omega⟩, fun s hs => by cases hs⟩
end Go.Proofs.Ytcdencpkgfehlaa
