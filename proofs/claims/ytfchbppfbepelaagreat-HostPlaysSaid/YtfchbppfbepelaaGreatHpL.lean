/- host: what a host does, as functions of what it holds; the program's and the document's side by side. -/
import Derived.Test.YtfchbppfbepelaaGreatPHo1
import Derived.Test.YtfchbppfbepelaaGreatTgtA
import Derived.Test.YtfchbppfbepelaaGreatMgB
namespace Go.Proofs.YtfchbppfbepelaaGreat
open Go.RowKit
set_option linter.unusedVariables false
abbrev Ps := Hs × Option (List UInt8)
/-- the cookie's value -/
def CkV (w : World) : Option (List UInt8) → Value → Prop
  | none, v => v = .slice none 0 0
  | some s, v => ∃ q, v = .slice (some ⟨q, 0, none⟩) 1 1 ∧ Blk w q #[.int .i64 260, .string (B s)] 272
/-- the program's host lies at g -/
def PhIs (w : World) (g : Nat) (p : Ps) : Prop := ∃ ck, Blk w g (hsC p.1 ck) 252 ∧ CkV w p.2 ck
theorem CkV.fr {w w' : World} {o : Option (List UInt8)} {v : Value} (h : CkV w o v) {S : List Nat} (hF : Fr S w w') (hS : ∀ q, q ∈ S → ∀ cur T, Blk w q cur T → T ≠ 272) : CkV w' o v := by
  cases o with
  | none => exact h
  | some s =>
    obtain ⟨q, h1, h2⟩ := h
    exact ⟨q, h1, hF.blk h2 (fun hq => hS q hq _ _ h2 rfl)⟩
theorem PhIs.fr {w w' : World} {g : Nat} {p : Ps} (h : PhIs w g p) {S : List Nat} (hF : Fr S w w') (hS : ∀ q, q ∈ S → ∀ cur T, Blk w q cur T → T ≠ 252 ∧ T ≠ 272) : PhIs w' g p := by
  obtain ⟨ck, h1, h2⟩ := h
  exact ⟨ck, hF.blk h1 (fun hq => (hS g hq _ _ h1).1 rfl), h2.fr hF (fun q hq cur T hc => (hS q hq cur T hc).2)⟩
theorem PhIs.fr0 {w w' : World} {g : Nat} {p : Ps} (h : PhIs w g p) (hF : Fr [] w w') : PhIs w' g p := h.fr hF (fun q hq => by cases hq)
def mineB (un : List UInt8) (l : List Tg) : Bool := decide (un = [] ∨ 0 < findN l 259 ∧ findS l 259 = un)
def offB (sv : List UInt8) (l : List Tg) : Bool := decide ((257, sv) ∈ l)
def pSayL (p : Ps) : List Eth := if p.1.st = 1 then frameL mcF p.1.m 9 0 (askL p.1.sv p.1.un none) else frameL p.1.k p.1.m 25 0 (askL p.1.sv p.1.un p.2)
def pStart (p : Ps) : Ps × List Eth := if p.1.st = 0 ∨ p.1.st = 4 then ((entered p.1 1, none), frameL mcF p.1.m 9 0 (askL p.1.sv p.1.un none)) else (p, [])
def pStop (p : Ps) : Ps × List Eth := ((entered p.1 0, none), if p.1.st = 3 then frameL p.1.k p.1.m 167 p.1.ss [] else [])
def pTick (p : Ps) : Ps × List Eth := if p.1.st = 1 ∨ p.1.st = 2 then (if p.1.tk + 1 < p.1.wt * 2 ^ p.1.ag.toNat then (({ p.1 with tk := p.1.tk + 1 }, p.2), []) else if p.1.rt ≤ p.1.ag then ((entered p.1 4, none), []) else (({ p.1 with tk := 0, ag := p.1.ag + 1 }, p.2), pSayL p)) else (p, [])
def pChosen (p : Ps) (src : Mc) (l : List Tg) : Ps := ({ p.1 with st := 2, tk := 0, ag := 0, ss := 0, k := src }, if 0 < findN l 260 then some (findS l 260) else p.2)
def pGot (p : Ps) (src : Mc) (c ss : Int) (l : List Tg) : Ps × List Eth :=
  if p.1.st = 1 ∧ c = 7 ∧ ss = 0 then (if offB p.1.sv l = true ∧ mineB p.1.un l = true then (pChosen p src l, pSayL (pChosen p src l)) else (p, []))
  else if p.1.st = 2 ∧ c = 101 ∧ mcEq src p.1.k = true ∧ mineB p.1.un l = true then (if ss = 0 then ((entered p.1 4, none), []) else (({ p.1 with st := 3, tk := 0, ag := 0, ss := ss }, p.2), []))
  else if p.1.st = 3 ∧ c = 167 ∧ mcEq src p.1.k = true ∧ ss = p.1.ss then ((entered p.1 0, none), [])
  else (p, [])
/-- a frame of discovery for a card: where it is from, and what is in it -/
def readF (m : Mc) (f : Eth) : Option (Int × Int × List Tg) := if f.2.2.1 = 34915 ∧ mcEq f.1 m = true then (match pkt f.2.2.2 with | none => none | some (c, ss, d) => (tparse 20 d).map fun l => (c, ss, l)) else none
def pTake (p : Ps) (f : Eth) : Ps × List Eth := match readF p.1.m f with | none => (p, []) | some (c, ss, l) => pGot p f.2.1 c ss l
def dataL (st : Int) (k m : Mc) (id : Int) (f : Eth) : List UInt8 × Bool := if st = 3 ∧ f.2.2.1 = 34916 ∧ mcEq f.2.1 k = true ∧ mcEq f.1 m = true then (match pkt f.2.2.2 with | none => ([], false) | some (c, ss, d) => if c = 0 ∧ ss = id then (d, true) else ([], false)) else ([], false)
def eth0 : Eth := (mc0, mc0, 0, [])
def framL (st : Int) (k m : Mc) (id : Int) (d : List UInt8) : Eth × Int := if st = 3 then (if d.length ≤ 1494 then ((k, m, 34916, discB 0 id d), 0) else (eth0, 2)) else (eth0, 20)
def dCk (d : Dh) : Option (List UInt8) := if d.hc = true then some d.ck else none
def dSayL (d : Dh) : List Eth := if d.st = 2 then frameL d.k d.m 25 0 (askL d.sv d.un (dCk d)) else frameL mcF d.m 9 0 (askL d.sv d.un none)
def dStart (d : Dh) : Dh × List Eth := if d.st = 0 ∨ d.st = 4 then ({ d with st := 1, ag := 0, tk := 0 }, frameL mcF d.m 9 0 (askL d.sv d.un none)) else (d, [])
def dStop (d : Dh) : Dh × List Eth := ({ d with st := 0 }, if d.st = 3 then frameL d.k d.m 167 d.ss [] else [])
def dTick (d : Dh) : Dh × List Eth := if d.st = 1 ∨ d.st = 2 then (if d.tk + 1 < d.wt * 2 ^ d.ag.toNat then ({ d with tk := d.tk + 1 }, []) else if d.rt ≤ d.ag then ({ d with tk := d.tk + 1, st := 4 }, []) else ({ d with tk := 0, ag := d.ag + 1 }, dSayL d)) else (d, [])
def dChosen (d : Dh) (src : Mc) (l : List Tg) : Dh := { d with st := 2, k := src, ck := findS l 260, hc := decide (0 < findN l 260), ag := 0, tk := 0 }
def dGot (d : Dh) (src : Mc) (c ss : Int) (l : List Tg) : Dh × List Eth :=
  if d.st = 1 ∧ c = 7 ∧ ss = 0 then (if offB d.sv l = true ∧ mineB d.un l = true then (dChosen d src l, dSayL (dChosen d src l)) else (d, []))
  else if d.st = 2 ∧ c = 101 ∧ mcEq src d.k = true ∧ mineB d.un l = true then ({ d with st := if ss = 0 then 4 else 3, ss := ss }, [])
  else if d.st = 3 ∧ c = 167 ∧ mcEq src d.k = true ∧ ss = d.ss then ({ d with st := 0 }, [])
  else (d, [])
def dTake (d : Dh) (f : Eth) : Dh × List Eth := match readF d.m f with | none => (d, []) | some (c, ss, l) => dGot d f.2.1 c ss l
/-- the program's host is the document's -/
structure HR (p : Ps) (d : Dh) : Prop where
  m : p.1.m = d.m
  sv : p.1.sv = d.sv
  un : p.1.un = d.un
  rt : p.1.rt = d.rt
  wt : p.1.wt = d.wt
  st : p.1.st = d.st
  k : p.1.k = (dhShow d).2.1
  ss : p.1.ss = (dhShow d).2.2
  tk : d.st = 1 ∨ d.st = 2 → p.1.tk = d.tk ∧ p.1.ag = d.ag
  o1 : d.st = 1 → p.2 = none
  o2 : d.st = 2 → p.2 = dCk d
/-- what a host may hold -/
structure HI (p : Ps) : Prop where
  sv : p.1.sv.length ≤ 40
  un : p.1.un.length ≤ 40
  rt : 0 ≤ p.1.rt ∧ p.1.rt ≤ 10
  wt : 1 ≤ p.1.wt ∧ p.1.wt ≤ 100
  ag : 0 ≤ p.1.ag ∧ p.1.ag ≤ p.1.rt
  tk : 0 ≤ p.1.tk ∧ p.1.tk ≤ 102400
  ss : 0 ≤ p.1.ss ∧ p.1.ss ≤ 65535
  o : ∀ s, p.2 = some s → s.length ≤ 1494
theorem HI.entered {p : Ps} (h : HI p) (s : Int) : HI (entered p.1 s, none) := ⟨h.sv, h.un, h.rt, h.wt, ⟨Int.le_refl _, h.rt.1⟩, ⟨Int.le_refl _, by show (0 : Int) ≤ 102400; omega⟩, ⟨Int.le_refl _, by show (0 : Int) ≤ 65535; omega⟩, fun s hs => by cases hs⟩
theorem HI.start {p : Ps} (h : HI p) : HI (pStart p).1 := by
  unfold pStart
  split
  · exact h.entered 1
  · exact h
theorem HI.stop {p : Ps} (h : HI p) : HI (pStop p).1 := h.entered 0
theorem HI.tick {p : Ps} (h : HI p) : HI (pTick p).1 := by
  unfold pTick
  split
  · split
    · rename_i hlt
      have := (shl_small p.1.wt p.1.ag h.wt.1 h.wt.2 h.ag.1 (Int.le_trans h.ag.2 h.rt.2)).2.2
      exact ⟨h.sv, h.un, h.rt, h.wt, h.ag, ⟨by have := h.tk.1; show 0 ≤ p.1.tk + 1; omega, by show p.1.tk + 1 ≤ 102400; omega⟩, h.ss, h.o⟩
    · split
      · exact h.entered 4
      · rename_i hr
        exact ⟨h.sv, h.un, h.rt, h.wt, ⟨by have := h.ag.1; show 0 ≤ p.1.ag + 1; omega, by show p.1.ag + 1 ≤ p.1.rt; omega⟩, ⟨Int.le_refl _, by show (0 : Int) ≤ 102400; omega⟩, h.ss, h.o⟩
  · exact h
theorem HI.chosen {p : Ps} (h : HI p) (src : Mc) (l : List Tg) (hl : (findS l 260).length ≤ 1494) : HI (pChosen p src l) :=
  ⟨h.sv, h.un, h.rt, h.wt, ⟨Int.le_refl _, h.rt.1⟩, ⟨Int.le_refl _, by show (0 : Int) ≤ 102400; omega⟩, ⟨Int.le_refl _, by show (0 : Int) ≤ 65535; omega⟩, fun s hs => by
    unfold pChosen at hs
    simp only at hs
    split at hs
    · injection hs with hs; rw [← hs]; exact hl
    · exact h.o s hs⟩
theorem HI.got {p : Ps} (h : HI p) (src : Mc) (c ss : Int) (l : List Tg) (hs : 0 ≤ ss ∧ ss ≤ 65535) (hl : (findS l 260).length ≤ 1494) : HI (pGot p src c ss l).1 := by
  unfold pGot
  split
  · split
    · exact h.chosen src l hl
    · exact h
  · split
    · split
      · exact h.entered 4
      · exact ⟨h.sv, h.un, h.rt, h.wt, ⟨Int.le_refl _, h.rt.1⟩, ⟨Int.le_refl _, by show (0 : Int) ≤ 102400; omega⟩, hs, h.o⟩
    · split
      · exact h.entered 0
      · exact h
theorem findS_len (l : List Tg) (k : Int) (n : Nat) (h : ∀ t, t ∈ l → t.2.length ≤ n) : (findS l k).length ≤ n := by
  unfold findS
  cases hf : l.find? (fun t => t.1 == k) with
  | none => simp
  | some t => exact h t (List.mem_of_find?_eq_some hf)
theorem readF_bd {m : Mc} {f : Eth} {c ss : Int} {l : List Tg} (h : readF m f = some (c, ss, l)) : (0 ≤ ss ∧ ss ≤ 65535) ∧ l.length ≤ 20 ∧ ∀ t, t ∈ l → t.2.length ≤ 1494 := by
  unfold readF at h
  split at h
  · cases hp : pkt f.2.2.2 with
    | none => rw [hp] at h; cases h
    | some x =>
      obtain ⟨c', ss', d⟩ := x
      rw [hp] at h
      simp only at h
      cases ht : tparse 20 d with
      | none => rw [ht] at h; cases h
      | some l' =>
        rw [ht] at h
        injection h with h
        injection h with h1 h
        injection h with h2 h3
        subst h1 h2 h3
        obtain ⟨t, _, _, hs, hd⟩ := pkt_some hp
        obtain ⟨a, b⟩ := tparse_len ht
        exact ⟨hs, a, fun t ht => Nat.le_trans (b t ht) hd⟩
  · cases h
theorem HI.take {p : Ps} (h : HI p) (f : Eth) : HI (pTake p f).1 := by
  unfold pTake
  cases hr : readF p.1.m f with
  | none => exact h
  | some x =>
    obtain ⟨c, ss, l⟩ := x
    obtain ⟨a, _, b⟩ := readF_bd hr
    exact h.got _ _ _ _ a (findS_len l 260 1494 b)
theorem dhShow_off (d : Dh) (h2 : d.st ≠ 2) (h3 : d.st ≠ 3) : dhShow d = (d.st, mc0, 0) := by unfold dhShow; rw [if_neg h2, if_neg h3]
theorem dhShow_2 (d : Dh) (h2 : d.st = 2) : dhShow d = (2, d.k, 0) := by unfold dhShow; rw [if_pos h2]
theorem dhShow_3 (d : Dh) (h3 : d.st = 3) : dhShow d = (3, d.k, d.ss) := by unfold dhShow; rw [if_neg (by omega), if_pos h3]
theorem dhShow_1 (d : Dh) : (dhShow d).1 = d.st := by
  unfold dhShow
  split
  · rename_i h; exact h.symm
  · split
    · rename_i h; exact h.symm
    · rfl
/-- it comes to a state in which it holds nothing -/
theorem HR.off {p : Ps} {d d' : Dh} (h : HR p d) (s : Int) (h1 : s ≠ 1) (h2 : s ≠ 2) (h3 : s ≠ 3) (hm : d'.m = d.m) (hsv : d'.sv = d.sv) (hun : d'.un = d.un) (hrt : d'.rt = d.rt) (hwt : d'.wt = d.wt) (hst : d'.st = s) : HR (entered p.1 s, none) d' := by
  have hs := dhShow_off d' (by omega) (by omega)
  exact ⟨by rw [hm]; exact h.m, by rw [hsv]; exact h.sv, by rw [hun]; exact h.un, by rw [hrt]; exact h.rt, by rw [hwt]; exact h.wt, hst.symm, by rw [hs]; rfl, by rw [hs]; rfl, fun hh => by omega, fun hh => rfl, fun hh => by omega⟩
theorem HR.start {p : Ps} {d : Dh} (h : HR p d) : HR (pStart p).1 (dStart d).1 ∧ (pStart p).2 = (dStart d).2 := by
  unfold pStart dStart
  rw [h.st]
  split
  · have hs := dhShow_off ({ d with st := 1, ag := 0, tk := 0 } : Dh) (by show (1 : Int) ≠ 2; decide) (by show (1 : Int) ≠ 3; decide)
    refine ⟨⟨h.m, h.sv, h.un, h.rt, h.wt, rfl, by rw [hs]; rfl, by rw [hs]; rfl, fun _ => ⟨rfl, rfl⟩, fun _ => rfl, fun hh => ?_⟩, by rw [h.m, h.sv, h.un]⟩
    exact absurd hh (by show ¬ (1 : Int) = 2; decide)
  · exact ⟨h, rfl⟩
theorem HR.stop {p : Ps} {d : Dh} (h : HR p d) : HR (pStop p).1 (dStop d).1 ∧ (pStop p).2 = (dStop d).2 := by
  unfold pStop dStop
  refine ⟨h.off 0 (by decide) (by decide) (by decide) rfl rfl rfl rfl rfl rfl, ?_⟩
  simp only [h.st, h.k, h.ss, h.m]
  split
  · rename_i h3; rw [dhShow_3 d h3]
  · rfl
theorem HR.say {p : Ps} {d : Dh} (h : HR p d) (hst : d.st = 1 ∨ d.st = 2) : pSayL p = dSayL d := by
  unfold pSayL dSayL
  rw [h.st, h.m, h.sv, h.un]
  rcases hst with e | e
  · rw [if_pos e, if_neg (by omega)]
  · rw [if_neg (by omega), if_pos e, h.k, h.o2 e, dhShow_2 d e]
theorem HR.tick {p : Ps} {d : Dh} (h : HR p d) : HR (pTick p).1 (dTick d).1 ∧ (pTick p).2 = (dTick d).2 := by
  unfold pTick dTick
  rw [h.st]
  split
  · rename_i hst
    obtain ⟨e1, e2⟩ := h.tk hst
    rw [e1, e2, h.rt, h.wt]
    split
    · have hk : ({ d with tk := d.tk + 1 } : Dh).st = d.st := rfl
      refine ⟨⟨h.m, h.sv, h.un, h.rt, h.wt, h.st, h.k, h.ss, fun _ => ⟨rfl, e2⟩, h.o1, h.o2⟩, rfl⟩
    · split
      · exact ⟨h.off 4 (by decide) (by decide) (by decide) rfl rfl rfl rfl rfl rfl, rfl⟩
      · exact ⟨⟨h.m, h.sv, h.un, h.rt, h.wt, h.st, h.k, h.ss, fun _ => ⟨rfl, rfl⟩, h.o1, h.o2⟩, h.say hst⟩
  · exact ⟨h, rfl⟩
theorem HR.chosen {p : Ps} {d : Dh} (h : HR p d) (h1 : d.st = 1) (src : Mc) (l : List Tg) : HR (pChosen p src l) (dChosen d src l) := by
  have hs := dhShow_2 (dChosen d src l) rfl
  refine ⟨h.m, h.sv, h.un, h.rt, h.wt, rfl, by rw [hs]; rfl, by rw [hs]; rfl, fun _ => ⟨rfl, rfl⟩, fun hh => absurd hh (by show ¬ (2 : Int) = 1; decide), fun _ => ?_⟩
  show (if 0 < findN l 260 then some (findS l 260) else p.2) = dCk (dChosen d src l)
  unfold dCk
  rw [h.o1 h1]
  show _ = if decide (0 < findN l 260) = true then some (findS l 260) else none
  simp only [decide_eq_true_eq]
theorem HR.got {p : Ps} {d : Dh} (h : HR p d) (src : Mc) (c ss : Int) (l : List Tg) : HR (pGot p src c ss l).1 (dGot d src c ss l).1 ∧ (pGot p src c ss l).2 = (dGot d src c ss l).2 := by
  unfold pGot dGot
  rw [h.st, h.sv, h.un]
  by_cases c1 : d.st = 1 ∧ c = 7 ∧ ss = 0
  · rw [if_pos c1, if_pos c1]
    split
    · exact ⟨h.chosen c1.1 src l, (h.chosen c1.1 src l).say (Or.inr rfl)⟩
    · exact ⟨h, rfl⟩
  rw [if_neg c1, if_neg c1]
  by_cases s2 : d.st = 2
  · rw [h.k, dhShow_2 d s2]
    by_cases c2 : d.st = 2 ∧ c = 101 ∧ mcEq src d.k = true ∧ mineB d.un l = true
    · rw [if_pos c2, if_pos c2]
      by_cases s0 : ss = 0
      · rw [if_pos s0]
        refine ⟨h.off 4 (by decide) (by decide) (by decide) rfl rfl rfl rfl rfl ?_, rfl⟩
        show (if ss = 0 then (4 : Int) else 3) = 4
        rw [if_pos s0]
      · rw [if_neg s0]
        have e3 : ({ d with st := if ss = 0 then (4 : Int) else 3, ss := ss } : Dh).st = 3 := by show (if ss = 0 then (4 : Int) else 3) = 3; rw [if_neg s0]
        have hs := dhShow_3 ({ d with st := if ss = 0 then (4 : Int) else 3, ss := ss } : Dh) e3
        refine ⟨⟨h.m, h.sv, h.un, h.rt, h.wt, e3.symm, ?_, by rw [hs], fun hh => ?_, fun hh => ?_, fun hh => ?_⟩, rfl⟩
        · rw [hs]; have := h.k; rw [dhShow_2 d s2] at this; exact this
        · rw [e3] at hh; omega
        · rw [e3] at hh; omega
        · rw [e3] at hh; omega
    · rw [if_neg c2, if_neg c2, if_neg (by omega), if_neg (by omega)]
      exact ⟨h, rfl⟩
  simp only [s2, false_and, if_false]
  by_cases s3 : d.st = 3
  · rw [h.k, h.ss, dhShow_3 d s3]
    split
    · exact ⟨h.off 0 (by decide) (by decide) (by decide) rfl rfl rfl rfl rfl rfl, rfl⟩
    · exact ⟨h, rfl⟩
  simp only [s3, false_and, if_false]
  exact ⟨h, trivial⟩
theorem HR.take {p : Ps} {d : Dh} (h : HR p d) (f : Eth) : HR (pTake p f).1 (dTake d f).1 ∧ (pTake p f).2 = (dTake d f).2 := by
  unfold pTake dTake
  rw [h.m]
  cases readF d.m f with
  | none => exact ⟨h, rfl⟩
  | some x => exact h.got _ _ _ _
theorem HR.data {p : Ps} {d : Dh} (h : HR p d) (f : Eth) : dataL p.1.st p.1.k p.1.m p.1.ss f = dataL d.st d.k d.m d.ss f := by
  rw [h.st, h.m]
  by_cases s3 : d.st = 3
  · rw [h.k, h.ss, dhShow_3 d s3]
  · unfold dataL
    rw [if_neg (fun hh => s3 hh.1), if_neg (fun hh => s3 hh.1)]
theorem HR.frame {p : Ps} {d : Dh} (h : HR p d) (b : List UInt8) : framL p.1.st p.1.k p.1.m p.1.ss b = framL d.st d.k d.m d.ss b := by
  rw [h.st, h.m]
  by_cases s3 : d.st = 3
  · rw [h.k, h.ss, dhShow_3 d s3]
  · unfold framL
    rw [if_neg s3, if_neg s3]
theorem HR.new (m : Mc) (sv un : List UInt8) (rt wt : Int) : HR (hs0 m sv un rt wt, none) (dh0 m sv un rt wt) :=
  ⟨rfl, rfl, rfl, rfl, rfl, rfl, rfl, rfl, fun h => by rcases h with h | h <;> exact absurd h (by show ¬ (0 : Int) = _; decide), fun _ => rfl, fun h => absurd h (by show ¬ (0 : Int) = 2; decide)⟩
theorem HI.new (m : Mc) (sv un : List UInt8) (rt wt : Int) (h1 : sv.length ≤ 40) (h2 : un.length ≤ 40) (r0 : 0 ≤ rt) (r1 : rt ≤ 10) (w0 : 1 ≤ wt) (w1 : wt ≤ 100) : HI (hs0 m sv un rt wt, none) :=
  ⟨h1, h2, ⟨r0, r1⟩, ⟨w0, w1⟩, ⟨Int.le_refl _, r0⟩, ⟨Int.le_refl _, by show (0 : Int) ≤ 102400; omega⟩, ⟨Int.le_refl _, by show (0 : Int) ≤ 65535; omega⟩, fun s hs => by cases hs⟩
end Go.Proofs.YtfchbppfbepelaaGreat
