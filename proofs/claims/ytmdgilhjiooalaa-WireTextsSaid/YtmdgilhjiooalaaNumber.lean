/- Number and what it reads. -/
import Derived.Test.YtmdgilhjiooalaaUnhex
namespace Go.Proofs.Ytmdgilhjiooalaa
open Go.RowKit
set_option linter.unusedVariables false

def isN (c : Int) : Bool := decide (48 ≤ c ∧ c ≤ 57)
def isNb (b : UInt8) : Bool := isN (b.toNat : Int)
def decV (l : List UInt8) : Nat → Int
  | 0 => 0
  | k + 1 => 10 * decV l k + (at0 l k - 48)
def numE (l : List UInt8) : Int := if l.length = 0 ∨ 10 < l.length ∨ (at0 l 0 = 48 ∧ 1 < l.length) ∨ l.all isNb = false then 1 else 0
def numV (l : List UInt8) : Int := if numE l = 0 then decV l l.length else 0
theorem at0_at (l : List UInt8) (i : Nat) (h : i < l.length) : at0 l i = (l[i].toNat : Int) := by unfold at0; rw [List.getD, List.getElem?_eq_getElem h]; rfl
theorem all_take1 (l : List UInt8) (k : Nat) (h : k < l.length) : (l.take (k + 1)).all isNb = ((l.take k).all isNb && isN (l[k].toNat : Int)) := by
  rw [List.take_succ_eq_append_getElem h, List.all_append]
  simp [isNb]
theorem all_take1_false (l : List UInt8) (k : Nat) (h : (l.take k).all isNb = false) : l.all isNb = false := by
  rw [← List.take_append_drop k l, List.all_append, h]; rfl
theorem decV_bd (l : List UInt8) (k : Nat) (hk : k ≤ l.length) (h : (l.take k).all isNb = true) : 0 ≤ decV l k ∧ decV l k < 10 ^ k := by
  induction k with
  | zero => simp [decV]
  | succ k ih =>
    rw [all_take1 l k (by omega), Bool.and_eq_true] at h
    have := ih (by omega) h.1
    have h2 : isN (l[k].toNat : Int) = true := h.2
    simp only [isN, decide_eq_true_eq] at h2
    rw [decV, at0_at l k (by omega), Int.pow_succ]
    omega
theorem decV_small (l : List UInt8) (k : Nat) (hk : k ≤ l.length) (h9 : k ≤ 9) (h : (l.take k).all isNb = true) : 0 ≤ decV l k ∧ decV l k < 1000000000 := by
  have := decV_bd l k hk h
  refine ⟨this.1, Int.lt_of_lt_of_le this.2 ?_⟩
  have h : (10 : Nat) ^ k ≤ 10 ^ 9 := Nat.pow_le_pow_right (by omega) h9
  have e : (10 : Int) ^ k = ((10 ^ k : Nat) : Int) := by simp
  omega

set_option maxRecDepth 100000 in
set_option maxHeartbeats 2000000 in
theorem number_any (l : List UInt8) (w : World) (hl : l.length ≤ 1000000) :
    Calls Try.prog 27 #[.string (B l)] w fun e w' => e = .returned (.tuple #[.int .i64 (numV l), .int .i64 (numE l)]) ∧ w = w' := by
  cases l with
  | nil =>
    have e : numE [] = 1 := rfl
    have e' : numV [] = 0 := rfl
    rw [e, e']; clear e e'
    go_enter Try.func27, Try.ntmps27
    go_wp2
    go_ret2
    exact ⟨rfl, rfl⟩
  | cons c t =>
    have hc0 : at0 (c :: t) 0 = (c.toNat : Int) := rfl
    by_cases h10 : 10 < (c :: t).length
    · have e : numE (c :: t) = 1 := by unfold numE; rw [if_pos (.inr (.inl h10))]
      have e' : numV (c :: t) = 0 := by unfold numV; rw [e]; rfl
      rw [e, e']; clear e e' hc0
      have h10' : (10 : Int) < (t.length : Int) + 1 := by simp at h10; omega
      have hl' : t.length + 1 ≤ 1000000 := by simpa using hl
      clear h10 hl
      go_enter Try.func27, Try.ntmps27
      go_wp2
      go_ret2
      exact ⟨rfl, rfl⟩
    · have h10' : ¬ (10 : Int) < (t.length : Int) + 1 := by simp at h10; omega
      by_cases hz : (c.toNat : Int) = 48 ∧ 1 < (c :: t).length
      · have e : numE (c :: t) = 1 := by unfold numE; rw [if_pos (.inr (.inr (.inl ⟨hc0.trans hz.1, hz.2⟩)))]
        have e' : numV (c :: t) = 0 := by unfold numV; rw [e]; rfl
        have h1 : ((c.toNat : Int) == 48) = true := by rw [beq_iff_eq]; exact hz.1
        have h2 : (1 : Int) < (t.length : Int) + 1 := by have := hz.2; simp at this; omega
        rw [e, e']; clear e e' hc0 hz h10 hl
        go_enter Try.func27, Try.ntmps27
        go_wp2
        go_ret2
        exact ⟨rfl, rfl⟩
      · have hg : ((c.toNat : Int) == 48) = false ∨ (((c.toNat : Int) == 48) = true ∧ ¬ (1 : Int) < (t.length : Int) + 1) := by
          by_cases h : (c.toNat : Int) = 48
          · exact .inr ⟨by rw [beq_iff_eq]; exact h, by intro h2; exact hz ⟨h, by simp; omega⟩⟩
          · exact .inl (by rw [beq_eq_false_iff_ne]; exact h)
        have hE : (c :: t).all isNb = true → numE (c :: t) = 0 := fun h => by
          unfold numE; rw [if_neg]
          rintro (h' | h' | h' | h')
          · simp at h'
          · exact h10 h'
          · exact hz ⟨hc0 ▸ h'.1, h'.2⟩
          · rw [h] at h'; cases h'
        have hE' : (c :: t).all isNb = false → numE (c :: t) = 1 := fun h => by
          unfold numE; rw [if_pos (.inr (.inr (.inr h)))]
        have hlen : (c :: t).length ≤ 10 := by simp at h10 ⊢; omega
        have HE := Lib.hid hE
        have HE' := Lib.hid hE'
        have Hlen := Lib.hid hlen
        have hi0 : (0 : Int) < (t.length : Int) + 1 := by omega
        clear hz hc0 hE hE' hlen h10 hl
        rcases hg with hg | ⟨hg, hg2⟩
        all_goals
          go_enter Try.func27, Try.ntmps27
          go_wp2
          obtain ⟨l, hl⟩ : ∃ l, c :: t = l := ⟨_, rfl⟩
          have hlen2 : (t.length : Int) + 1 = (l.length : Int) := by rw [← hl]; simp
          rw [hl] at HE HE' Hlen ⊢
          rw [hlen2] at hi0 ⊢
          have hl10 : (l.length : Int) ≤ 10 := by have := Hlen.out; omega
          have Hl := Lib.hid hl
          clear hl hlen2 hg h10'
          go_loopw [4, 25] (fun nv kv wr => ∃ k : Nat, k ≤ l.length ∧ kv = .int .i64 k ∧ nv = .int .i64 (decV l k) ∧ Hid ((l.take k).all isNb = true) ∧ w = wr) (fun _ kv _ => l.length - (intOf kv).toNat)
          case atStart => exact ⟨0, Nat.zero_le _, rfl, rfl, rfl, rfl⟩
          case round =>
            obtain ⟨k, hk, rfl, rfl, hall, rfl⟩ := hrel
            by_cases hlt : k < l.length
            · have ht := all_take1 l k hlt
              rw [hall.out, Bool.true_and] at ht
              have hdec : decV l (k + 1) = 10 * decV l k + ((l[k].toNat : Int) - 48) := by rw [decV, at0_at l k hlt]
              have hsm := decV_small l k (by omega) (by omega) hall.out
              obtain ⟨v, hv⟩ : ∃ v, decV l k = v := ⟨_, rfl⟩
              rw [hv] at hdec hsm ⊢
              obtain ⟨v0, v1⟩ := hsm
              by_cases ha : (l[k].toNat : Int) < 48
              · have e := HE'.out (all_take1_false l (k + 1) (by rw [ht]; simp only [isN, decide_eq_false_iff_not]; omega))
                have e' : numV l = 0 := by unfold numV; rw [e]; rfl
                have E := Lib.hid e
                have E' := Lib.hid e'
                have hda : decide ((l[k].toNat : Int) < 48) = true := by simpa using ha
                clear e e' hdec hv ht ha
                go_wp2
                go_ret2
                exact ⟨by rw [Hl.out, E.out, E'.out]; rfl, rfl⟩
              · by_cases hb : (57 : Int) < (l[k].toNat : Int)
                · have e := HE'.out (all_take1_false l (k + 1) (by rw [ht]; simp only [isN, decide_eq_false_iff_not]; omega))
                  have e' : numV l = 0 := by unfold numV; rw [e]; rfl
                  have E := Lib.hid e
                  have E' := Lib.hid e'
                  have hda : decide ((l[k].toNat : Int) < 48) = false := by simpa using ha
                  have hdb : decide ((57 : Int) < (l[k].toNat : Int)) = true := by simpa using hb
                  clear e e' hdec hv ht ha hb
                  go_wp2
                  go_ret2
                  exact ⟨by rw [Hl.out, E.out, E'.out]; rfl, rfl⟩
                · have ht' : (l.take (k + 1)).all isNb = true := by rw [ht]; simp only [isN, decide_eq_true_eq]; omega
                  have Ht := Lib.hid ht'
                  have Hdec := Lib.hid hdec
                  have hda : decide ((l[k].toNat : Int) < 48) = false := by simpa using ha
                  have hdb : decide ((57 : Int) < (l[k].toNat : Int)) = false := by simpa using hb
                  have hw8 : IntKind.u8.wrap ((l[k].toNat : Int) - 48) = (l[k].toNat : Int) - 48 := by rw [IntKind.wrap_u8]; omega
                  have hw64 : wrap64 ((l[k].toNat : Int) - 48) = (l[k].toNat : Int) - 48 := IntWalk.wrap64_in _ (by omega)
                  have hwa : wrap64 (10 * v + ((l[k].toNat : Int) - 48)) = 10 * v + ((l[k].toNat : Int) - 48) := IntWalk.wrap64_in _ (by omega)
                  clear hdec hv ht ht' ha hb
                  go_wp2
                  go_roundw
                  case rel => exact ⟨k + 1, by omega, by go_num, by rw [Hdec.out]; first | rfl | rw [hwa] | (rw [Int.mul_comm v 10, hwa]), Ht, trivial⟩
                  case measure => (simp [intOf]) <;> omega
            · have hkl : k = l.length := by omega
              have hall' := hall.out
              rw [hkl, List.take_length] at hall'
              have e := HE.out hall'
              have e' : numV l = decV l k := by unfold numV; rw [if_pos e, hkl]
              have E := Lib.hid e
              have E' := Lib.hid e'
              clear e e' hall'
              go_wp2
              go_ret2
              exact ⟨by rw [Hl.out, E.out, E'.out]; rfl, rfl⟩

set_option maxRecDepth 100000 in
set_option maxHeartbeats 2000000 in
theorem rnumber_any (l : List UInt8) (w : World) (hl : l.length ≤ 1000000) :
    Calls Try.prog 29 #[.string (B l)] w fun e w' => e = .returned (.tuple #[.int .i64 (numV l), .int .i64 (numE l)]) ∧ w = w' := by
  cases l with
  | nil =>
    have e : numE [] = 1 := rfl
    have e' : numV [] = 0 := rfl
    rw [e, e']; clear e e'
    go_enter Try.func29, Try.ntmps29
    go_wp2
    go_ret2
    exact ⟨rfl, rfl⟩
  | cons c t =>
    have hc0 : at0 (c :: t) 0 = (c.toNat : Int) := rfl
    by_cases h10 : 10 < (c :: t).length
    · have e : numE (c :: t) = 1 := by unfold numE; rw [if_pos (.inr (.inl h10))]
      have e' : numV (c :: t) = 0 := by unfold numV; rw [e]; rfl
      rw [e, e']; clear e e' hc0
      have h10' : (10 : Int) < (t.length : Int) + 1 := by simp at h10; omega
      have hl' : t.length + 1 ≤ 1000000 := by simpa using hl
      clear h10 hl
      go_enter Try.func29, Try.ntmps29
      go_wp2
      go_ret2
      exact ⟨rfl, rfl⟩
    · have h10' : ¬ (10 : Int) < (t.length : Int) + 1 := by simp at h10; omega
      by_cases hz : (c.toNat : Int) = 48 ∧ 1 < (c :: t).length
      · have e : numE (c :: t) = 1 := by unfold numE; rw [if_pos (.inr (.inr (.inl ⟨hc0.trans hz.1, hz.2⟩)))]
        have e' : numV (c :: t) = 0 := by unfold numV; rw [e]; rfl
        have h1 : ((c.toNat : Int) == 48) = true := by rw [beq_iff_eq]; exact hz.1
        have h2 : (1 : Int) < (t.length : Int) + 1 := by have := hz.2; simp at this; omega
        rw [e, e']; clear e e' hc0 hz h10 hl
        go_enter Try.func29, Try.ntmps29
        go_wp2
        go_ret2
        exact ⟨rfl, rfl⟩
      · have hg : ((c.toNat : Int) == 48) = false ∨ (((c.toNat : Int) == 48) = true ∧ ¬ (1 : Int) < (t.length : Int) + 1) := by
          by_cases h : (c.toNat : Int) = 48
          · exact .inr ⟨by rw [beq_iff_eq]; exact h, by intro h2; exact hz ⟨h, by simp; omega⟩⟩
          · exact .inl (by rw [beq_eq_false_iff_ne]; exact h)
        have hE : (c :: t).all isNb = true → numE (c :: t) = 0 := fun h => by
          unfold numE; rw [if_neg]
          rintro (h' | h' | h' | h')
          · simp at h'
          · exact h10 h'
          · exact hz ⟨hc0 ▸ h'.1, h'.2⟩
          · rw [h] at h'; cases h'
        have hE' : (c :: t).all isNb = false → numE (c :: t) = 1 := fun h => by
          unfold numE; rw [if_pos (.inr (.inr (.inr h)))]
        have hlen : (c :: t).length ≤ 10 := by simp at h10 ⊢; omega
        have HE := Lib.hid hE
        have HE' := Lib.hid hE'
        have Hlen := Lib.hid hlen
        have hi0 : (0 : Int) < (t.length : Int) + 1 := by omega
        clear hz hc0 hE hE' hlen h10 hl
        rcases hg with hg | ⟨hg, hg2⟩
        all_goals
          go_enter Try.func29, Try.ntmps29
          go_wp2
          obtain ⟨l, hl⟩ : ∃ l, c :: t = l := ⟨_, rfl⟩
          have hlen2 : (t.length : Int) + 1 = (l.length : Int) := by rw [← hl]; simp
          rw [hl] at HE HE' Hlen ⊢
          rw [hlen2] at hi0 ⊢
          have hl10 : (l.length : Int) ≤ 10 := by have := Hlen.out; omega
          have Hl := Lib.hid hl
          clear hl hlen2 hg h10'
          go_loopw [4, 5] (fun nv kv wr => ∃ k : Nat, k ≤ l.length ∧ kv = .int .i64 k ∧ nv = .int .i64 (decV l k) ∧ Hid ((l.take k).all isNb = true) ∧ w = wr) (fun _ kv _ => l.length - (intOf kv).toNat)
          case atStart => exact ⟨0, Nat.zero_le _, rfl, rfl, rfl, rfl⟩
          case round =>
            obtain ⟨k, hk, rfl, rfl, hall, rfl⟩ := hrel
            by_cases hlt : k < l.length
            · have ht := all_take1 l k hlt
              rw [hall.out, Bool.true_and] at ht
              have hdec : decV l (k + 1) = 10 * decV l k + ((l[k].toNat : Int) - 48) := by rw [decV, at0_at l k hlt]
              have hsm := decV_small l k (by omega) (by omega) hall.out
              obtain ⟨v, hv⟩ : ∃ v, decV l k = v := ⟨_, rfl⟩
              rw [hv] at hdec hsm ⊢
              obtain ⟨v0, v1⟩ := hsm
              by_cases ha : (l[k].toNat : Int) < 48
              · have e := HE'.out (all_take1_false l (k + 1) (by rw [ht]; simp only [isN, decide_eq_false_iff_not]; omega))
                have e' : numV l = 0 := by unfold numV; rw [e]; rfl
                have E := Lib.hid e
                have E' := Lib.hid e'
                have hda : decide ((l[k].toNat : Int) < 48) = true := by simpa using ha
                clear e e' hdec hv ht ha
                go_wp2
                go_ret2
                exact ⟨by rw [Hl.out, E.out, E'.out]; rfl, rfl⟩
              · by_cases hb : (57 : Int) < (l[k].toNat : Int)
                · have e := HE'.out (all_take1_false l (k + 1) (by rw [ht]; simp only [isN, decide_eq_false_iff_not]; omega))
                  have e' : numV l = 0 := by unfold numV; rw [e]; rfl
                  have E := Lib.hid e
                  have E' := Lib.hid e'
                  have hda : decide ((l[k].toNat : Int) < 48) = false := by simpa using ha
                  have hdb : decide ((57 : Int) < (l[k].toNat : Int)) = true := by simpa using hb
                  clear e e' hdec hv ht ha hb
                  go_wp2
                  go_ret2
                  exact ⟨by rw [Hl.out, E.out, E'.out]; rfl, rfl⟩
                · have ht' : (l.take (k + 1)).all isNb = true := by rw [ht]; simp only [isN, decide_eq_true_eq]; omega
                  have Ht := Lib.hid ht'
                  have Hdec := Lib.hid hdec
                  have hda : decide ((l[k].toNat : Int) < 48) = false := by simpa using ha
                  have hdb : decide ((57 : Int) < (l[k].toNat : Int)) = false := by simpa using hb
                  have hw8 : IntKind.u8.wrap ((l[k].toNat : Int) - 48) = (l[k].toNat : Int) - 48 := by rw [IntKind.wrap_u8]; omega
                  have hw64 : wrap64 ((l[k].toNat : Int) - 48) = (l[k].toNat : Int) - 48 := IntWalk.wrap64_in _ (by omega)
                  have hwa : wrap64 (10 * v + ((l[k].toNat : Int) - 48)) = 10 * v + ((l[k].toNat : Int) - 48) := IntWalk.wrap64_in _ (by omega)
                  clear hdec hv ht ht' ha hb
                  go_wp2
                  go_roundw
                  case rel => exact ⟨k + 1, by omega, by go_num, by rw [Hdec.out]; first | rfl | rw [hwa] | (rw [Int.mul_comm v 10, hwa]), Ht, trivial⟩
                  case measure => (simp [intOf]) <;> omega
            · have hkl : k = l.length := by omega
              have hall' := hall.out
              rw [hkl, List.take_length] at hall'
              have e := HE.out hall'
              have e' : numV l = decV l k := by unfold numV; rw [if_pos e, hkl]
              have E := Lib.hid e
              have E' := Lib.hid e'
              clear e e' hall'
              go_wp2
              go_ret2
              exact ⟨by rw [Hl.out, E.out, E'.out]; rfl, rfl⟩
end Go.Proofs.Ytmdgilhjiooalaa
