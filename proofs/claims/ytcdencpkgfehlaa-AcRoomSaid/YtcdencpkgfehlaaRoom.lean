/- AcRoom: what a concentrator's room keeps; a right request, and an end, taken. -/
import Derived.Test.YtcdencpkgfehlaaStep7
import Derived.Test.YtcdencpkgfehlaaAcO
import Derived.Test.YtcdencpkgfehlaaAcI
namespace Go.Proofs.Ytcdencpkgfehlaa
open Go.RowKit Go.Maps
set_option linter.unusedVariables false
/-- only blocks from b up to n may differ (and new ones) -/
def FrB (b n : Nat) (w w' : World) : Prop := ∃ Sx, Fr Sx w w' ∧ ∀ x, x ∈ Sx → b ≤ x ∧ x < n
theorem FrB.of (b n : Nat) {w w' : World} (h : Fr [] w w') : FrB b n w w' := ⟨[], h, fun x hx => by cases hx⟩
theorem FrB.blk {b n : Nat} {w w' : World} (h : FrB b n w w') {q T : Nat} {cs : Array Value} (hB : Blk w q cs T) (hq : q < b ∨ n ≤ q) : Blk w' q cs T := by
  obtain ⟨Sx, hF, hS⟩ := h
  exact hF.blk hB (fun hx => by have := hS _ hx; omega)
theorem FrB.sub {b n : Nat} {w0 w w' : World} (h0 : Fr [] w0 w) (h : FrB b n w w') (hb : w0.heap.size ≤ b) : Fr [] w0 w' := by
  obtain ⟨Sx, hF, hS⟩ := h
  exact h0.sub hF (fun x hx => Or.inr (Nat.le_trans hb (hS x hx).1))
theorem FrB.pre {b n : Nat} {w0 w w' : World} (h0 : Fr [] w0 w) (h : FrB b n w w') : FrB b n w0 w' := by
  obtain ⟨Sx, hF, hS⟩ := h
  exact ⟨Sx, (h0.mono (by simp)).trans hF, hS⟩
theorem FrB.size2 {b n : Nat} {w w' : World} (h : FrB b n w w') : w.heap.size ≤ w'.heap.size := by
  obtain ⟨Sx, hF, _⟩ := h
  exact hF.size
def cnR (most : Int) (xa xb : Nat) (last : Int) (gone : Value) : Cn := ⟨mc9, [97, 99], [115], .slice none 0 0, most, xa, xb, last, gone⟩
structure RoomI (most : Int) (g xa xb b n j : Nat) (w : World) (S : List Ses) (G : List Idk) (last : Int) (gone : Value) : Prop where
  is : CnIs w g (cnR most xa xb last gone) S G
  len : (S.length : Int) ≤ most
  two : ∀ m, ofCard S m ≤ 2
  lst : last ≤ j
  gl : G.length ≤ j
  fb : ∀ x, x ∈ g :: xa :: xb :: gone.ownBlock.toList → b ≤ x ∧ x < n
def Room (most : Int) (g xa xb b n j : Nat) (w : World) : Prop := ∃ S G last gone, RoomI most g xa xb b n j w S G last gone
theorem RoomI.room {most : Int} {g xa xb b n j : Nat} {w : World} {S : List Ses} {G : List Idk} {last : Int} {gone : Value} (h : RoomI most g xa xb b n j w S G last gone) : Room most g xa xb b n j w := ⟨S, G, last, gone, h⟩
theorem Room.fr0 {most : Int} {g xa xb b n j : Nat} {w w' : World} (h : Room most g xa xb b n j w) (hF : Fr [] w w') : Room most g xa xb b n j w' := by
  obtain ⟨S, G, last, gone, h⟩ := h
  exact ⟨S, G, last, gone, h.is.fr0 hF, h.len, h.two, h.lst, h.gl, h.fb⟩
theorem Room.up {most : Int} {g xa xb b n n' j j' : Nat} {w : World} (h : Room most g xa xb b n j w) (hn : n ≤ n') (hj : j ≤ j') : Room most g xa xb b n' j' w := by
  obtain ⟨S, G, last, gone, h⟩ := h
  have h1 := h.lst
  have h2 := h.gl
  exact ⟨S, G, last, gone, h.is, h.len, h.two, by omega, by omega, fun x hx => by have := h.fb x hx; omega⟩
theorem ofCard_snoc (S : List Ses) (s : Ses) (m : Mc) : ofCard (S ++ [s]) m = ofCard S m + (if s.m = m then 1 else 0) := by
  unfold ofCard
  rw [List.filter_append, List.length_append]
  by_cases h : s.m = m <;> simp [h]
theorem ofCard_drop (S : List Ses) (id : Idk) (m : Mc) : ofCard (dropS S id) m ≤ ofCard S m := by
  unfold ofCard dropS
  exact (List.filter_sublist.filter _).length_le
theorem room_padr {most : Int} {g xa xb b n j : Nat} {w : World} (h : Mc) (u : List UInt8) (hh : McOk h) (hne : h ≠ mc9) (hu : u.length ≤ 1000) (hmo : most ≤ 60) (hj : j ≤ 300) (hR : Room most g xa xb b n j w) :
    Calls Try.prog 24 #[.pointer (some ⟨g, 0, none⟩), .agg (ethC mc9 h 34915 (discB 25 0 (tgsB (padT h u)))), .int .i64 6] w fun e w' => ∃ q d, e = .returned (.slice (some ⟨q, 0, none⟩) 1 1) ∧ w.heap.size ≤ q ∧ Blk w' q (ethC h mc9 34915 d) 35 ∧ Room most g xa xb b n (j + 1) w' ∧ FrB b n w w' := by
  obtain ⟨S, G, last, gone, hR⟩ := hR
  have hl := hR.len
  have h1 := hR.lst
  have h2 := hR.gl
  refine (take_step (c := cnR most xa xb last gone) h u hh hne hu rfl rfl hR.is (by show last < 60000; omega) (by omega) (by show most ≤ 100000; omega)).mono fun e w' ⟨q, d, he, hq, hB, hc⟩ => ⟨q, d, he, hq, hB, ?_⟩
  have hsz := hR.is.st.lt
  rcases hc with ⟨s, hs, hf, hC, hF⟩ | ⟨hn, hr, hC, hF⟩ | ⟨hn, h5, h6, p, hp, hC, hF⟩
  · exact ⟨⟨S, G, last, gone, hC, hl, hR.two, by omega, by omega, hR.fb⟩, FrB.of _ _ hF⟩
  · exact ⟨⟨S, G, last, gone, hC, hl, hR.two, by omega, by omega, hR.fb⟩, FrB.of _ _ hF⟩
  · refine ⟨⟨_, G, last + 1, gone, hC, ?_, fun m => ?_, by omega, by omega, hR.fb⟩, [g, xa, xb], hF, fun x hx => hR.fb x (by simp at hx ⊢; rcases hx with h | h | h <;> simp [h])⟩
    · rw [List.length_append]
      change (S.length : Int) < most at h5
      simp
      omega
    · rw [ofCard_snoc]
      have := hR.two m
      by_cases hm : h = m
      · subst hm
        rw [if_pos rfl]
        omega
      · rw [if_neg hm]
        omega
theorem room_padt {most : Int} {g xa xb b n j : Nat} {w : World} (h : Mc) (ss : Int) (hh : McOk h) (hne : h ≠ mc9) (s0 : 0 ≤ ss) (s1 : ss ≤ 65535) (hmo : most ≤ 60) (hj : j ≤ 300) (hR : Room most g xa xb b n j w) :
    Calls Try.prog 24 #[.pointer (some ⟨g, 0, none⟩), .agg (ethC mc9 h 34915 (discB 167 ss (tgsB []))), .int .i64 6] w fun e w' => e = .returned (.slice none 0 0) ∧ Room most g xa xb b (max n w'.heap.size) (j + 1) w' ∧ FrB b n w w' := by
  obtain ⟨S, G, last, gone, hR⟩ := hR
  have hl := hR.len
  have h1 := hR.lst
  have h2 := hR.gl
  by_cases hz : ss = 0
  · subst hz
    refine (take_padt0 (c := cnR most xa xb last gone) h [] 6 hne (by simp) (by simp) (by simp [tgsB]) hR.is).mono fun e w' ⟨he, hF⟩ => ⟨he, ?_, FrB.of _ _ hF⟩
    exact ⟨S, G, last, gone, hR.is.fr0 hF, hl, hR.two, by omega, by omega, fun x hx => by have := hR.fb x hx; omega⟩
  · refine take_padt (c := cnR most xa xb last gone) (S := S) (G := G) (fun w' => Room most g xa xb b (max n w'.heap.size) (j + 1) w' ∧ FrB b n w w') h ss [] 6 hne (by simp) (by simp) (by simp [tgsB]) (by omega) s1 (fun W hW => ?_) hR.is
    by_cases hin : ∃ s, s ∈ S ∧ (s.m, s.n) = (h, ss)
    · obtain ⟨s, hs, he⟩ := hin
      have hid : IdOk (h, ss) := ⟨hh, by show In64 ss; unfold In64; omega⟩
      rw [← he] at hid ⊢
      refine (drop_yes (c := cnR most xa xb last gone) s hs hid (by omega) (hR.is.fr0 hW)).mono fun e w' hD => ?_
      obtain ⟨va, hev, hC, hva, hF⟩ := hD
      refine ⟨⟨_, hev⟩, ⟨_, _, last, va, hC, ?_, fun m => Nat.le_trans (ofCard_drop _ _ _) (hR.two m), by omega, by rw [List.length_append]; simp; omega, fun x hx => ?_⟩, g :: xa :: xb :: gone.ownBlock.toList, (hW.mono (by simp)).trans hF, hR.fb⟩
      · have : (dropS S (s.m, s.n)).length ≤ S.length := List.length_filter_le _ _
        omega
      · have hb0 : b ≤ w.heap.size := by have := (hR.fb g (by simp)).1; have := hR.is.st.lt; omega
        simp only [List.mem_cons, Option.mem_toList] at hx
        have key : x ∈ g :: xa :: xb :: gone.ownBlock.toList → b ≤ x ∧ x < max n w'.heap.size := fun h => by have := hR.fb x h; omega
        rcases hx with h | h | h | h
        · exact key (by simp [h])
        · exact key (by simp [h])
        · exact key (by simp [h])
        · rcases hva x h with h5 | h5
          · exact key (by simp only [List.mem_cons, Option.mem_toList]; exact Or.inr (Or.inr (Or.inr h5)))
          · obtain ⟨cur, hcur⟩ := own_blk hC.gn x h
            have := hcur.lt
            have := hW.size
            omega
    · refine (drop_no (c := cnR most xa xb last gone) (h, ss) ⟨hh, by show In64 ss; unfold In64; omega⟩ (fun s hs hk => hin ⟨s, hs, by unfold kv at hk; exact (Prod.mk.inj hk).1⟩) (hR.is.fr0 hW)).mono fun e w' ⟨he, hF⟩ => ?_
      exact ⟨⟨_, he⟩, ⟨S, G, last, gone, (hR.is.fr0 hW).fr0 hF, hl, hR.two, by omega, by omega, fun x hx => by have := hR.fb x hx; omega⟩, FrB.of _ _ (hW.trans hF)⟩
end Go.Proofs.Ytcdencpkgfehlaa
