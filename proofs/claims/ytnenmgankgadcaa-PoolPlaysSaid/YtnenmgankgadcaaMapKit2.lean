/- Maps whose entries are known as a list of pairs: an assignment of several elements at once (the entry first, the value behind). No program is spoken of here. -/
import Derived.Test.YtnenmgankgadcaaMapKit
namespace Go.Proofs.Ytnenmgankgadcaa
open Go.RowKit Go.Maps
set_option linter.unusedVariables false
section
variable {P : Program} {k e t : TypeId} {κ ν : Type} [DecidableEq κ] {E : KeyEnc P k κ} {ev : ν → Value} {w : World} {b : Nat} {l : List (κ × ν)}
/-- a map whose last entry is new, with its stamp -/
def MapNew (E : KeyEnc P k κ) (ev : ν → Value) (w : World) (b : Nat) (l : List (κ × ν)) (x : κ) (v : ν) (c : Nat) : Prop :=
  ∃ es clock, w.heap[b]? = some (.map es clock) ∧ es.size ≤ maxLen ∧ MapKept.Stamped es clock ∧ es.toList.map (fun x => (x.key, x.val)) = (l ++ [(x, v)]).map (fun p => (E.ek p.1, ev p.2)) ∧ (∀ p, p ∈ l ++ [(x, v)] → E.V p.1) ∧
    ∃ e0, es.toList[l.length]? = some e0 ∧ e0.born = c ∧ es.findIdx? (fun e => (e.born : Int) == (c : Int)) = some l.length
omit [DecidableEq κ] in
theorem MapNew.fr {w' : World} {S : List Nat} {x : κ} {v : ν} {c : Nat} (h : MapNew E ev w b l x v c) (hF : Fr S w w') (hn : b ∉ S) : MapNew E ev w' b l x v c := by
  obtain ⟨es, clock, hb, h1⟩ := h
  exact ⟨es, clock, by rw [hF.block b (Array.getElem?_eq_some_iff.1 hb).1 hn]; exact hb, h1⟩
theorem findIdx_last {α : Type} (p : α → Bool) (es : Array α) (a : α) (h : ∀ x, x ∈ es.toList → p x = false) (ha : p a = true) : (es.push a).findIdx? p = some es.size := by
  rw [Array.findIdx?_push]
  have : es.findIdx? p = none := by
    rw [Array.findIdx?_eq_none_iff]
    intro x hx
    exact h x (by simpa using hx)
  simp [this, ha]
theorem MapIs.entryNew (h : MapIs E ev w b l) (ht : P.underlying t = some (.map k e)) {v0 : ν} (hz : (zeroValue e).run P w = .ok (ev v0) w) (hroom : l.length < maxLen) (x : κ) (hx : E.V x) (hn : look l x = none) :
    ∃ w' c, (Instr.mapEntry t (.map (some b)) (E.ek x)).run P w = .ok (.tuple #[ev v0, .int .i64 (c : Nat)]) w' ∧ MapNew E ev w' b l x v0 c ∧ Fr [b] w w' := by
  have hnd := h.nodup
  obtain ⟨es, clock, hb, hs, hst, he, hV⟩ := h
  obtain ⟨kl, hk⟩ := E.ok x hx
  have hfr : ∀ o, Fr [b] w (ChangeMaps.setBlock w b o) := fun o => ⟨rfl, rfl, rfl, by simp [ChangeMaps.setBlock], fun i _ hi => ChangeMaps.heap_setBlock_other hb _ (fun e => hi (by rw [e]; simp))⟩
  have hks : ∀ y, y ∈ es.toList → ∃ kl, keyOf P k y.key = some kl := fun y hy => by obtain ⟨p, _, _, _, h4⟩ := keys_of he hV y hy; exact h4
  rcases E.law.find w hk es.toList hks with ⟨h1, h2⟩ | ⟨j, e0, h1, h2, h3⟩
  · have hsz := MapIs.size_eq he
    refine ⟨_, clock, by simp [Instr.mapEntry, run_underlying ht, MapKept.run_getObj_map hb, E.law.check w _ hk, h1, hz, MapKept.run_setObj_map _ hb, Result.andThen, goInt]; rfl, ?_, hfr _⟩
    refine ⟨es.push ⟨E.ek x, ev v0, clock⟩, clock + 1, ChangeMaps.heap_setBlock_same hb _, by simp; omega, MapKept.stamped_push hst h2, by simp [he], ?_, ⟨E.ek x, ev v0, clock⟩, ?_, rfl, ?_⟩
    · intro p hp
      rcases List.mem_append.1 hp with hp | hp
      · exact hV p hp
      · simp at hp; subst hp; exact hx
    · rw [Array.toList_push, ← hsz, List.getElem?_append_right (by simp)]
      simp
    · rw [← hsz]
      refine findIdx_last _ es _ (fun y hy => ?_) (by simp)
      have := hst.1 y hy
      rw [beq_eq_false_iff_ne]
      omega
  · obtain ⟨p, hp, hp1, hp2⟩ := entry_at he h2
    have hpx : p.1 = x := E.inj _ _ (by rw [← hp1, h3])
    have hs' : look l x = some p.2 := (look_some hnd).2 (by rw [← hpx]; exact List.mem_of_getElem? hp)
    rw [hn] at hs'
    cases hs'
theorem MapNew.store {x : κ} {v0 : ν} {c : Nat} (h : MapNew E ev w b l x v0 c) (hn : look l x = none) (v : ν) :
    ∃ w', (Instr.entryStore t (.map (some b)) (.int .i64 (c : Nat)) (ev v)).run P w = .ok () w' ∧ MapIs E ev w' b (put l x v) ∧ Fr [b] w w' := by
  obtain ⟨es, clock, hb, hs, hst, he, hV, e0, he0, hc, hfi⟩ := h
  have hfr : ∀ o, Fr [b] w (ChangeMaps.setBlock w b o) := fun o => ⟨rfl, rfl, rfl, by simp [ChangeMaps.setBlock], fun i _ hi => ChangeMaps.heap_setBlock_other hb _ (fun e => hi (by rw [e]; simp))⟩
  have hlist : (es.modify l.length (fun e' => { e' with val := ev v })).toList = es.toList.set l.length { e0 with val := ev v } := by rw [Array.toList_modify, ChangeMaps.modify_eq_set _ _ _ _ he0]
  refine ⟨_, by simp [Instr.entryStore, MapKept.run_getObj_map hb, asInt, asIntOf, hfi, MapKept.run_setObj_map _ hb, Result.andThen]; rfl, ?_, hfr _⟩
  refine ⟨es.modify l.length (fun e' => { e' with val := ev v }), clock, ChangeMaps.heap_setBlock_same hb _, by simpa using hs, MapKept.stamped_modify hst _ _ (fun _ _ => rfl) (fun _ _ _ => rfl), ?_, ?_⟩
  · have hput : put l x v = l ++ [(x, v)] := by unfold put; rw [hn]; rfl
    have hk0 : e0.key = E.ek x := by
      have := congrArg (fun (q : List (Value × Value)) => q[l.length]?) he
      simp only [List.getElem?_map, he0, Option.map_some] at this
      rw [List.getElem?_append_right (Nat.le_refl _)] at this
      simp at this
      exact this.1
    rw [hlist, List.map_set, he, hput]
    rw [List.map_append, List.map_append, List.set_append_right _ _ (by simp)]
    simp [hk0]
  · intro p hp
    have hput : put l x v = l ++ [(x, v)] := by unfold put; rw [hn]; rfl
    rw [hput] at hp
    rcases List.mem_append.1 hp with hp | hp
    · exact hV p (List.mem_append.2 (Or.inl hp))
    · simp at hp; subst hp
      exact hV (x, v0) (by simp)
end
end Go.Proofs.Ytnenmgankgadcaa
