/- What a host and a concentrator say to each other where nothing is lost, as lists: no program is spoken of here. -/
import Derived.Test.YtcdencpkgfehlaaHmC
namespace Go.Proofs.Ytcdencpkgfehlaa
open Go.RowKit Go.Maps
set_option linter.unusedVariables false
def mtK : Mc := ⟨9, 0, 0, 0, 0, 0⟩
def mtM : Mc := ⟨1, 0, 0, 0, 0, 0⟩
def unT (un : List UInt8) : List Tg := if un = [] then [] else [(259, un)]
theorem fN_cons (t : Tg) (l : List Tg) (k : Int) : findN (t :: l) k = (if t.1 = k then 1 else 0) + findN l k := by
  unfold findN
  by_cases h : t.1 = k
  · simp [h]; omega
  · simp [h]
theorem fN_app (a b : List Tg) (k : Int) : findN (a ++ b) k = findN a k + findN b k := by
  unfold findN; simp
theorem fN_no (l : List Tg) (k : Int) (h : ∀ t, t ∈ l → t.1 ≠ k) : findN l k = 0 := by
  unfold findN
  rw [List.length_eq_zero_iff, List.filter_eq_nil_iff]
  intro t ht
  simpa using h t ht
theorem fS_cons (t : Tg) (l : List Tg) (k : Int) : findS (t :: l) k = if t.1 = k then t.2 else findS l k := by
  unfold findS
  by_cases h : t.1 = k
  · simp [h]
  · rw [List.find?_cons_of_neg (by simpa using h), if_neg h]
theorem fS_app (a b : List Tg) (k : Int) (h : ∀ t, t ∈ a → t.1 ≠ k) : findS (a ++ b) k = findS b k := by
  unfold findS
  rw [List.find?_append, List.find?_eq_none.2 (fun t ht => by simpa using h t ht)]
  rfl
theorem unT_N (un : List UInt8) (k : Int) (h : k ≠ 259) : findN (unT un) k = 0 := by
  unfold unT
  split
  · rfl
  · rw [fN_cons, if_neg (by simp only; omega)]; rfl
theorem unT_N9 (un : List UInt8) : findN (unT un) 259 = if un = [] then 0 else 1 := by
  unfold unT
  split
  · rfl
  · rfl
theorem unT_S (un : List UInt8) : findS (unT un) 259 = un := by
  unfold unT
  split
  · rename_i h; rw [h]; rfl
  · rfl
theorem unT_S0 (un : List UInt8) (k : Int) (h : k ≠ 259) : findS (unT un) k = [] := by
  unfold unT
  split
  · rfl
  · rw [fS_cons, if_neg (by simp only; omega)]; rfl
theorem ask_0 (sv un : List UInt8) : askL sv un none = (257, sv) :: unT un := rfl
theorem ask_1 (sv un ck : List UInt8) : askL sv un (some ck) = (257, sv) :: (260, ck) :: unT un := rfl
theorem ask0_uniq (sv un : List UInt8) : uniqT (askL sv un none) = unT un := by
  have e1 : findN (askL sv un none) 259 = if un = [] then 0 else 1 := by rw [ask_0, fN_cons, unT_N9]; simp
  have e2 : findS (askL sv un none) 259 = un := by rw [ask_0, fS_cons, unT_S]; simp
  unfold uniqT
  rw [e1, e2]
  unfold unT
  by_cases h : un = [] <;> simp [h]
theorem ask1_uniq (sv un ck : List UInt8) : uniqT (askL sv un (some ck)) = unT un := by
  have e1 : findN (askL sv un (some ck)) 259 = if un = [] then 0 else 1 := by rw [ask_1, fN_cons, fN_cons, unT_N9]; simp
  have e2 : findS (askL sv un (some ck)) 259 = un := by rw [ask_1, fS_cons, fS_cons, unT_S]; simp
  unfold uniqT
  rw [e1, e2]
  unfold unT
  by_cases h : un = [] <;> simp [h]
/-- few tags, and short ones -/
def Few (l : List Tg) : Prop := l.length ≤ 12 ∧ ∀ t, t ∈ l → TgOk t ∧ t.2.length ≤ 40
theorem Few.size {l : List Tg} (h : Few l) : (tgsB l).length ≤ 1494 := by
  have : ∀ l : List Tg, (∀ t, t ∈ l → t.2.length ≤ 40) → (tgsB l).length ≤ l.length * 44 := by
    intro l
    induction l with
    | nil => intro _; simp [tgsB]
    | cons t r ih =>
      intro h
      have h1 := h t (by simp)
      have h2 := ih fun u hu => h u (by simp [hu])
      rw [tgsB_cons, List.length_append]
      simp only [List.length_append, be_length, List.length_cons]
      rw [Nat.add_mul]
      omega
  have h2 := this l fun t ht => (h.2 t ht).2
  have h3 := h.1
  have : l.length * 44 ≤ 12 * 44 := Nat.mul_le_mul_right _ h3
  omega
theorem Few.ok {l : List Tg} (h : Few l) : ∀ x, x ∈ l → TgOk x ∧ x.2.length ≤ 1494 := fun x hx => ⟨(h.2 x hx).1, by have := (h.2 x hx).2; omega⟩
theorem few_un {un : List UInt8} (h : un.length ≤ 40) : (unT un).length ≤ 1 ∧ ∀ t, t ∈ unT un → TgOk t ∧ t.2.length ≤ 40 := by
  unfold unT
  split
  · exact ⟨by simp, fun t ht => by cases ht⟩
  · exact ⟨by simp, fun t ht => by simp at ht; subst ht; exact ⟨by unfold TgOk; simp only; omega, h⟩⟩
theorem few_ask0 {sv un : List UInt8} (h1 : sv.length ≤ 40) (h2 : un.length ≤ 40) : Few (askL sv un none) := by
  obtain ⟨a, b⟩ := few_un h2
  rw [ask_0]
  refine ⟨by simp; omega, fun t ht => ?_⟩
  rcases List.mem_cons.1 ht with rfl | ht
  · exact ⟨by unfold TgOk; simp only; omega, h1⟩
  · exact b t ht
theorem few_ask1 {sv un ck : List UInt8} (h1 : sv.length ≤ 40) (h2 : un.length ≤ 40) (h3 : ck.length = 16) : Few (askL sv un (some ck)) := by
  obtain ⟨a, b⟩ := few_un h2
  rw [ask_1]
  refine ⟨by simp; omega, fun t ht => ?_⟩
  rcases List.mem_cons.1 ht with rfl | ht
  · exact ⟨by unfold TgOk; simp only; omega, h1⟩
  rcases List.mem_cons.1 ht with rfl | ht
  · exact ⟨by unfold TgOk; simp only; omega, by simp only; omega⟩
  · exact b t ht
theorem few_pads {sv un : List UInt8} (h1 : sv.length ≤ 40) (h2 : un.length ≤ 40) : Few ((257, sv) :: unT un) := few_ask0 h1 h2
theorem off_eq (nm sv un ck : List UInt8) (os : List (List UInt8)) : offL nm sv os ck (askL sv un none) = ((258, nm) :: (257, sv) :: svcL sv os) ++ (260, ck) :: unT un := by
  unfold offL
  rw [ask0_uniq]
theorem svc_mem {sv : List UInt8} {os : List (List UInt8)} {t : Tg} (h : t ∈ svcL sv os) : ∃ s, s ∈ os ∧ t = (257, s) := by
  unfold svcL at h
  split at h
  · obtain ⟨s, h1, h2⟩ := List.mem_map.1 h
    exact ⟨s, h1, h2.symm⟩
  · cases h
theorem svc_len (sv : List UInt8) (os : List (List UInt8)) : (svcL sv os).length ≤ os.length := by
  unfold svcL
  split
  · simp
  · simp
theorem head_mem {nm sv : List UInt8} {os : List (List UInt8)} {t : Tg} (h : t ∈ (258, nm) :: (257, sv) :: svcL sv os) : t.1 = 258 ∨ t.1 = 257 := by
  rcases List.mem_cons.1 h with rfl | h
  · exact Or.inl rfl
  rcases List.mem_cons.1 h with rfl | h
  · exact Or.inr rfl
  obtain ⟨s, _, rfl⟩ := svc_mem h
  exact Or.inr rfl
theorem few_off {nm sv un ck : List UInt8} {os : List (List UInt8)} (h0 : nm.length ≤ 40) (h1 : sv.length ≤ 40) (h2 : un.length ≤ 40) (h3 : ck.length = 16) (h4 : os.length ≤ 8) (h5 : ∀ s, s ∈ os → s.length ≤ 40) : Few (offL nm sv os ck (askL sv un none)) := by
  obtain ⟨a, b⟩ := few_un h2
  have hl := svc_len sv os
  rw [off_eq]
  refine ⟨by simp; omega, fun t ht => ?_⟩
  rcases List.mem_append.1 ht with ht | ht
  · rcases List.mem_cons.1 ht with rfl | ht
    · exact ⟨by unfold TgOk; simp only; omega, h0⟩
    rcases List.mem_cons.1 ht with rfl | ht
    · exact ⟨by unfold TgOk; simp only; omega, h1⟩
    obtain ⟨s, hs, rfl⟩ := svc_mem ht
    exact ⟨by unfold TgOk; simp only; omega, h5 s hs⟩
  · rcases List.mem_cons.1 ht with rfl | ht
    · exact ⟨by unfold TgOk; simp only; omega, by simp only; omega⟩
    · exact b t ht
theorem off_off (nm sv un ck : List UInt8) (os : List (List UInt8)) : offB sv (offL nm sv os ck (askL sv un none)) = true := by
  unfold offB
  rw [off_eq]
  simp
theorem un_mine (un : List UInt8) (a : List Tg) (h : ∀ t, t ∈ a → t.1 ≠ 259) : mineB un (a ++ unT un) = true := by
  unfold mineB
  rw [decide_eq_true_iff]
  by_cases hu : un = []
  · exact Or.inl hu
  · right
    rw [fN_app, unT_N9, if_neg hu, fS_app _ _ _ h, unT_S]
    exact ⟨by omega, rfl⟩
theorem off_mine (nm sv un ck : List UInt8) (os : List (List UInt8)) : mineB un (offL nm sv os ck (askL sv un none)) = true := by
  rw [off_eq]
  rw [show ((258, nm) :: (257, sv) :: svcL sv os) ++ (260, ck) :: unT un = (((258, nm) :: (257, sv) :: svcL sv os) ++ [(260, ck)]) ++ unT un from by simp]
  refine un_mine un _ fun t ht => ?_
  rcases List.mem_append.1 ht with ht | ht
  · rcases head_mem ht with h | h <;> omega
  · simp at ht; subst ht; simp only; omega
theorem off_ck (nm sv un ck : List UInt8) (os : List (List UInt8)) : 0 < findN (offL nm sv os ck (askL sv un none)) 260 ∧ findS (offL nm sv os ck (askL sv un none)) 260 = ck := by
  rw [off_eq, fN_app, fN_cons (260, ck), if_pos rfl, fS_app _ _ _ (fun t ht => by rcases head_mem ht with h | h <;> omega), fS_cons, if_pos rfl]
  exact ⟨by omega, rfl⟩
theorem pads_mine (sv un : List UInt8) : mineB un ((257, sv) :: unT un) = true := by
  rw [← List.singleton_append]
  exact un_mine un _ fun t ht => by simp at ht; subst ht; simp only; omega
/-- the host's states, one by one -/
def mt0 (sv un : List UInt8) : Ps := (hs0 mtM sv un 3 2, none)
def mt1 (sv un : List UInt8) : Ps := (⟨mtM, sv, un, 3, 2, 1, mc0, 0, 0, 0⟩, none)
def mt2 (sv un ck : List UInt8) : Ps := (⟨mtM, sv, un, 3, 2, 2, mtK, 0, 0, 0⟩, some ck)
def mt3 (sv un ck : List UInt8) : Ps := (⟨mtM, sv, un, 3, 2, 3, mtK, 1, 0, 0⟩, some ck)
def mt4 (sv un : List UInt8) : Ps := (⟨mtM, sv, un, 3, 2, 0, mc0, 0, 0, 0⟩, none)
section
variable {sv un ck : List UInt8} {os : List (List UInt8)}
theorem frameL_few {k m : Mc} {c ss : Int} {l : List Tg} (h : Few l) : frameL k m c ss l = [(k, m, 34915, discB c ss (tgsB l))] := by
  unfold frameL
  rw [if_pos h.size]
theorem mt_start (h1 : sv.length ≤ 40) (h2 : un.length ≤ 40) : pStart (mt0 sv un) = (mt1 sv un, [(mcF, mtM, 34915, discB 9 0 (tgsB (askL sv un none)))]) := by
  have e : (pStart (mt0 sv un)) = (mt1 sv un, frameL mcF mtM 9 0 (askL sv un none)) := rfl
  rw [e, frameL_few (few_ask0 h1 h2)]
theorem mt_read (c ss : Int) (l : List Tg) (h : Few l) (hc0 : 0 ≤ c) (hc1 : c ≤ 255) (hs0 : 0 ≤ ss) (hs1 : ss ≤ 65535) : readF mtM (mtM, mtK, 34915, discB c ss (tgsB l)) = some (c, ss, l) :=
  readF_disc mtM mtM mtK c ss l (mcEq_self _) hc0 hc1 hs0 hs1 h.size (by have := h.1; omega) (fun t ht => (h.ok t ht).1) (fun t ht => (h.ok t ht).2)
theorem mt_offer (h1 : sv.length ≤ 40) (h2 : un.length ≤ 40) (h3 : ck.length = 16) (h4 : os.length ≤ 8) (h5 : ∀ s, s ∈ os → s.length ≤ 40) : pTake (mt1 sv un) (mtM, mtK, 34915, discB 7 0 (tgsB (offL [97, 99] sv os ck (askL sv un none)))) = (mt2 sv un ck, [(mtK, mtM, 34915, discB 25 0 (tgsB (askL sv un (some ck))))]) := by
  have hr := mt_read 7 0 _ (few_off (nm := [97, 99]) (by simp) h1 h2 h3 h4 h5) (by omega) (by omega) (by omega) (by omega)
  unfold pTake
  rw [show (mt1 sv un).1.m = mtM from rfl, hr]
  simp only
  unfold pGot
  have hc := off_ck [97, 99] sv un ck os
  rw [if_pos ⟨rfl, rfl, rfl⟩, if_pos ⟨off_off _ _ _ _ _, off_mine _ _ _ _ _⟩]
  have e : pChosen (mt1 sv un) mtK (offL [97, 99] sv os ck (askL sv un none)) = mt2 sv un ck := by
    unfold pChosen
    rw [if_pos hc.1, hc.2]
    rfl
  rw [e]
  have e2 : pSayL (mt2 sv un ck) = frameL mtK mtM 25 0 (askL sv un (some ck)) := rfl
  rw [e2, frameL_few (few_ask1 h1 h2 h3)]
theorem mt_grant (h1 : sv.length ≤ 40) (h2 : un.length ≤ 40) : pTake (mt2 sv un ck) (mtM, mtK, 34915, discB 101 1 (tgsB ((257, sv) :: unT un))) = (mt3 sv un ck, []) := by
  have hr := mt_read 101 1 _ (few_pads h1 h2) (by omega) (by omega) (by omega) (by omega)
  unfold pTake
  rw [show (mt2 sv un ck).1.m = mtM from rfl, hr]
  simp only
  unfold pGot
  rw [if_neg (by intro h; exact absurd h.1 (by show ¬ ((2 : Int) = 1); omega)), if_pos ⟨rfl, rfl, mcEq_self _, pads_mine _ _⟩, if_neg (by omega)]
  rfl
theorem mt_stop : pStop (mt3 sv un ck) = (mt4 sv un, [(mtK, mtM, 34915, discB 167 1 (tgsB []))]) := by
  have e : pStop (mt3 sv un ck) = (mt4 sv un, frameL mtK mtM 167 1 []) := rfl
  rw [e, frameL_few ⟨by simp, fun t ht => by cases ht⟩]
theorem mt_hi0 (h1 : sv.length ≤ 40) (h2 : un.length ≤ 40) : HI (mt0 sv un) := HI.new mtM sv un 3 2 h1 h2 (by omega) (by omega) (by omega) (by omega)
theorem mt_hi1 (h1 : sv.length ≤ 40) (h2 : un.length ≤ 40) : HI (mt1 sv un) := by
  have := (mt_hi0 h1 h2).start
  rwa [mt_start h1 h2] at this
theorem mt_hi2 (h1 : sv.length ≤ 40) (h2 : un.length ≤ 40) (h3 : ck.length = 16) : HI (mt2 sv un ck) := by
  have := (mt_hi1 h1 h2).take (mtM, mtK, 34915, discB 7 0 (tgsB (offL [97, 99] sv [] ck (askL sv un none))))
  rwa [mt_offer h1 h2 h3 (by simp) (fun s hs => by cases hs)] at this
theorem mt_hi3 (h1 : sv.length ≤ 40) (h2 : un.length ≤ 40) (h3 : ck.length = 16) : HI (mt3 sv un ck) := by
  have := (mt_hi2 h1 h2 h3).take (mtM, mtK, 34915, discB 101 1 (tgsB ((257, sv) :: unT un)))
  rwa [mt_grant h1 h2] at this
end
end Go.Proofs.Ytcdencpkgfehlaa
