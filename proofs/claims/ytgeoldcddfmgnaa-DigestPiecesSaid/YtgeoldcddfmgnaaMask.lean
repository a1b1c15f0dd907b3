/- A value hidden: the plain law. -/
import Derived.Test.YtgeoldcddfmgnaaChap2
namespace Go.Proofs.Ytgeoldcddfmgnaa
open Go.RowKit
set_option linter.unusedVariables false

def xorL (p d : List UInt8) : List UInt8 := List.zipWith (fun a b => a ^^^ b) p d
/-- the k-th piece; the key and what is out ahead of it -/
def pc (v : List UInt8) (k : Nat) : List UInt8 := (v.drop (16 * k)).take 16
def keyM (inn : Bool) (s v k0 : List UInt8) : Nat → List UInt8
  | 0 => k0
  | k + 1 => s ++ (if inn then pc v k else xorL (pc v k) (md5 (keyM inn s v k0 k)))
def outM (inn : Bool) (s v k0 : List UInt8) : Nat → List UInt8
  | 0 => []
  | k + 1 => outM inn s v k0 k ++ xorL (pc v k) (md5 (keyM inn s v k0 k))
def maskL (inn : Bool) (s v k0 : List UInt8) : List UInt8 := outM inn s v k0 v.length
theorem pc_le (v : List UInt8) (k : Nat) : (pc v k).length ≤ 16 := by unfold pc; rw [List.length_take]; omega
theorem pc_length (v : List UInt8) (k : Nat) : (pc v k).length = min 16 (v.length - 16 * k) := by unfold pc; rw [List.length_take, List.length_drop]
theorem xorL_length (p d : List UInt8) (h : p.length ≤ d.length) : (xorL p d).length = p.length := by unfold xorL; rw [List.length_zipWith]; omega
theorem pc_none (v : List UInt8) (k : Nat) (h : v.length ≤ 16 * k) : pc v k = [] := by
  unfold pc; rw [List.drop_of_length_le h]; rfl
theorem outM_more (inn : Bool) (s v k0 : List UInt8) (k j : Nat) (h : v.length ≤ 16 * k) : outM inn s v k0 (k + j) = outM inn s v k0 k := by
  induction j with
  | zero => rfl
  | succ j ih =>
    rw [← Nat.add_assoc, outM, ih, pc_none v (k + j) (by omega)]
    simp [xorL]
theorem maskL_at (inn : Bool) (s v k0 : List UInt8) (k : Nat) (h : v.length ≤ 16 * k) : outM inn s v k0 k = maskL inn s v k0 := by
  unfold maskL
  rcases Nat.le_total k v.length with h1 | h1
  · obtain ⟨j, hj⟩ : ∃ j, v.length = k + j := ⟨v.length - k, by omega⟩
    rw [hj, outM_more inn s v k0 k j h]
  · obtain ⟨j, hj⟩ : ∃ j, k = v.length + j := ⟨k - v.length, by omega⟩
    rw [hj, outM_more inn s v k0 v.length j (by omega)]
theorem outM_length (inn : Bool) (s v k0 : List UInt8) (k : Nat) : (outM inn s v k0 k).length = min (16 * k) v.length := by
  induction k with
  | zero => simp [outM]
  | succ k ih =>
    rw [outM, List.length_append, ih, xorL_length _ _ (by rw [md5_length]; exact pc_le v k), pc_length]; omega
theorem maskL_length (inn : Bool) (s v k0 : List UInt8) : (maskL inn s v k0).length = v.length := by
  unfold maskL; rw [outM_length]; omega
theorem keyM_length (inn : Bool) (s v k0 : List UInt8) (k : Nat) : (keyM inn s v k0 k).length ≤ k0.length + s.length + 16 := by
  cases k with
  | zero => simp only [keyM]; omega
  | succ k =>
    rw [keyM, List.length_append]
    have h1 := pc_le v k
    have h2 := xorL_length (pc v k) (md5 (keyM inn s v k0 k)) (by rw [md5_length]; exact h1)
    cases inn <;> simp <;> omega
/-- what a call masks hangs on its pieces alone -/
theorem keyM_congr (inn : Bool) (s v v' k0 : List UInt8) (k : Nat) (h : ∀ j, j < k → pc v j = pc v' j) : keyM inn s v k0 k = keyM inn s v' k0 k := by
  induction k with
  | zero => rfl
  | succ k ih => rw [keyM, keyM, ih (fun j hj => h j (by omega)), h k (by omega)]
theorem outM_congr (inn : Bool) (s v v' k0 : List UInt8) (k : Nat) (h : ∀ j, j < k → pc v j = pc v' j) : outM inn s v k0 k = outM inn s v' k0 k := by
  induction k with
  | zero => rfl
  | succ k ih => rw [outM, outM, ih (fun j hj => h j (by omega)), h k (by omega), keyM_congr inn s v v' k0 k (fun j hj => h j (by omega))]
theorem outM_take (inn : Bool) (s v k0 : List UInt8) (k j : Nat) : (outM inn s v k0 (k + j)).take (outM inn s v k0 k).length = outM inn s v k0 k := by
  induction j with
  | zero => simp
  | succ j ih =>
    rw [← Nat.add_assoc, outM, List.take_append_of_le_length, ih]
    rw [outM_length, outM_length]; omega
theorem outM_pre (inn : Bool) (s v k0 : List UInt8) (c : Nat) (h : 16 * c ≤ v.length) : (maskL inn s v k0).take (16 * c) = outM inn s v k0 c := by
  have h1 := outM_take inn s v k0 c (v.length - c)
  rw [show c + (v.length - c) = v.length from by omega, outM_length, Nat.min_eq_left h] at h1
  exact h1
/-- the k-th piece of what was masked -/
theorem outM_drop (inn : Bool) (s v k0 : List UInt8) (k j : Nat) (h : 16 * k ≤ v.length) : ((outM inn s v k0 (k + 1 + j)).drop (16 * k)).take 16 = xorL (pc v k) (md5 (keyM inn s v k0 k)) := by
  have hx := xorL_length (pc v k) (md5 (keyM inn s v k0 k)) (by rw [md5_length]; exact pc_le v k)
  have hp := pc_length v k
  have hl := outM_length inn s v k0 k
  induction j with
  | zero =>
    rw [Nat.add_zero, outM, List.drop_append, List.drop_of_length_le (by omega), List.nil_append, hl, Nat.min_eq_left h, Nat.sub_self, List.drop_zero, List.take_of_length_le (by omega)]
  | succ j ih =>
    rw [← Nat.add_assoc, outM]
    by_cases hv : v.length ≤ 16 * (k + 1 + j)
    · rw [pc_none v _ hv]
      simpa [xorL] using ih
    · rw [List.drop_append_of_le_length (by rw [outM_length]; omega), List.take_append_of_le_length (by rw [List.length_drop, outM_length]; omega)]
      exact ih
theorem pc_mask (inn : Bool) (s v k0 : List UInt8) (k : Nat) : pc (maskL inn s v k0) k = xorL (pc v k) (md5 (keyM inn s v k0 k)) := by
  by_cases h : 16 * k < v.length
  · have := outM_drop inn s v k0 k (v.length - (k + 1)) (by omega)
    rw [show k + 1 + (v.length - (k + 1)) = v.length from by omega] at this
    exact this
  · rw [pc_none _ _ (by rw [maskL_length]; omega), pc_none v k (by omega)]
    simp [xorL]
theorem xorL_twice (p d : List UInt8) (h : p.length ≤ d.length) : xorL (xorL p d) d = p := by
  unfold xorL
  induction p generalizing d with
  | nil => rfl
  | cons a p ih =>
    cases d with
    | nil => simp at h
    | cons b d =>
      simp only [List.zipWith_cons_cons, List.cons.injEq]
      refine ⟨?_, ih d (by simpa using h)⟩
      rw [UInt8.xor_assoc, UInt8.xor_self, UInt8.xor_zero]
theorem keyM_shows (s v k0 : List UInt8) (k : Nat) : keyM true s (maskL false s v k0) k0 k = keyM false s v k0 k := by
  induction k with
  | zero => rfl
  | succ k ih => simp only [keyM, if_true, Bool.false_eq_true, if_false, pc_mask]
theorem outM_pcs (v : List UInt8) (k : Nat) : v.take (16 * (k + 1)) = v.take (16 * k) ++ pc v k := by
  unfold pc
  rw [show 16 * (k + 1) = 16 * k + 16 from by omega, List.take_add]
theorem outM_shows (s v k0 : List UInt8) (k : Nat) : outM true s (maskL false s v k0) k0 k = v.take (16 * k) := by
  induction k with
  | zero => simp [outM]
  | succ k ih =>
    rw [outM, ih, keyM_shows, pc_mask, xorL_twice _ _ (by rw [md5_length]; exact pc_le v k), outM_pcs]
/-- P204 -/
theorem maskL_shows (s v k0 : List UInt8) : maskL true s (maskL false s v k0) k0 = v := by
  rw [maskL, outM_shows, maskL_length, List.take_of_length_le (by omega)]
theorem maskL_take (inn : Bool) (s v k0 : List UInt8) (c : Nat) (h : 16 * c ≤ v.length) : maskL inn s (v.take (16 * c)) k0 = (maskL inn s v k0).take (16 * c) := by
  rw [outM_pre inn s v k0 c h]
  rw [← maskL_at inn s (v.take (16 * c)) k0 c (by rw [List.length_take]; omega)]
  refine outM_congr inn s _ _ k0 c (fun j hj => ?_)
  unfold pc
  rw [List.drop_take, List.take_take, Nat.min_eq_left (by omega)]

/-- a row of bytes that is known, none of it frozen -/
def Bytes (w : World) (b : Nat) (l : List UInt8) : Prop := ∀ j (h : j < l.length), w.cell? ⟨b, j, none⟩ = some (.int .u8 (l[j].toNat : Int)) ∧ w.frozen? ⟨b, j, none⟩ = false
theorem Bytes.fr {w w' : World} {b : Nat} {l : List UInt8} {S : List Nat} (h : Bytes w b l) (hF : Fr S w w') (hb : b < w.heap.size) (hn : b ∉ S) : Bytes w' b l := fun j hj => by
  have e := hF.block b hb hn
  have := h j hj
  refine ⟨?_, ?_⟩
  · have := this.1; simpa [World.cell?, e] using this
  · have := this.2; simpa [World.frozen?, e] using this
theorem Bytes.set {w : World} {b : Nat} {l : List UInt8} (h : Bytes w b l) (k : Nat) (x : UInt8) : Bytes (w.setCell ⟨b, k, none⟩ (.int .u8 (x.toNat : Int))) b (l.set k x) := fun j hj => by
  have hj' : j < l.length := by simpa using hj
  have h1 := h j hj'
  refine ⟨?_, by rw [World.frozen?_setCell]; exact h1.2⟩
  by_cases e : j = k
  · subst e
    rw [World.cell?_setCell_same w _ _ h1.1]; simp
  · rw [World.cell?_setCell_other w _ _ _ (by intro e2; simp at e2; first | done | omega), h1.1, List.getElem_set_ne (fun e2 => e e2.symm)]
theorem Bytes.drewN {w : World} {b : Nat} {l : List UInt8} (h : Bytes w b l) (N : Nat) : Bytes (w.drewN N) b l := h
theorem Bytes.drew {w : World} {b : Nat} {l : List UInt8} (h : Bytes w b l) : Bytes w.drew b l := h
theorem Bytes.str {P : Program} {w : World} {b : Nat} {l : List UInt8} (h : Bytes w b l) (cap : Nat) {src dst e : TypeId} (hs : P.underlying src = some (.slice e)) (he : P.underlying e = some (.int .u8)) (hd : P.underlying dst = some .string) (n : Nat) (hn : l.length = n) :
    (convert src dst (.slice (some ⟨b, 0, none⟩) n cap)).run P w = .ok (.string (B l)) w := by
  subst hn
  exact run_convert_bytes_back w src dst e ⟨b, 0, none⟩ cap l hs he hd (fun j hj => by
    have hp : (⟨b, 0, none⟩ : Addr).add j = ⟨b, j, none⟩ := by unfold Addr.add; split <;> simp_all
    rw [hp]; exact (h j hj).1)
/-- []byte(s): a new block whose first cells are the bytes, none of them frozen -/
theorem bytes_of (w : World) (l : List UInt8) (cap : Nat) (T : Nat) (fr : Nat × Nat) (hfr : l.length ≤ fr.1) :
    Bytes (w.drew.alloc (.cells (bytesRow (B l) cap) T fr)) w.heap.size l := by
  intro j h
  refine ⟨?_, ?_⟩
  · have e : (w.drew.alloc (.cells (bytesRow (B l) cap) T fr)).cell? ⟨w.drew.heap.size, j, none⟩ = (bytesRow (B l) cap)[j]? := World.cell?_alloc_mark _ _ _ _ _
    have h2 := bytesRow_at (B l) cap j (by simpa [B] using h)
    rw [show w.heap.size = w.drew.heap.size from rfl, e, h2]
    simp [B]
  · have e : (w.drew.alloc (.cells (bytesRow (B l) cap) T (fr.1, fr.2))).frozen? ⟨w.drew.heap.size, j, none⟩ = (decide (fr.1 ≤ j) && decide (j < fr.2)) := World.frozen?_alloc_mark _ _ _ _ _ _
    rw [show w.heap.size = w.drew.heap.size from rfl]
    rw [show fr = (fr.1, fr.2) from rfl, e]
    simp; omega
/-- the row behind i rounds -/
def xorAt (p d : List UInt8) (i : Nat) : List UInt8 := xorL (p.take i) d ++ p.drop i
theorem xorAt_next (p d : List UInt8) (i : Nat) (hp : p.length ≤ d.length) (hi : i < p.length) : (xorAt p d i).set i (p[i] ^^^ d[i]) = xorAt p d (i + 1) := by
  unfold xorAt
  have hl : (xorL (p.take i) d).length = i := by rw [xorL_length _ _ (by rw [List.length_take]; omega), List.length_take]; omega
  rw [List.set_append_right _ _ (by omega), hl, Nat.sub_self, List.drop_eq_getElem_cons hi, List.set_cons_zero, List.take_succ_eq_append_getElem hi]
  have e : xorL (p.take i ++ [p[i]]) d = xorL (p.take i) d ++ [p[i] ^^^ d[i]] := by
    unfold xorL
    have hd : d = d.take i ++ d[i] :: d.drop (i + 1) := by rw [← List.drop_eq_getElem_cons (by omega), List.take_append_drop]
    conv => lhs; rw [hd]
    rw [List.zipWith_append (by rw [List.length_take, List.length_take]; omega)]
    have h2 : List.zipWith (fun a b => a ^^^ b) (p.take i) d = List.zipWith (fun a b => a ^^^ b) (p.take i) (d.take i) := by
      conv => lhs; rw [hd]
      conv => lhs; rw [← List.append_nil (p.take i)]
      rw [List.zipWith_append (by rw [List.length_take, List.length_take]; omega)]
      simp
    rw [h2]
    simp [List.zipWith]
  rw [e, List.append_assoc]; rfl
theorem xorAt_length (p d : List UInt8) (i : Nat) (hp : p.length ≤ d.length) : (xorAt p d i).length = p.length := by
  unfold xorAt
  rw [List.length_append, xorL_length _ _ (by rw [List.length_take]; omega), List.length_take, List.length_drop]; omega
theorem xorAt_get? (p d : List UInt8) (i : Nat) (hp : p.length ≤ d.length) (hi : i < p.length) : (xorAt p d i)[i]? = some p[i] := by
  unfold xorAt
  have hl : (xorL (p.take i) d).length = i := by rw [xorL_length _ _ (by rw [List.length_take]; omega), List.length_take]; omega
  rw [List.getElem?_append_right (by omega), hl, Nat.sub_self, List.getElem?_drop, Nat.add_zero, List.getElem?_eq_getElem hi]
theorem xorAt_get (p d : List UInt8) (i : Nat) (hp : p.length ≤ d.length) (hi : i < p.length) (h : i < (xorAt p d i).length) : (xorAt p d i)[i] = p[i] := by
  have h1 := xorAt_get? p d i hp hi
  rw [List.getElem?_eq_getElem h] at h1
  injection h1
theorem xorAt_end (p d : List UInt8) : xorAt p d p.length = xorL p d := by
  unfold xorAt; rw [List.take_of_length_le (Nat.le_refl _), List.drop_of_length_le (Nat.le_refl _), List.append_nil]
theorem xorAt_zero (p d : List UInt8) : xorAt p d 0 = p := by simp [xorAt, xorL]
theorem u8x (a b : UInt8) : bits .xor .u8 (a.toNat : Int) (b.toNat : Int) = ((a ^^^ b).toNat : Int) := by
  rw [u8_xor_nat _ _ a.toNat_lt b.toNat_lt, UInt8.toNat_xor]
end Go.Proofs.Ytgeoldcddfmgnaa
