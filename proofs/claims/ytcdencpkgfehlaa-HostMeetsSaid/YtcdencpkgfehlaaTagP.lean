/- tag's numbers and tags laid into bytes. -/
import Derived.Test.YtcdencpkgfehlaaMgA
import Derived.Deep.RegionHeld3
namespace Go.Proofs.Ytcdencpkgfehlaa
open Go.RowKit
set_option linter.unusedVariables false

def inB (n l m : Int) : Bool := decide (l ≤ n ∧ n ≤ m)
theorem in_any (n l m : Int) (w : World) :
    Calls Try.prog 82 #[.int .i64 n, .int .i64 l, .int .i64 m] w fun e w' => e = .returned (.bool (inB n l m)) ∧ w = w' := by
  by_cases h : l ≤ n
  · go_enter Try.func82, Try.ntmps82
    go_wp2
    go_ret
    exact ⟨rbool (by simp [inB, h]), rfl⟩
  · have hd : decide (l ≤ n) = false := by simpa using h
    go_enter Try.func82, Try.ntmps82
    go_wp2
    go_ret
    exact ⟨rbool (by simp [inB]; omega), rfl⟩

/-- a number's n lowest bytes, the highest of them first -/
def be : Nat → Int → List UInt8
  | 0, _ => []
  | n + 1, v => be n (v / 256) ++ [UInt8.ofNat (v % 256).toNat]
theorem be_length (n : Nat) (v : Int) : (be n v).length = n := by
  induction n generalizing v with
  | zero => rfl
  | succ n ih => simp [be, ih]
set_option maxRecDepth 100000 in
theorem put_2 (v : Int) (w : World) (h0 : 0 ≤ v) (h1 : v < 65536) :
    Calls Try.prog 81 #[.int .i64 v, .int .i64 2] w fun e w' => e = .returned (.tuple #[.string (B (be 2 v)), .int .i64 0]) ∧ Fr [] w w' := by
  have hmk : ∀ w, (Instr.makeSlice 57 (.int .i64 2) (.int .i64 2)).run Try.prog w = .ok (.slice (some ⟨w.heap.size, 0, none⟩) 2 2) (w.alloc (.cells #[.int .u8 0, .int .u8 0] 5)) := fun _ => by kernel_rfl
  have hz : (v / 65536 != 0) = false := by simp; omega
  have hcv : (convert 57 9 (.slice (some ⟨w.heap.size, 0, none⟩) 2 2)).run Try.prog (w.alloc (.cells #[.int .u8 (v / 256), .int .u8 (v % 256)] 5)) = .ok (.string (B (bytesOf [v / 256, v % 256]))) (w.alloc (.cells #[.int .u8 (v / 256), .int .u8 (v % 256)] 5)) :=
    run_str Try.underlying57 Try.underlying5 Try.underlying9 [v / 256, v % 256] (Blk.new _ _ _) 2 rfl
  go_enter Try.func81, Try.ntmps81
  go_wp2_with fail
  refine (in_any _ _ _ _).mono ?_
  rintro e w1 ⟨rfl, rfl⟩
  have hi : inB 2 1 4 = true := rfl
  go_wp2
  refine wp_loop_rounds 3 ?_
  rw [rounds_succ]; go_wp2
  rw [rounds_succ]; go_wp2
  rw [rounds_succ]; go_wp2
  go_ret2
  refine ⟨?_, (Fr.refl _ _).alloc _⟩
  have e : be 2 v = bytesOf [v / 256, v % 256] := by
    simp only [be, bytesOf, List.map, List.nil_append, List.cons_append]
    rw [show v / 256 % 256 = v / 256 from by omega]
  rw [e]; rfl

theorem tin_any (n l m : Int) (w : World) :
    Calls Try.prog 61 #[.int .i64 n, .int .i64 l, .int .i64 m] w fun e w' => e = .returned (.bool (inB n l m)) ∧ w = w' := by
  by_cases h : l ≤ n
  · go_enter Try.func61, Try.ntmps61
    go_wp2
    go_ret
    exact ⟨rbool (by simp [inB, h]), rfl⟩
  · have hd : decide (l ≤ n) = false := by simpa using h
    go_enter Try.func61, Try.ntmps61
    go_wp2
    go_ret
    exact ⟨rbool (by simp [inB]; omega), rfl⟩
theorem two_any (v : Int) (w : World) (h0 : 0 ≤ v) (h1 : v < 65536) :
    Calls Try.prog 62 #[.int .i64 v] w fun e w' => e = .returned (.string (B (be 2 v))) ∧ Fr [] w w' := by
  have P := Lib.hid fun W => put_2 v W h0 h1
  clear h0 h1
  go_enter Try.func62, Try.ntmps62
  go_wp2_with fail
  refine (P.out _).mono ?_
  rintro e w1 ⟨rfl, hF⟩
  go_wp2_with fail
  go_ret
  exact ⟨rfl, hF⟩
abbrev Tg := Int × List UInt8
def tgL (t : Tg) : List Value := [.int .i64 t.1, .string (B t.2)]
def tgB (t : Tg) : List UInt8 := be 2 t.1 ++ (be 2 (t.2.length : Int) ++ t.2)
def tgsB (l : List Tg) : List UInt8 := l.flatMap tgB
theorem tgB_len (t : Tg) : (tgB t).length = t.2.length + 4 := by unfold tgB; simp [be_length]; omega
theorem tgsB_snoc {l : List Tg} {j : Nat} {t : Tg} (h : l[j]? = some t) : tgsB (l.take j) ++ tgB t = tgsB (l.take (j + 1)) := by
  unfold tgsB
  rw [List.take_add_one, h, List.flatMap_append]
  simp
theorem tgsB_le (l : List Tg) (j : Nat) : (tgsB (l.take j)).length ≤ (tgsB l).length := by
  have h : tgsB l = tgsB (l.take j) ++ tgsB (l.drop j) := by
    unfold tgsB
    rw [← List.flatMap_append, List.take_append_drop]
  rw [h, List.length_append]
  omega
/-- tags that can be read -/
def TgAt (w : World) (A : Option Addr) (l : List Tg) : Prop := ∀ i t, l[i]? = some t → ∃ b off, A = some ⟨b, off, none⟩ ∧ b < w.heap.size ∧ ∀ W, Fr [] w W → W.cell? ⟨b, off + i * 2, none⟩ = some (.int .i64 t.1) ∧ W.cell? ⟨b, off + i * 2 + 1, none⟩ = some (.string (B t.2))
theorem TgAt.fr0 {w w' : World} {A : Option Addr} {l : List Tg} (h : TgAt w A l) (hF : Fr [] w w') : TgAt w' A l := fun i t hi => by
  obtain ⟨b, off, h1, h2, h3⟩ := h i t hi
  exact ⟨b, off, h1, Nat.lt_of_lt_of_le h2 hF.size, fun W hW => h3 W (hF.trans hW)⟩
section
variable {w : World}
set_option maxRecDepth 100000 in
theorem puttags1_any (t : Int) (s : ByteArray) (h : 1 ≤ t ∧ t ≤ 65535) :
    Calls Try.prog 75 #[.agg #[.int .i64 t, .string s]] w fun e w' => e = .returned (.bool false) ∧ Fr [] w w' := by
  have hi : inB t 1 65535 = true := by unfold inB; exact decide_eq_true h
  have IN := Lib.hid fun W => tin_any t 1 65535 W
  rw [hi] at IN
  have hB := Blk.new w #[.int .i64 t, .string s] 54
  have hF := (Fr.refl [] w).alloc (.cells #[.int .i64 t, .string s] 54 (0, 0))
  clear hi h
  go_enter Try.func75, Try.ntmps75
  go_wp2_with fail
  refine (IN.out _).mono ?_
  rintro e w1 ⟨rfl, rfl⟩
  go_wp2_with fail
  go_ret
  exact ⟨rfl, hF⟩
def TgOk (t : Tg) : Prop := 1 ≤ t.1 ∧ t.1 ≤ 65535
set_option maxRecDepth 100000 in
set_option maxHeartbeats 4000000 in
theorem index_any {A : Option Addr} {cap : Nat} {l : List Tg} (h : TgAt w A l) (hok : ∀ t, t ∈ l → TgOk t) (hl : l.length ≤ 20) (hc : l.length ≤ cap) (hm : cap ≤ maxLen) :
    Calls Try.prog 86 #[.slice A l.length cap, .func (.func 75) #[] #[]] w fun e w' => e = .returned (.int .i64 (-1)) ∧ Fr [] w w' := by
  have H := Lib.hid h
  have HOK := Lib.hid hok
  unfold maxLen at hm
  clear h hok
  go_enter Try.func86, Try.ntmps86
  go_wp2_with fail
  go_loopw [8] (fun iv wr => ∃ j : Nat, j ≤ l.length ∧ iv = .int .i64 j ∧ Fr [] w wr) (fun iv _ => l.length - (intOf iv).toNat)
  case atStart => exact ⟨0, by omega, rfl, Fr.refl _ _⟩
  case round =>
    obtain ⟨j, hj, rfl, hF⟩ := hrel
    by_cases hjl : j < l.length
    · obtain ⟨⟨t, s⟩, ht⟩ : ∃ t, l[j]? = some t := ⟨_, List.getElem?_eq_getElem hjl⟩
      obtain ⟨b, off, rfl, hb, hcell⟩ := H.out j _ ht
      obtain ⟨c0, c1⟩ := hcell _ hF
      simp only at c0 c1
      have HOk := Lib.hid (HOK.out _ (List.mem_of_getElem? ht))
      have hjb : (j : Int) ≤ 20 := by omega
      clear hcell ht hb
      go_wp2_with fail
      refine (puttags1_any t _ HOk.out).mono ?_
      rintro e w1 ⟨rfl, hG⟩
      have HG := Lib.hid (hF.trans hG)
      clear hF hG c0 c1
      go_wp2_with fail
      go_roundw
      case rel => exact ⟨j + 1, by omega, by go_num, HG.out⟩
      case measure => (simp [intOf]) <;> omega
    · obtain rfl : j = l.length := by omega
      have hge : ¬ (l.length : Int) < l.length := by omega
      clear hj hjl
      go_wp2_with fail
      go_ret
      exact ⟨rfl, hF⟩
theorem contains_any {A : Option Addr} {cap : Nat} {l : List Tg} (h : TgAt w A l) (hok : ∀ t, t ∈ l → TgOk t) (hl : l.length ≤ 20) (hc : l.length ≤ cap) (hm : cap ≤ maxLen) :
    Calls Try.prog 74 #[.slice A l.length cap, .func (.func 75) #[] #[]] w fun e w' => e = .returned (.bool false) ∧ Fr [] w w' := by
  have P := Lib.hid fun W (hW : Fr [] w W) => index_any (h.fr0 hW) hok hl hc hm
  clear h hok hl hc hm
  go_enter Try.func74, Try.ntmps74
  go_wp2_with fail
  refine (P.out _ (Fr.refl _ _)).mono ?_
  rintro e w1 ⟨rfl, hF⟩
  go_wp2_with fail
  go_ret
  exact ⟨rfl, hF⟩
end
end Go.Proofs.Ytcdencpkgfehlaa
