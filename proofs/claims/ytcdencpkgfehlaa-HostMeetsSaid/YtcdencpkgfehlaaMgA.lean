/- Several texts in one: Base, Str, Clone, Own, Row, Takes, MapKit, MapKit3, Law, RowK. -/
import Derived.Test.YtcdencpkgfehlaaRows
import Derived.WalkKit
import Derived.Deep.QuietTactic
import Derived.BigQuiet
import Derived.Lib.Hide
import Derived.WalkLawsBesides
import Derived.WalkSpells
import Derived.Deep.RegionLaw
import Derived.Lib.Strings
import Derived.Lib.Walk
import Derived.Lib.BufferWrite
import Derived.Lib.UnsafeStr
import Derived.Laws.MakeOwn
import Derived.Maps.AppendAt
import Derived.Deep.AppendLies
import Derived.RegionTactic
import Derived.OwnWalk
import Derived.Deep.MidRow
import Derived.Laws.NewBlocks
import Derived.Deep.RegionHeld3
import Derived.Maps.Own
import Derived.Maps.OwnOps
import Derived.Maps.OwnSet
import Derived.DeepKeys4
import Derived.Maps.RangeRun
import Derived.ProofKit
import Derived.OpenShut
import Derived.ShutString
import Derived.ChangeOld
import Derived.Below
import Derived.SizedLaws
/- The base lemmas on blocks of cells and on what a call leaves alone. No program is spoken of here. -/
namespace Go.Proofs.Ytcdencpkgfehlaa
open Go.RowKit

/-- Block b is a row of the cells cs, none frozen. -/
def Blk (w : World) (b : Nat) (cs : Array Value) (T : Nat) : Prop := w.heap[b]? = some (.cells cs T (0, 0))

theorem Blk.lt {w : World} {b : Nat} {cs : Array Value} {T : Nat} (h : Blk w b cs T) : b < w.heap.size := lt_of_block h
theorem Blk.c {w : World} {b : Nat} {cs : Array Value} {T : Nat} (h : Blk w b cs T) (i : Nat) (v : Value) (hi : cs[i]? = some v) : w.cell? ⟨b, i, none⟩ = some v := by
  unfold Blk at h
  simp [World.cell?, h, hi]
theorem Blk.fz {w : World} {b : Nat} {cs : Array Value} {T : Nat} (h : Blk w b cs T) (i : Nat) : w.frozen? ⟨b, i, none⟩ = false := by
  unfold Blk at h
  simp [World.frozen?, h]
theorem Blk.set {w : World} {b : Nat} {cs : Array Value} {T : Nat} (h : Blk w b cs T) (i : Nat) (v : Value) : Blk (w.setCell ⟨b, i, none⟩ v) b (cs.setIfInBounds i v) T := by
  have hlt := h.lt
  unfold Blk at *
  have h' : w.heap[b] = .cells cs T (0, 0) := by simpa [Array.getElem?_eq_getElem hlt] using h
  show (w.heap.modify b _)[b]? = _
  rw [Array.getElem?_eq_getElem (by simpa using hlt), Array.getElem_modify_self, h']
  rfl
theorem Blk.set_other {w : World} {b : Nat} {cs : Array Value} {T : Nat} (h : Blk w b cs T) (a : Addr) (ha : b ≠ a.block) (v : Value) : Blk (w.setCell a v) b cs T := by
  unfold Blk at *
  rw [Below.heap_setCell _ _ _ _ ha]; exact h
theorem Blk.alloc {w : World} {b : Nat} {cs : Array Value} {T : Nat} (h : Blk w b cs T) (o : Obj) : Blk (w.alloc o) b cs T := by
  have hlt := h.lt
  unfold Blk at *
  rw [Below.heap_alloc _ _ _ hlt]; exact h
theorem Blk.drew {w : World} {b : Nat} {cs : Array Value} {T : Nat} (h : Blk w b cs T) : Blk w.drew b cs T := h
theorem Blk.drewN {w : World} {b : Nat} {cs : Array Value} {T : Nat} (h : Blk w b cs T) (n : Nat) : Blk (w.drewN n) b cs T := h
theorem Blk.new (w : World) (cs : Array Value) (T : Nat) : Blk (w.alloc (.cells cs T (0, 0))) w.heap.size cs T := by
  show (w.heap.push _)[w.heap.size]? = _
  simp

/-- Of the blocks of w all but those of S are as they were; the streams are as they were. -/
structure Fr (S : List Nat) (w w' : World) : Prop where
  os : w'.os = w.os
  tape : w'.tape = w.tape
  output : w'.output = w.output
  size : w.heap.size ≤ w'.heap.size
  block : ∀ k, k < w.heap.size → k ∉ S → w'.heap[k]? = w.heap[k]?

theorem Fr.refl (S : List Nat) (w : World) : Fr S w w := ⟨rfl, rfl, rfl, Nat.le_refl _, fun _ _ _ => rfl⟩
theorem Fr.trans {S : List Nat} {a b c : World} (h : Fr S a b) (k : Fr S b c) : Fr S a c :=
  ⟨k.os.trans h.os, k.tape.trans h.tape, k.output.trans h.output, Nat.le_trans h.size k.size, fun i hi hn => (k.block i (Nat.lt_of_lt_of_le hi h.size) hn).trans (h.block i hi hn)⟩
theorem Fr.mono {S S' : List Nat} {w w' : World} (h : Fr S w w') (hs : ∀ k, k ∈ S → k ∈ S') : Fr S' w w' :=
  ⟨h.os, h.tape, h.output, h.size, fun k hk hn => h.block k hk (fun hm => hn (hs k hm))⟩
theorem Fr.blk {S : List Nat} {w w' : World} (h : Fr S w w') {b : Nat} {cs : Array Value} {T : Nat} (hb : Blk w b cs T) (hn : b ∉ S) : Blk w' b cs T := by
  have hlt := hb.lt
  unfold Blk at *
  rw [h.block b hlt hn]; exact hb
theorem Fr.drew {S : List Nat} {a w : World} (h : Fr S a w) : Fr S a w.drew := ⟨h.os, h.tape, h.output, h.size, h.block⟩
theorem Fr.drewN {S : List Nat} {a w : World} (h : Fr S a w) (n : Nat) : Fr S a (w.drewN n) := ⟨h.os, h.tape, h.output, h.size, h.block⟩
theorem Fr.alloc {S : List Nat} {a w : World} (h : Fr S a w) (o : Obj) : Fr S a (w.alloc o) :=
  h.trans ⟨rfl, rfl, rfl, by simp, fun k hk _ => Below.heap_alloc _ _ _ hk⟩
theorem Fr.setCell {S : List Nat} {a w : World} (h : Fr S a w) {p : Addr} (hp : p.block ∈ S) (u : Value) : Fr S a (w.setCell p u) :=
  h.trans ⟨rfl, rfl, rfl, by simp [World.setCell], fun k _ hn => Below.heap_setCell _ _ _ _ (fun e => hn (e ▸ hp))⟩
/-- a store into a block that is new -/
theorem Fr.setNew {S : List Nat} {a w : World} (h : Fr S a w) {p : Addr} (hp : a.heap.size ≤ p.block) (u : Value) : Fr S a (w.setCell p u) :=
  ⟨h.os, h.tape, h.output, by have := h.size; simpa [World.setCell] using this, fun k hk hn => by rw [Below.heap_setCell _ _ _ _ (by omega)]; exact h.block k hk hn⟩
/-- what a callee may write are blocks of the call's own, or new ones -/
theorem Fr.sub {S S' : List Nat} {a w w' : World} (h : Fr S a w) (k : Fr S' w w') (hs : ∀ x, x ∈ S' → x ∈ S ∨ a.heap.size ≤ x) : Fr S a w' :=
  ⟨k.os.trans h.os, k.tape.trans h.tape, k.output.trans h.output, Nat.le_trans h.size k.size,
    fun i hi hn => (k.block i (Nat.lt_of_lt_of_le hi h.size) (fun hm => (hs i hm).elim hn (fun hge => absurd hi (by omega)))).trans (h.block i hi hn)⟩
theorem Fr.below {S : List Nat} {w w' : World} (h : Fr S w w') {B : Nat} (hB : B ≤ w.heap.size) (hS : ∀ x, x ∈ S → B ≤ x) : Below B w w' :=
  ⟨h.os, h.tape, h.output, h.size, fun k hk => h.block k (by omega) (fun hm => by have := hS k hm; omega)⟩

theorem rint {k : IntKind} {a b : Int} (h : a = b) : Ending.returned (.int k a) = .returned (.int k b) := by rw [h]
theorem rbool {a b : Bool} (h : a = b) : Ending.returned (.bool a) = .returned (.bool b) := by rw [h]
theorem rvoid {P : Program} {fn : Func} {R : Ending → World → Prop} {a : Act} {w : World} (h : fn.results = #[]) (hd : a.defers = []) (hR : R (.returned (.tuple #[])) w) : bodyPost P fn R .ret a w :=
  bodyPost_ret (results_none h _ _ _) hd hR

end Go.Proofs.Ytcdencpkgfehlaa

/- Strings as lists of bytes: B l; how the walk's words read on them. No program is spoken of here. -/
namespace Go.Proofs.Ytcdencpkgfehlaa
open Go.RowKit

def B (l : List UInt8) : ByteArray := ⟨l.toArray⟩
@[go_sem] theorem B_size (l : List UInt8) : (B l).size = l.length := by simp [B, ByteArray.size]
@[go_sem] theorem B_append (l m : List UInt8) : B l ++ B m = B (l ++ m) := by unfold B; exact ByteArray.mk_append_mk l m
@[go_sem] theorem mk_append_B (l m : List UInt8) : (⟨l.toArray⟩ : ByteArray) ++ B m = B (l ++ m) := B_append l m
@[go_sem] theorem B_append_mk (l m : List UInt8) : B l ++ (⟨m.toArray⟩ : ByteArray) = B (l ++ m) := B_append l m
@[go_sem] theorem B_extract (l : List UInt8) (a b : Nat) : (B l).extract a b = B ((l.drop a).take (b - a)) := by unfold B; exact ByteArray.extract_mk l a b
@[go_sem] theorem B_toList (l : List UInt8) : (B l).toList = l := by unfold B; exact ByteArray.toList_mk l
@[go_sem] theorem B_data (l : List UInt8) : (B l).data.toList = l := by simp [B]
@[go_sem] theorem B_get (l : List UInt8) (i : Nat) (h : i < (B l).size) : (B l)[i] = l[i]'(by simpa [B_size] using h) := by rfl
theorem B_of (s : ByteArray) : s = B s.data.toList := by simp [B]
theorem B_inj {l m : List UInt8} : B l = B m ↔ l = m := ⟨fun h => by have := congrArg ByteArray.toList h; simpa [B_toList] using this, fun h => h ▸ rfl⟩

theorem rstr {l m : List UInt8} (h : l = m) : Ending.returned (.string (B l)) = .returned (.string (B m)) := by rw [h]
def bytesOf (xs : List Int) : List UInt8 := xs.map fun n => UInt8.ofNat n.toNat
theorem strOfNums_eq (xs : List Int) : strOfNums xs = B (bytesOf xs) := by simp [strOfNums, B, bytesOf]

section
variable {P : Program}
/-- string(b) of a block that is known whole -/
theorem run_str {w : World} {b T cap : Nat} {src dst e : TypeId} (hs : P.underlying src = some (.slice e)) (he : P.underlying e = some (.int .u8)) (hd : P.underlying dst = some .string)
    (xs : List Int) (hB : Blk w b (xs.map (Value.int .u8)).toArray T) (n : Nat) (hn : n = xs.length) :
    (convert src dst (.slice (some ⟨b, 0, none⟩) n cap)).run P w = .ok (.string (B (bytesOf xs))) w := by
  subst hn
  rw [run_convert_bytes_arg w src e hs he b 0 xs.length cap xs rfl (fun i hi => by
    rw [Nat.zero_add]
    exact hB.c i _ (by simp [List.getElem?_eq_getElem hi, List.getD])) dst hd, strOfNums_eq]
/-- string(b) of a slice that the call owns -/
theorem run_str_own {w : World} {base b cap : Nat} {src dst e : TypeId} (hs : P.underlying src = some (.slice e)) (he : P.underlying e = some (.int .u8)) (hd : P.underlying dst = some .string)
    (xs : List Int) (n : Nat) (h : w.ownsRow base e 1 (.slice (some ⟨b, 0, none⟩) n cap) n (xs.map (Value.int .u8))) :
    (convert src dst (.slice (some ⟨b, 0, none⟩) n cap)).run P w = .ok (.string (B (bytesOf xs))) w := by
  have hl : xs.length = n := by simpa using h.1
  rw [run_convert_bytes_arg w src e hs he b 0 n cap xs hl (fun i hi => by
    rw [h.cellAt (0 + i) (by omega), Nat.zero_add]
    simp [List.getElem?_eq_getElem (show i < xs.length by omega), List.getD]) dst hd, strOfNums_eq]
theorem run_str_any {w : World} {base : Nat} {v : Value} {src dst e : TypeId} (hs : P.underlying src = some (.slice e)) (he : P.underlying e = some (.int .u8)) (hd : P.underlying dst = some .string)
    (xs : List Int) (n : Nat) (h : w.ownsRow base e 1 v n (xs.map (Value.int .u8))) :
    (convert src dst v).run P w = .ok (.string (B (bytesOf xs))) w := by
  rcases h.2 with ⟨rfl, rfl⟩ | ⟨g, cap, cur, rfl, _⟩
  · have : xs = [] := List.eq_nil_of_length_eq_zero (by simpa using h.1)
    subst this
    rw [run_convert_bytes_nil w src e hs he 0 0 dst hd]; rfl
  · exact run_str_own hs he hd xs n h
end
theorem u8_toNat (x : Int) (h0 : 0 ≤ x) (h1 : x < 256) : ((UInt8.ofNat x.toNat).toNat : Int) = x := by
  have h : x.toNat < 256 := by omega
  have e : (UInt8.ofNat x.toNat).toNat = x.toNat % 256 := by simp
  omega
theorem byte_bd (b : UInt8) : (b.toNat : Int) < 256 := by have := b.toNat_lt; omega

theorem Fr.grown {S : List Nat} {a w w' : World} {row : Option Nat} (h : Fr S a w) (hg : w.grownBy w' row) (hr : ∀ k, row = some k → a.heap.size ≤ k) : Fr S a w' :=
  ⟨hg.os.trans h.os, hg.tape.trans h.tape, hg.output.trans h.output, Nat.le_trans h.size hg.size,
    fun k hk hn => (hg.block k (Nat.lt_of_lt_of_le hk h.size) (fun e => by have := hr k e.symm; omega)).trans (h.block k hk hn)⟩
/-- the block that an owned row has, if any, is new -/
theorem own_new {w : World} {base : Nat} {e : TypeId} {size n : Nat} {v : Value} {xs : List Value} (h : w.ownsRow base e size v n xs) : ∀ k, v.ownBlock = some k → base ≤ k := fun k hk => (h.lt k hk).1

theorem own_drew {w : World} {base : Nat} {e : TypeId} {size n : Nat} {v : Value} {xs : List Value} (h : w.ownsRow base e size v n xs) : w.drew.ownsRow base e size v n xs := h
/-- append onto a slice that the call owns, as one step of a region that draws its order -/
theorem step_append_own {P : Program} {ops : Array Oper} {o : Oper} {a : Act} {w : World} {K : Act → World → Prop} {Q : Exit → Act → World → Prop} {E : Prop}
    (hg : o.guard = none) (s x : Operand) (t : TypeId) (hop : o.op = Op.call { callee := Callee.builtin Builtin.append, args := #[s, x], argTypes := #[t, t] })
    (base : Nat) (e : TypeId) (i : TypeInfo) (z : Value) (size bytes : Nat) (h1 : P.underlying t = some (.slice e)) (h2 : P.info? e = some i) (h3 : i.zero = some z) (h4 : i.size = size) (h5 : i.bytes = bytes) (h6 : z.cells.size = size) (h7 : 0 < size)
    (v : Value) (n : Nat) (xs : List Value) (hs : a.eval s = v) (hown : w.ownsRow base e size v n xs)
    (ad : Addr) (m c : Nat) (news : List Value) (hx : a.eval x = .slice (some ad) m c) (hn : news.length = m * size) (hc : ∀ j u, news[j]? = some u → w.cell? (ad.add j) = some u) (h1c : ∀ u ∈ news, u.oneCell' = true)
    (b1 : n + m ≤ maxLen) (b2 : (n + m) * bytes ≤ 140737488355328) (hbase : base ≤ w.heap.size)
    (hK : ∀ v' w', w'.ownsRow base e size v' (n + m) (xs ++ news) → w.grownBy w' v.ownBlock → K (a.put o.dst v') w') :
    if Region.wanted o (yielded ops a.tmps) = true then Oper.wp P o a w K Q else E := by
  have hw : Region.wanted o (yielded ops a.tmps) = true := by simp [Region.wanted, hg]
  rw [if_pos hw]
  exact wp_append_own w s x t hop base e i z size bytes h1 h2 h3 h4 h5 h6 h7 v n xs hs hown ad m c news hx hn hc h1c b1 b2 hbase fun v' w' k1 k2 _ => hK v' w' k1 k2
/-- the cells of a block that was just made -/
theorem new_cells (w : World) (C : List Value) (T : TypeId) : ∀ j u, C[j]? = some u → (w.alloc (.cells C.toArray T)).cell? ((⟨w.heap.size, 0, none⟩ : Addr).add j) = some u := by
  intro j u h
  have hp : (⟨w.heap.size, 0, none⟩ : Addr).add j = ⟨w.heap.size, j, none⟩ := by unfold Addr.add; split <;> simp_all
  rw [hp]
  exact (Blk.new w C.toArray T).c j u (by simpa using h)

end Go.Proofs.Ytcdencpkgfehlaa

/- strings.Clone, after the shelf's own proof of internal/stringslite.Clone, at this program's numbers. -/
namespace Go.Proofs.Ytcdencpkgfehlaa
open Go.RowKit
set_option linter.unusedVariables false

theorem Fr.of_below {w w' : World} (h : Below w.heap.size w w') : Fr [] w w' := ⟨h.os, h.tape, h.output, h.size, fun k hk _ => h.block k hk⟩
theorem infoByte : (Try.prog.info? 5).map (fun i => (i.zero, i.size, i.bytes)) = some (some (.int .u8 0), 1, 1) := by kernel_rfl

set_option maxHeartbeats 4000000 in
set_option maxRecDepth 100000 in
theorem sliteClone (s : ByteArray) (w : World) (hlim : s.size ≤ 281474976710656) :
    Calls Try.prog 65 #[.string s] w fun e w' => e = .returned (.string s) ∧ Below w.heap.size w w' := by
  by_cases h0 : s.size = 0
  · have hs : s = ⟨#[]⟩ := by
      apply ByteArray.ext
      exact Array.eq_empty_of_size_eq_zero h0
    subst hs
    go_enter Try.func65, Try.ntmps65
    go_wp2
    go_ret
    exact ⟨rfl, Below.refl _ _⟩
  · obtain ⟨i0, hi, hz0, hz1, hz2⟩ := info_parts infoByte
    have hinfo : (Try.prog.info? 5).map (·.size) = some 1 := by rw [hi]; simp [hz1]
    have hco : Try.prog.cellsOf 5 = 1 := by simp [Program.cellsOf, hi, hz1]
    obtain ⟨M, hM⟩ : ∃ M, M = madeCells (Value.int .u8 0).cells (((s.size : Nat) : Int).toNat * i0.size) := ⟨_, rfl⟩
    have hMs : M.size = s.size := by rw [hM, size_madeCells, hz1]; simp
    have hmk : ∀ W : World, (Instr.makeSlice 57 (.int .i64 (s.size : Int)) (.int .i64 (s.size : Int))).run Try.prog W = .ok (.slice (some ⟨W.heap.size, 0, none⟩) s.size s.size) (W.alloc (.cells M 5)) := fun W => by
      have h := run_make (P := Try.prog) W 57 5 i0 (.int .u8 0) Try.underlying57 hi hz0 .i64 .i64 (s.size : Int) (s.size : Int) (by omega) (by omega) (by rw [hz2]; omega) (by omega)
      rw [← hM] at h
      simpa using h
    clear hM
    have hcp := Lib.run_copy_row_string (P := Try.prog) (w.alloc (.cells M 5)) 57 9 3 5 w.heap.size 0 s.size s.size s M 5 Try.underlying57 hinfo (heap_alloc_new w _) (Nat.le_refl _) (by omega)
    obtain ⟨Y, hY⟩ : ∃ Y, Y = (M.toList.take 0 ++ Lib.byteCells s.data.toList ++ M.toList.drop (0 + s.size)).toArray := ⟨_, rfl⟩
    rw [← hY] at hcp
    have hYl : Y.toList = Lib.byteCells s.data.toList := by
      rw [hY, List.toList_toArray, List.take_zero, List.nil_append, List.drop_of_length_le (by rw [Array.length_toList]; omega), List.append_nil]
    have hYs : Y.size = s.size := by rw [← Array.length_toList, hYl, Lib.byteCells_length, ← Lib.size_eq]
    have hgY : ((w.alloc (.cells M 5)).setRow w.heap.size Y).heap[w.heap.size]? = some (.cells Y 5 (0, 0)) := setRow_heap _ _ M _ 5 (0, 0) (heap_alloc_new w _)
    have hne : s.data.toList ≠ [] := fun e => h0 (by rw [Lib.size_eq, e]; rfl)
    have hUS := Lib.run_unsafeString_row (P := Try.prog) ((w.alloc (.cells M 5)).setRow w.heap.size Y) 137 3 9 5 Try.underlying137 hco w.heap.size Y.size (by unfold World.shape?; rw [hgY]) s.data.toList hne (by rw [← Lib.size_eq]; omega) (by rw [← Lib.size_eq]; omega)
      (fun j x hx => Lib.cells_of_row hgY Y.size j _ (by rw [List.take_of_length_le (by rw [Array.length_toList]; exact Nat.le_refl _), hYl]; simp [Lib.byteCells, hx]))
    rw [← Lib.size_eq] at hUS
    clear hY
    go_enter Try.func65, Try.ntmps65
    go_wp2
    go_ret
    have hb1 : Below w.heap.size w (w.alloc (.cells M 5)) := (Below.refl _ w).alloc (Nat.le_refl _) _
    have hb2 : Below w.heap.size (w.alloc (.cells M 5)) ((w.alloc (.cells M 5)).setRow w.heap.size Y) := ⟨rfl, rfl, rfl, by simp, fun k hk => setRow_other _ _ _ _ (by omega)⟩
    exact ⟨rfl, Lib.below_freeze (hb1.trans hb2) (p := ⟨w.heap.size, 0, none⟩) (Nat.le_refl _) _⟩

theorem clone_any (l : List UInt8) (w : World) (hlim : l.length ≤ 281474976710656) :
    Calls Try.prog 35 #[.string (B l)] w fun e w' => e = .returned (.string (B l)) ∧ Fr [] w w' := by
  go_enter Try.func35, Try.ntmps35
  go_wp2_with fail
  refine (sliteClone (B l) _ (by rw [B_size]; exact hlim)).mono ?_
  rintro e w1 ⟨rfl, hb⟩
  go_wp2
  go_ret
  exact ⟨rfl, Fr.of_below hb⟩
end Go.Proofs.Ytcdencpkgfehlaa

/- Slices that read as lists, nil let in; append from whatever source: the lemmas that the kit's page extra-words gives to copy. No program is spoken of here. -/
namespace Go.Proofs.Ytcdencpkgfehlaa
open Go.RowKit

theorem block_of_add (a : Addr) (n : Nat) : (a.add n).block = a.block := by unfold Addr.add; split <;> rfl
theorem add_of_add (a : Addr) (i j : Nat) : (a.add i).add j = a.add (i + j) := by
  unfold Addr.add
  by_cases hi : i = 0 <;> by_cases hj : j = 0 <;> simp [hi, hj, Nat.add_assoc]

def Reads (w : World) (B size : Nat) (A : Option Addr) (n : Nat) (xs : List Value) : Prop :=
  xs.length = n * size ∧ (0 < n → ∃ ad, A = some ad ∧ ad.block < B ∧ ∀ j u, xs[j]? = some u → w.cell? (ad.add j) = some u)

section
variable {w w' : World} {B B' size n : Nat} {A : Option Addr} {xs : List Value}
theorem Reads.none_ : Reads w B size A 0 [] := ⟨by simp, fun h => absurd h (by omega)⟩
theorem Reads.at_ {k : Nat} (h : Reads w B 1 A n xs) (hk : k < n) : ∃ ad u, A = some ad ∧ ad.block < B ∧ xs[k]? = some u ∧ w.cell? (ad.add k) = some u := by
  obtain ⟨ad, e, hb, hc⟩ := h.2 (by omega)
  have hl : k < xs.length := by have := h.1; omega
  exact ⟨ad, xs[k], e, hb, List.getElem?_eq_getElem hl, hc k _ (List.getElem?_eq_getElem hl)⟩
theorem Reads.keep (h : Reads w B size A n xs) (hk : ∀ p : Addr, p.block < B → w'.cell? p = w.cell? p) : Reads w' B size A n xs :=
  ⟨h.1, fun hn => by
    obtain ⟨ad, e, hb, hc⟩ := h.2 hn
    exact ⟨ad, e, hb, fun j u hu => (hk _ (by rw [block_of_add]; exact hb)).trans (hc j u hu)⟩⟩
theorem Reads.more (h : Reads w B size A n xs) (hB : B ≤ B') : Reads w B' size A n xs :=
  ⟨h.1, fun hn => by
    obtain ⟨ad, e, hb, hc⟩ := h.2 hn
    exact ⟨ad, e, by omega, hc⟩⟩
theorem Reads.below (h : Reads w B size A n xs) (hb : Below B w w') : Reads w' B size A n xs := h.keep fun _ hp => hb.cell hp
theorem Reads.drew (h : Reads w B size A n xs) : Reads w.drew B size A n xs := h
theorem Reads.drewN (h : Reads w B size A n xs) (k : Nat) : Reads (w.drewN k) B size A n xs := h
theorem Reads.alloc (h : Reads w B size A n xs) (hB : B ≤ w.heap.size) (o : Obj) : Reads (w.alloc o) B size A n xs := h.keep fun p hp => World.cell?_alloc_lt w o p (by omega)
theorem Reads.setCell (h : Reads w B size A n xs) {p : Addr} (hB : B ≤ p.block) (u : Value) : Reads (w.setCell p u) B size A n xs :=
  h.keep fun q hq => World.cell?_setCell_other w p q u (fun e => by subst e; omega)
theorem Reads.grown (h : Reads w B size A n xs) {row : Option Nat} (hg : w.grownBy w' row) (hB : B ≤ w.heap.size) (hr : ∀ g, row = some g → B ≤ g) : Reads w' B size A n xs :=
  h.keep fun p hp => World.cell?_of_block (hg.block p.block (by omega) (fun e => by have := hr _ e.symm; omega))
theorem Reads.cut (h : Reads w B size A n xs) {k cap : Nat} (hk : k ≤ n) (hc : n ≤ cap) :
    Reads w B size (if cap = k then A else A.map (·.add (k * size))) (n - k) (xs.drop (k * size)) := by
  refine ⟨by rw [List.length_drop, h.1, Nat.sub_mul], fun hn => ?_⟩
  obtain ⟨ad, rfl, hb, hcell⟩ := h.2 (by omega)
  rw [if_neg (by omega)]
  refine ⟨ad.add (k * size), rfl, by rw [block_of_add]; exact hb, fun j u hu => ?_⟩
  rw [add_of_add]
  exact hcell _ u (by rw [← hu, List.getElem?_drop])
theorem Reads.of_own {base : Nat} {e : TypeId} {c : Nat} (h : w.ownsRow base e size (.slice A n c) n xs) : Reads w w.heap.size size A n xs := by
  refine ⟨h.1, fun hn => ?_⟩
  obtain ⟨g, cap, hv, _, hlt⟩ := h.form hn
  have hA : A = some ⟨g, 0, none⟩ := by injection hv
  subst hA
  exact ⟨_, rfl, hlt, h.cells (g := g) rfl⟩
end
section
variable {P : Program} (w : World)

theorem run_append_of_nil (base : Nat) (t ty e : TypeId) (i : TypeInfo) (size : Nat) (ht : P.underlying t = some (.slice e)) (hi : P.info? e = some i)
    (v : Value) (n : Nat) (xs : List Value) (hown : w.ownsRow base e size v n xs) (c : Nat) : (Builtin.append_ #[t, t] ty #[v, .slice none 0 c]).run P w = .ok v w := by
  rcases hown.2 with ⟨rfl, rfl⟩ | ⟨g, cap, cur, rfl, _, _, hnc, _⟩
  · simp [Builtin.append_, run_underlying ht, sizeOf, typeInfo, hi, Builtin.lenOf, Builtin.firstCells]
  · simp [Builtin.append_, run_underlying ht, sizeOf, typeInfo, hi, Builtin.lenOf, Builtin.firstCells, hnc, storeCells]

theorem run_append_any (base : Nat) (t ty e : TypeId) (i : TypeInfo) (z : Value) (size bytes : Nat) (ht : P.underlying t = some (.slice e)) (hi : P.info? e = some i) (hz : i.zero = some z)
    (hsize : i.size = size) (hby : i.bytes = bytes) (hzs : z.cells.size = size) (hsz : 0 < size)
    (v : Value) (n : Nat) (xs : List Value) (hown : w.ownsRow base e size v n xs)
    (B : Nat) (A : Option Addr) (m c : Nat) (news : List Value) (hr : Reads w B size A m news) (h1 : ∀ u ∈ news, u.oneCell' = true)
    (h63 : n + m ≤ maxLen) (hbytes : (n + m) * bytes ≤ 140737488355328) (hbase : base ≤ w.heap.size) :
    ∃ v' w', (Builtin.append_ #[t, t] ty #[v, .slice A m c]).run P w = .ok v' w' ∧ w'.ownsRow base e size v' (n + m) (xs ++ news) ∧ w.grownBy w' v.ownBlock ∧
      (v'.ownBlock = v.ownBlock ∨ v'.ownBlock = some w.heap.size) := by
  rcases A with _ | ad
  · have hm : m = 0 := by
      rcases Nat.eq_zero_or_pos m with h0 | h0
      · exact h0
      · obtain ⟨ad, h, _⟩ := hr.2 h0
        cases h
    subst hm
    have hn : news = [] := List.eq_nil_of_length_eq_zero (by simpa using hr.1)
    subst hn
    exact ⟨v, w, run_append_of_nil w base t ty e i size ht hi v n xs hown c, by simpa using hown, World.grownBy.refl w _, .inl rfl⟩
  · have hcells : ∀ j u, news[j]? = some u → w.cell? (ad.add j) = some u := by
      intro j u hu
      rcases Nat.eq_zero_or_pos m with h0 | h0
      · subst h0
        have hn : news = [] := List.eq_nil_of_length_eq_zero (by simpa using hr.1)
        subst hn
        simp at hu
      · obtain ⟨ad', h, _, hc⟩ := hr.2 h0
        injection h with h
        subst h
        exact hc j u hu
    obtain ⟨v', w', hrun, h2, h3, _, h5⟩ := run_append_own_at (P := P) w base t ty e i z size bytes ht hi hz hsize hby hzs hsz v n xs hown ad m c news hr.1 hcells h1 h63 hbytes hbase
    exact ⟨v', w', hrun, h2, h3, h5⟩

theorem wp_append_any {o : Oper} {a : Act} {K : Act → World → Prop} {Q : Exit → Act → World → Prop} (s x : Operand) (t : TypeId)
    (ho : o.op = .call { callee := .builtin .append, args := #[s, x], argTypes := #[t, t] })
    (base : Nat) (e : TypeId) (i : TypeInfo) (z : Value) (size bytes : Nat) (ht : P.underlying t = some (.slice e)) (hi : P.info? e = some i) (hz : i.zero = some z)
    (hsize : i.size = size) (hby : i.bytes = bytes) (hzs : z.cells.size = size) (hsz : 0 < size)
    (v : Value) (n : Nat) (xs : List Value) (hs : a.eval s = v) (hown : w.ownsRow base e size v n xs)
    (B : Nat) (A : Option Addr) (m c : Nat) (news : List Value) (hx : a.eval x = .slice A m c) (hr : Reads w B size A m news) (h1 : ∀ u ∈ news, u.oneCell' = true)
    (h63 : n + m ≤ maxLen) (hbytes : (n + m) * bytes ≤ 140737488355328) (hbase : base ≤ w.heap.size)
    (h : ∀ v' w', w'.ownsRow base e size v' (n + m) (xs ++ news) → w.grownBy w' v.ownBlock → (v'.ownBlock = v.ownBlock ∨ v'.ownBlock = some w.heap.size) → K (a.put o.dst v') w') : o.wp P a w K Q := by
  obtain ⟨v', w', hrun, h2, h3, h4⟩ := run_append_any (P := P) w base t o.type e i z size bytes ht hi hz hsize hby hzs hsz v n xs hown B A m c news hr h1 h63 hbytes hbase
  unfold Oper.wp execOp
  simp only [ho, resolve, invoke, builtin, Sem.run_bind, Sem.run_pure, Result.andThen_ok, List.map_toArray, List.map_cons, List.map_nil, hs, hx, hrun]
  exact h v' w' h2 h3 h4

theorem wpList_append_any {ops : Array Oper} {rest : List Oper} {o : Oper} {a : Act} {Q : Exit → Act → World → Prop} (hgd : o.guard = none) (s x : Operand) (t : TypeId)
    (ho : o.op = .call { callee := .builtin .append, args := #[s, x], argTypes := #[t, t] })
    (base : Nat) (e : TypeId) (i : TypeInfo) (z : Value) (size bytes : Nat) (ht : P.underlying t = some (.slice e)) (hi : P.info? e = some i) (hz : i.zero = some z)
    (hsize : i.size = size) (hby : i.bytes = bytes) (hzs : z.cells.size = size) (hsz : 0 < size)
    (v : Value) (n : Nat) (xs : List Value) (hs : a.eval s = v) (hown : w.ownsRow base e size v n xs)
    (B : Nat) (A : Option Addr) (m c : Nat) (news : List Value) (hx : a.eval x = .slice A m c) (hr : Reads w B size A m news) (h1 : ∀ u ∈ news, u.oneCell' = true)
    (h63 : n + m ≤ maxLen) (hbytes : (n + m) * bytes ≤ 140737488355328) (hbase : base ≤ w.heap.size)
    (h : ∀ v' w', w'.ownsRow base e size v' (n + m) (xs ++ news) → w.grownBy w' v.ownBlock → (v'.ownBlock = v.ownBlock ∨ v'.ownBlock = some w.heap.size) → wpList P ops Q rest (a.put o.dst v') w') : wpList P ops Q (o :: rest) a w :=
  wpList_plain hgd fun _ hK => wp_append_any w s x t ho base e i z size bytes ht hi hz hsize hby hzs hsz v n xs hs hown B A m c news hx hr h1 h63 hbytes hbase fun v' w' h2 h3 h4 => hK _ _ (h v' w' h2 h3 h4)

theorem step_append_any {ops : Array Oper} {o : Oper} {a : Act} {K : Act → World → Prop} {Q : Exit → Act → World → Prop} {E : Prop} (hgd : o.guard = none) (s x : Operand) (t : TypeId)
    (ho : o.op = .call { callee := .builtin .append, args := #[s, x], argTypes := #[t, t] })
    (base : Nat) (e : TypeId) (i : TypeInfo) (z : Value) (size bytes : Nat) (ht : P.underlying t = some (.slice e)) (hi : P.info? e = some i) (hz : i.zero = some z)
    (hsize : i.size = size) (hby : i.bytes = bytes) (hzs : z.cells.size = size) (hsz : 0 < size)
    (v : Value) (n : Nat) (xs : List Value) (hs : a.eval s = v) (hown : w.ownsRow base e size v n xs)
    (B : Nat) (A : Option Addr) (m c : Nat) (news : List Value) (hx : a.eval x = .slice A m c) (hr : Reads w B size A m news) (h1 : ∀ u ∈ news, u.oneCell' = true)
    (h63 : n + m ≤ maxLen) (hbytes : (n + m) * bytes ≤ 140737488355328) (hbase : base ≤ w.heap.size)
    (h : ∀ v' w', w'.ownsRow base e size v' (n + m) (xs ++ news) → w.grownBy w' v.ownBlock → (v'.ownBlock = v.ownBlock ∨ v'.ownBlock = some w.heap.size) → K (a.put o.dst v') w') :
    if Region.wanted o (yielded ops a.tmps) = true then Oper.wp P o a w K Q else E := by
  have hw : Region.wanted o (yielded ops a.tmps) = true := by simp [Region.wanted, hgd]
  rw [if_pos hw]
  exact wp_append_any w s x t ho base e i z size bytes ht hi hz hsize hby hzs hsz v n xs hs hown B A m c news hx hr h1 h63 hbytes hbase h
end
end Go.Proofs.Ytcdencpkgfehlaa

/- Whole arrays stored and loaded: the kit's laws on ranges, told of blocks that are known whole. No program is spoken of here. -/
namespace Go.Proofs.Ytcdencpkgfehlaa
open Go.RowKit

theorem Blk.there {w : World} {b : Nat} {cs : Array Value} {T : Nat} (h : Blk w b cs T) (n : Nat) (hn : n ≤ cs.size) : w.there b 0 n := fun j hj => by
  rw [Nat.zero_add]
  exact ⟨by rw [h.c j _ (Array.getElem?_eq_getElem (show j < cs.size by omega))]; rfl, h.fz j⟩
theorem Blk.rangeAt {w : World} {b : Nat} {cs : Array Value} {T : Nat} (h : Blk w b cs T) : w.rangeAt b 0 cs.toList := fun j v hv => by
  rw [Nat.zero_add]
  exact h.c j v (by rw [← Array.getElem?_toList]; exact hv)
theorem Blk.setCells_at {b T : Nat} : ∀ (vs : List Value) (o : Nat) (w : World) (cs : Array Value), Blk w b cs T → o + vs.length = cs.size → Blk (w.setCells b o vs) b (cs.toList.take o ++ vs).toArray T
  | [], o, w, cs, h, hl => by
    have e : (cs.toList.take o ++ []).toArray = cs := by
      rw [List.append_nil, List.take_of_length_le (by rw [Array.length_toList]; simpa using Nat.le_of_eq hl.symm)]
    rw [e]; exact h
  | v :: r, o, w, cs, h, hl => by
    have hs : o < cs.size := by rw [← hl, List.length_cons]; omega
    have := Blk.setCells_at r (o + 1) (w.setCell ⟨b, o, none⟩ v) (cs.setIfInBounds o v) (h.set o v) (by rw [Array.size_setIfInBounds, ← hl, List.length_cons]; omega)
    rw [World.setCells]
    have e : (cs.setIfInBounds o v).toList.take (o + 1) ++ r = cs.toList.take o ++ v :: r := by
      rw [Array.toList_setIfInBounds, List.take_set, List.take_succ_eq_append_getElem (by rw [Array.length_toList]; exact hs), List.set_append_right _ _ (by rw [List.length_take]; omega)]
      simp [Nat.min_eq_left (Nat.le_of_lt hs)]
    rw [e] at this
    exact this
theorem Blk.setCells {w : World} {b : Nat} {cs : Array Value} {T : Nat} (h : Blk w b cs T) (vs : Array Value) (hl : vs.size = cs.size) : Blk (w.setCells b 0 vs.toList) b vs T := by
  have := Blk.setCells_at vs.toList 0 w cs h (by rw [Array.length_toList]; omega)
  simpa using this
theorem setCells_heap (g : Nat) : ∀ (vs : List Value) (o : Nat) (w : World) (k : Nat), k ≠ g → (w.setCells g o vs).heap[k]? = w.heap[k]?
  | [], _, _, _, _ => rfl
  | v :: r, o, w, k, hk => by
    rw [World.setCells, setCells_heap g r (o + 1) _ k hk]
    exact Below.heap_setCell _ _ _ _ hk
theorem setCells_size (g : Nat) : ∀ (vs : List Value) (o : Nat) (w : World), (w.setCells g o vs).heap.size = w.heap.size
  | [], _, _ => rfl
  | v :: r, o, w => by rw [World.setCells, setCells_size g r]; simp [World.setCell]
theorem setCells_os (g : Nat) : ∀ (vs : List Value) (o : Nat) (w : World), (w.setCells g o vs).os = w.os ∧ (w.setCells g o vs).tape = w.tape ∧ (w.setCells g o vs).output = w.output
  | [], _, _ => ⟨rfl, rfl, rfl⟩
  | v :: r, o, w => by rw [World.setCells]; exact setCells_os g r (o + 1) _
theorem Blk.setCells_other {w : World} {b : Nat} {cs : Array Value} {T : Nat} (h : Blk w b cs T) (g o : Nat) (vs : List Value) (hn : b ≠ g) : Blk (w.setCells g o vs) b cs T := by
  unfold Blk at *
  rw [setCells_heap g vs o w b hn]; exact h
theorem Fr.setCells {S : List Nat} {a w : World} (h : Fr S a w) (g o : Nat) (vs : List Value) (hg : a.heap.size ≤ g ∨ g ∈ S) : Fr S a (w.setCells g o vs) :=
  ⟨(setCells_os g vs o w).1.trans h.os, (setCells_os g vs o w).2.1.trans h.tape, (setCells_os g vs o w).2.2.trans h.output, by rw [setCells_size]; exact h.size,
    fun k hk hn => (setCells_heap g vs o w k (fun e => hg.elim (fun hg => by omega) (fun hg => hn (e ▸ hg)))).trans (h.block k hk hn)⟩
section
variable {P : Program}
/-- a whole array is stored into a block of its size -/
theorem wpList_store_blk {ops : Array Oper} {rest : List Oper} {op : Oper} {a : Act} {w : World} {Q : Exit → Act → World → Prop} (hgd : op.guard = none) (ty : TypeId) (x y : Operand) (ho : op.op = .store ty x y)
    (b T : Nat) (cs vs : Array Value) (hB : Blk w b cs T) (hx : a.eval x = .pointer (some ⟨b, 0, none⟩)) (hy : a.eval y = .agg vs) (hl : vs.size = cs.size)
    (hi : (P.info? ty).map (·.size) = some vs.size) (h1 : vs.all (·.oneCell') = true)
    (h : ∀ w', Hid (w' = w.setCells b 0 vs.toList) → Blk w' b vs T → wpList P ops Q rest (a.put op.dst undef) w') : wpList P ops Q (op :: rest) a w :=
  wpList_store_mid hgd ty x y ho b 0 vs hx hy (hB.there _ (by omega)) hi h1 (h _ (Lib.hid rfl) (hB.setCells vs hl))
/-- a whole array is loaded out of a block -/
theorem wpList_load_blk {ops : Array Oper} {rest : List Oper} {op : Oper} {a : Act} {w : World} {Q : Exit → Act → World → Prop} (hgd : op.guard = none) (ty : TypeId) (x : Operand) (ho : op.op = .load ty x)
    (b T : Nat) (cs : Array Value) (d : TypeDesc) (hB : Blk w b cs T) (hx : a.eval x = .pointer (some ⟨b, 0, none⟩)) 
    (hu : P.underlying ty = some d) (hd : d.isRow = true) (hi : (P.info? ty).map (·.size) = some cs.size)
    (h : wpList P ops Q rest (a.put op.dst (.agg cs)) w) : wpList P ops Q (op :: rest) a w :=
  wpList_load_mid hgd ty x ho b 0 hx cs.toList d hB.rangeAt hu hd (by rw [Array.length_toList]; exact hi) (by simpa using h)
theorem setCells_alloc_at (w : World) (T : TypeId) : ∀ (vs : List Value) (o : Nat) (cs : Array Value), o + vs.length = cs.size → (w.alloc (.cells cs T (0, 0))).setCells w.heap.size o vs = w.alloc (.cells (cs.toList.take o ++ vs).toArray T (0, 0))
  | [], o, cs, hl => by
    have e : (cs.toList.take o ++ []).toArray = cs := by
      rw [List.append_nil, List.take_of_length_le (by rw [Array.length_toList]; simpa using Nat.le_of_eq hl.symm)]
    rw [e]; rfl
  | v :: r, o, cs, hl => by
    have hs : o < cs.size := by rw [← hl, List.length_cons]; omega
    have := setCells_alloc_at w T r (o + 1) (cs.setIfInBounds o v) (by rw [Array.size_setIfInBounds, ← hl, List.length_cons]; omega)
    rw [World.setCells, World.setCell_alloc_new cs T o v, this]
    have e : (cs.setIfInBounds o v).toList.take (o + 1) ++ r = cs.toList.take o ++ v :: r := by
      have hs' : o < cs.toList.length := by simpa using hs
      rw [Array.toList_setIfInBounds, List.take_set, List.take_succ_eq_append_getElem hs', List.set_append_right _ _ (by rw [List.length_take]; omega)]
      simp [Nat.min_eq_left (Nat.le_of_lt hs)]
    rw [e]
theorem setCells_alloc (w : World) (T : TypeId) (cs vs : Array Value) (hl : vs.size = cs.size) : (w.alloc (.cells cs T (0, 0))).setCells w.heap.size 0 vs.toList = w.alloc (.cells vs T (0, 0)) := by
  have := setCells_alloc_at w T vs.toList 0 cs (by rw [Array.length_toList]; omega)
  simpa using this
/-- an array's literal: built, its variable made, stored -/
theorem wpList_lit {ops : Array Oper} {rest : List Oper} {o1 o2 o3 : Oper} {a : Act} {w : World} {Q : Exit → Act → World → Prop} (g1 : o1.guard = none) (g2 : o2.guard = none) (g3 : o3.guard = none)
    (T : TypeId) (parts : Array (Nat × Operand)) (x y : Operand) (h1 : o1.op = .build T parts) (h2 : o2.op = .alloc T) (h3 : o3.op = .store T x y)
    (C Z : Array Value) (hr1 : ∀ w, (Instr.build T (parts.map fun (i, x) => (i, a.eval x))).run P w = .ok (.agg C) w)
    (hr2 : ∀ w : World, (Instr.alloc T true (.tuple #[])).run P w = .ok (.pointer (some ⟨w.heap.size, 0, none⟩)) (w.alloc (.cells Z T (0, 0))))
    (hs : C.size = Z.size) (hi : (P.info? T).map (·.size) = some C.size) (hc : C.all (·.oneCell') = true)
    (hx : ((a.put o1.dst (.agg C)).put o2.dst (.pointer (some ⟨w.heap.size, 0, none⟩))).eval x = .pointer (some ⟨w.heap.size, 0, none⟩))
    (hy : ((a.put o1.dst (.agg C)).put o2.dst (.pointer (some ⟨w.heap.size, 0, none⟩))).eval y = .agg C)
    (h : wpList P ops Q rest (((a.put o1.dst (.agg C)).put o2.dst (.pointer (some ⟨w.heap.size, 0, none⟩))).put o3.dst undef) (w.alloc (.cells C T (0, 0)))) : wpList P ops Q (o1 :: o2 :: o3 :: rest) a w := by
  refine wpList_plain g1 fun K1 hK1 => ?_
  unfold Oper.wp execOp
  simp only [h1, Sem.run_bind, hr1, Result.andThen_ok, Sem.run_pure]
  refine hK1 _ _ ?_
  refine wpList_plain g2 fun K2 hK2 => ?_
  unfold Oper.wp execOp
  simp only [h2, Sem.run_bind, hr2, Result.andThen_ok, Sem.run_pure]
  refine hK2 _ _ ?_
  refine wpList_store_mid g3 T x y h3 w.heap.size 0 C hx hy ((Blk.new w Z T).there _ (by omega)) hi hc ?_
  rw [setCells_alloc w T Z C hs]
  exact h
/-- a slice's literal -/
theorem wpList_slit {ops : Array Oper} {rest : List Oper} {o1 : Oper} {a : Act} {w : World} {Q : Exit → Act → World → Prop} (g1 : o1.guard = none)
    (T n : Nat) (parts : Array (Nat × Operand)) (h1 : o1.op = .buildSlice T n parts) (C : Array Value) (E : Nat)
    (hr1 : ∀ w : World, (Instr.buildSlice T n (parts.map fun (i, x) => (i, a.eval x))).run P w = .ok (.slice (some ⟨w.heap.size, 0, none⟩) n n) (w.alloc (.cells C E (0, 0))))
    (h : wpList P ops Q rest (a.put o1.dst (.slice (some ⟨w.heap.size, 0, none⟩) n n)) (w.alloc (.cells C E (0, 0)))) : wpList P ops Q (o1 :: rest) a w := by
  refine wpList_plain g1 fun K1 hK1 => ?_
  unfold Oper.wp execOp
  simp only [h1, Sem.run_bind, hr1, Result.andThen_ok, Sem.run_pure]
  exact hK1 _ _ h
/-- a result that is an array in memory -/
theorem ret_cell1 {fn : Func} {R : Ending → World → Prop} {a : Act} {w : World} (s : Nat) (T : TypeId) (hres : fn.results = #[.cell s T]) (b Tb : Nat) (cs : Array Value) (d : TypeDesc) (hB : Blk w b cs Tb)
    (ha : a.tmps.getD s undef = .pointer (some ⟨b, 0, none⟩)) (hu : P.underlying T = some d) (hd : d.isRow = true) (hi : (P.info? T).map (·.size) = some cs.size)
    (hdef : a.defers = []) (hR : R (.returned (.agg cs)) w) : bodyPost P fn R .ret a w := by
  have hload := run_loadVar_mid (P := P) w b 0 T cs.toList d hB.rangeAt hu hd (by rw [Array.length_toList]; exact hi)
  rw [Array.toArray_toList] at hload
  refine bodyPost_ret (v := .agg cs) ?_ hdef hR
  rw [Array.getD_eq_getD_getElem?] at ha
  simp [results, hres, ha, asAddr, hload]
theorem ret_cell2 {fn : Func} {R : Ending → World → Prop} {a : Act} {w : World} (s t : Nat) (T : TypeId) (hres : fn.results = #[.cell s T, .tmp t]) (b Tb : Nat) (cs : Array Value) (d : TypeDesc) (hB : Blk w b cs Tb)
    (ha : a.tmps.getD s undef = .pointer (some ⟨b, 0, none⟩)) (hu : P.underlying T = some d) (hd : d.isRow = true) (hi : (P.info? T).map (·.size) = some cs.size)
    (hdef : a.defers = []) (hR : R (.returned (.tuple #[.agg cs, a.tmps.getD t undef])) w) : bodyPost P fn R .ret a w := by
  have hload := run_loadVar_mid (P := P) w b 0 T cs.toList d hB.rangeAt hu hd (by rw [Array.length_toList]; exact hi)
  rw [Array.toArray_toList] at hload
  refine bodyPost_ret (v := .tuple #[.agg cs, a.tmps.getD t undef]) ?_ hdef hR
  rw [Array.getD_eq_getD_getElem?] at ha
  simp [results, hres, ha, asAddr, hload]
end
end Go.Proofs.Ytcdencpkgfehlaa

/- Taking an operation of a drawn region first, its slot named: what reads; what its guard says no to. -/
namespace Go.Proofs.Ytcdencpkgfehlaa

section
variable {P : Program} {md : Region.Mode} {ops : Array Oper} {Q : Exit → Act → World → Prop} {S : World → Prop}
theorem take_no (i : Nat) (d : Tmp) {oi : Oper} {fuel : Nat} {listed : Array Bool} {a : Act} {w : World} (hi : ops[i]? = some oi) (hd : oi.dst = some d)
    (hs : Region.noSelect ops = true) (hf : Region.free md ops listed i = true) (hr : (Region.ready md ops listed).contains i = true)
    (hQ : ∀ c a w, Q (.panic c) (a.put (some d) undef) w → Q (.panic c) a w) (hw : Region.wanted oi (yielded ops a.tmps) = false) (hS : S w)
    (h : wpAnyH P md ops Q S fuel (listed.setIfInBounds i true) (a.put (some d) undef) w) : wpAnyH P md ops Q S (fuel + 1) listed a w := by
  rw [← hd] at hQ h
  exact wpAnyH_take hi hs hf hr hQ (Or.inr ⟨hw, rfl⟩) hS h
theorem take_yes (i : Nat) (d : Tmp) {v : Value} {oi : Oper} {fuel : Nat} {listed : Array Bool} {a : Act} {w : World} (hi : ops[i]? = some oi) (hd : oi.dst = some d)
    (hs : Region.noSelect ops = true) (hf : Region.free md ops listed i = true) (hr : (Region.ready md ops listed).contains i = true)
    (hQ : ∀ c a w, Q (.panic c) (a.put (some d) v) w → Q (.panic c) a w) (hw : Region.wanted oi (yielded ops a.tmps) = true) (hS : S w)
    (hy : ∀ w, S w → (execOp a.eval oi).run P w = .ok (.value v) w)
    (h : wpAnyH P md ops Q S fuel (listed.setIfInBounds i true) (a.put (some d) v) w) : wpAnyH P md ops Q S (fuel + 1) listed a w := by
  rw [← hd] at hQ h
  exact wpAnyH_take hi hs hf hr hQ (Or.inl ⟨hw, hy⟩) hS h
end
end Go.Proofs.Ytcdencpkgfehlaa

/- Maps whose entries are known as a list of pairs: look, put, delete, count. The keys may be structs. No program is spoken of here. -/
namespace Go.Proofs.Ytcdencpkgfehlaa
open Go.RowKit Go.Maps
set_option linter.unusedVariables false

/-- how a type of keys is told -/
structure KeyEnc (P : Program) (k : TypeId) (κ : Type) where
  law : Keyed P k
  ek : κ → Value
  V : κ → Prop
  ok : ∀ x, V x → ∃ kl, keyOf P k (ek x) = some kl
  inj : ∀ x y, ek x = ek y → x = y
section
variable {P : Program} {k e t : TypeId} {κ ν : Type} [DecidableEq κ] (E : KeyEnc P k κ) (ev : ν → Value)

def MapIs (w : World) (b : Nat) (l : List (κ × ν)) : Prop :=
  ∃ es clock, w.heap[b]? = some (.map es clock) ∧ es.size ≤ maxLen ∧ MapKept.Stamped es clock ∧ es.toList.map (fun x => (x.key, x.val)) = l.map (fun p => (E.ek p.1, ev p.2)) ∧ ∀ p, p ∈ l → E.V p.1

def look (l : List (κ × ν)) (x : κ) : Option ν := (l.find? (fun p => decide (p.1 = x))).map (·.2)
def put (l : List (κ × ν)) (x : κ) (v : ν) : List (κ × ν) := if (look l x).isSome then l.map (fun p => if p.1 = x then (x, v) else p) else l ++ [(x, v)]
def del (l : List (κ × ν)) (x : κ) : List (κ × ν) := l.filter (fun p => decide (p.1 ≠ x))

variable {E ev}
variable {w : World} {b : Nat} {l : List (κ × ν)}
omit [DecidableEq κ] in
theorem MapIs.lt (h : MapIs E ev w b l) : b < w.heap.size := by
  obtain ⟨es, clock, hb, _⟩ := h
  exact (Array.getElem?_eq_some_iff.1 hb).1
omit [DecidableEq κ] in
theorem MapIs.fr {w' : World} {S : List Nat} (h : MapIs E ev w b l) (hF : Fr S w w') (hn : b ∉ S) : MapIs E ev w' b l := by
  have hlt := h.lt
  obtain ⟨es, clock, hb, h1⟩ := h
  exact ⟨es, clock, by rw [hF.block b hlt hn]; exact hb, h1⟩
omit [DecidableEq κ] in
theorem MapIs.new (w : World) : MapIs E ev (w.alloc (.map #[] 0)) w.heap.size ([] : List (κ × ν)) :=
  ⟨#[], 0, (MapKept.heap_alloc w _).1, by simp, MapKept.stamped_empty 0, rfl, by simp⟩
omit [DecidableEq κ] in
theorem MapIs.size_eq {es : Array MapEntry} (h : es.toList.map (fun x => (x.key, x.val)) = l.map (fun p => (E.ek p.1, ev p.2))) : es.size = l.length := by
  have := congrArg List.length h; simpa using this

omit [DecidableEq κ] in
/-- the entries' keys are keys -/
theorem keys_of {es : Array MapEntry} (h : es.toList.map (fun x => (x.key, x.val)) = l.map (fun p => (E.ek p.1, ev p.2))) (hV : ∀ p, p ∈ l → E.V p.1) :
    ∀ x, x ∈ es.toList → ∃ p, p ∈ l ∧ x.key = E.ek p.1 ∧ x.val = ev p.2 ∧ ∃ kl, keyOf P k x.key = some kl := by
  intro x hx
  have hm : (x.key, x.val) ∈ es.toList.map (fun x => (x.key, x.val)) := List.mem_map.2 ⟨x, hx, rfl⟩
  rw [h] at hm
  obtain ⟨p, hp, he⟩ := List.mem_map.1 hm
  simp only [Prod.mk.injEq] at he
  exact ⟨p, hp, he.1.symm, he.2.symm, by rw [← he.1]; exact E.ok _ (hV p hp)⟩
omit [DecidableEq κ] in
theorem entry_at {es : Array MapEntry} (h : es.toList.map (fun x => (x.key, x.val)) = l.map (fun p => (E.ek p.1, ev p.2))) {j : Nat} {e0 : MapEntry} (hj : es.toList[j]? = some e0) : ∃ p, l[j]? = some p ∧ e0.key = E.ek p.1 ∧ e0.val = ev p.2 := by
  have := congrArg (fun (q : List (Value × Value)) => q[j]?) h
  simp only [List.getElem?_map, hj, Option.map_some] at this
  cases hl : l[j]? with
  | none => rw [hl] at this; simp at this
  | some p =>
    rw [hl] at this
    simp only [Option.map_some, Option.some.injEq, Prod.mk.injEq] at this
    exact ⟨p, rfl, this.1, this.2⟩
omit [DecidableEq κ] in
theorem mem_entry {es : Array MapEntry} (h : es.toList.map (fun x => (x.key, x.val)) = l.map (fun p => (E.ek p.1, ev p.2))) {p : κ × ν} (hp : p ∈ l) : ∃ x, x ∈ es.toList ∧ x.key = E.ek p.1 ∧ x.val = ev p.2 := by
  have hm : (E.ek p.1, ev p.2) ∈ l.map (fun p => (E.ek p.1, ev p.2)) := List.mem_map.2 ⟨p, hp, rfl⟩
  rw [← h] at hm
  obtain ⟨x, hx, he⟩ := List.mem_map.1 hm
  simp only [Prod.mk.injEq] at he
  exact ⟨x, hx, he.1, he.2⟩
omit [DecidableEq κ] in
/-- the keys differ -/
theorem MapIs.nodup (h : MapIs E ev w b l) : (l.map (·.1)).Nodup := by
  obtain ⟨es, clock, _, _, hs, he, _⟩ := h
  have h3 := hs.2.2
  have e1 : es.toList.map (·.key) = (l.map (·.1)).map E.ek := by
    have := congrArg (List.map Prod.fst) he
    simpa [List.map_map, Function.comp_def] using this
  rw [e1] at h3
  exact List.Pairwise.of_map E.ek (fun a b hne he => hne (by rw [he])) h3
theorem look_some {x : κ} {v : ν} (hn : (l.map (·.1)).Nodup) : look l x = some v ↔ (x, v) ∈ l := by
  unfold look
  induction l with
  | nil => simp
  | cons p r ih =>
    simp only [List.map_cons, List.nodup_cons] at hn
    rw [List.find?_cons]
    by_cases hp : p.1 = x
    · simp only [hp, decide_true, Option.map_some, Option.some.injEq, List.mem_cons]
      constructor
      · rintro rfl; left; rw [← hp]
      · rintro (h | h)
        · rw [← h]
        · exact absurd (List.mem_map.2 ⟨(x, v), h, rfl⟩) (by rw [← hp]; exact hn.1)
    · simp only [hp, decide_false, List.mem_cons]
      rw [ih hn.2]
      constructor
      · exact Or.inr
      · rintro (h | h)
        · exact absurd (by rw [← h]) hp
        · exact h
theorem look_none {x : κ} : look l x = none ↔ ∀ p, p ∈ l → p.1 ≠ x := by
  unfold look
  rw [Option.map_eq_none_iff, List.find?_eq_none]
  simp

/-- m[x]; v, ok := m[x] -/
theorem MapIs.lookup (h : MapIs E ev w b l) (ht : P.underlying t = some (.map k e)) {z : Value} (hz : (zeroValue e).run P w = .ok z w) (c : Bool) (x : κ) (hx : E.V x) :
    (Instr.lookup t (.map (some b)) (E.ek x) c).run P w = .ok (match look l x with | none => if c then .tuple #[z, .bool false] else z | some v => if c then .tuple #[ev v, .bool true] else ev v) w := by
  have hnd := h.nodup
  obtain ⟨es, clock, hb, hs, hst, he, hV⟩ := h
  obtain ⟨kl, hk⟩ := E.ok x hx
  have hks : ∀ y, y ∈ es.toList → ∃ kl, keyOf P k y.key = some kl := fun y hy => by obtain ⟨p, _, _, _, h4⟩ := keys_of he hV y hy; exact h4
  rcases E.law.find w hk es.toList hks with ⟨h1, h2⟩ | ⟨j, e0, h1, h2, h3⟩
  · have hn : look l x = none := look_none.2 (fun p hp hpx => by
      obtain ⟨y, hy, hy1, _⟩ := mem_entry he hp
      exact h2 y hy (by rw [hy1, hpx]))
    rw [hn]
    simp [Instr.lookup, run_underlying ht, MapKept.run_getObj_map hb, E.law.check w _ hk, h1, hz, Result.andThen]
  · obtain ⟨p, hp, hp1, hp2⟩ := entry_at he h2
    have hpx : p.1 = x := E.inj _ _ (by rw [← hp1, h3])
    have hs' : look l x = some p.2 := (look_some hnd).2 (by rw [← hpx]; exact List.mem_of_getElem? hp)
    rw [hs']
    simp [Instr.lookup, run_underlying ht, MapKept.run_getObj_map hb, E.law.check w _ hk, h1, Result.andThen, hp2]
/-- m[x] = v -/
theorem MapIs.update (h : MapIs E ev w b l) (ht : P.underlying t = some (.map k e)) (hroom : l.length < maxLen) (x : κ) (hx : E.V x) (v : ν) :
    ∃ w', (Instr.mapUpdate t (.map (some b)) (E.ek x) (ev v)).run P w = .ok () w' ∧ MapIs E ev w' b (put l x v) ∧ Fr [b] w w' := by
  have hnd := h.nodup
  obtain ⟨es, clock, hb, hs, hst, he, hV⟩ := h
  obtain ⟨kl, hk⟩ := E.ok x hx
  have hfr : ∀ o, Fr [b] w (ChangeMaps.setBlock w b o) := fun o => ⟨rfl, rfl, rfl, by simp [ChangeMaps.setBlock], fun i _ hi => ChangeMaps.heap_setBlock_other hb _ (fun e => hi (by rw [e]; simp))⟩
  have hks : ∀ y, y ∈ es.toList → ∃ kl, keyOf P k y.key = some kl := fun y hy => by obtain ⟨p, _, _, _, h4⟩ := keys_of he hV y hy; exact h4
  rcases E.law.find w hk es.toList hks with ⟨h1, h2⟩ | ⟨j, e0, h1, h2, h3⟩
  · have hn : look l x = none := look_none.2 (fun p hp hpx => by
      obtain ⟨y, hy, hy1, _⟩ := mem_entry he hp
      exact h2 y hy (by rw [hy1, hpx]))
    have hsz := MapIs.size_eq he
    refine ⟨_, by simp [Instr.mapUpdate, run_underlying ht, MapKept.run_getObj_map hb, E.law.check w false hk, h1, MapKept.run_setObj_map _ hb, Result.andThen]; rfl, ?_, hfr _⟩
    unfold put
    rw [hn, if_neg (by simp)]
    refine ⟨es.push ⟨E.ek x, ev v, clock⟩, clock + 1, ChangeMaps.heap_setBlock_same hb _, by simp; omega, MapKept.stamped_push hst h2, ?_, ?_⟩
    · simp [he]
    · intro p hp
      rcases List.mem_append.1 hp with hp | hp
      · exact hV p hp
      · simp at hp; subst hp; exact hx
  · obtain ⟨p, hp, hp1, hp2⟩ := entry_at he h2
    have hpx : p.1 = x := E.inj _ _ (by rw [← hp1, h3])
    have hs' : look l x = some p.2 := (look_some hnd).2 (by rw [← hpx]; exact List.mem_of_getElem? hp)
    have hj : es[j]? = some e0 := by simpa using h2
    have hlist : (es.modify j (fun e' => { e' with key := E.ek x, val := ev v })).toList = es.toList.set j { e0 with key := E.ek x, val := ev v } := by rw [Array.toList_modify, ChangeMaps.modify_eq_set _ _ _ _ h2]
    have hkeyf : ∀ e', es[j]? = some e' → ({ e' with key := E.ek x, val := ev v } : MapEntry).key = e'.key := fun e' he' => by rw [hj] at he'; cases he'; exact h3.symm
    refine ⟨_, by simp [Instr.mapUpdate, run_underlying ht, MapKept.run_getObj_map hb, E.law.check w false hk, h1, hj, h3, E.law.stays w hk, MapKept.run_setObj_map _ hb, Result.andThen]; rfl, ?_, hfr _⟩
    unfold put
    rw [hs', if_pos (by simp)]
    refine ⟨es.modify j (fun e' => { e' with key := E.ek x, val := ev v }), clock, ChangeMaps.heap_setBlock_same hb _, by simpa using hs, MapKept.stamped_modify hst _ _ (fun _ _ => rfl) (fun e' _ he' => hkeyf e' he'), ?_, ?_⟩
    · rw [hlist, List.map_set, he]
      apply List.ext_getElem?
      intro i
      rw [List.getElem?_set]
      by_cases hij : j = i
      · subst hij
        have hlt : j < l.length := (List.getElem?_eq_some_iff.1 hp).1
        have hpj : l[j] = p := by have := hp; rw [List.getElem?_eq_getElem hlt] at this; exact Option.some.inj this
        simp [hlt, hpj, hpx]
      · rw [if_neg hij]
        simp only [List.getElem?_map, Option.map_map]
        cases hl : l[i]? with
        | none => rfl
        | some q =>
          have hq : q.1 ≠ x := by
            intro hqx
            have hlt : j < l.length := (List.getElem?_eq_some_iff.1 hp).1
            have h5 : (l.map (·.1))[j]? = (l.map (·.1))[i]? := by simp [hl, hp, hqx, hpx]
            exact hij ((List.getElem?_inj (by simpa using hlt) hnd).1 h5)
          simp [hq]
    · intro q hq
      obtain ⟨r, hr, rfl⟩ := List.mem_map.1 hq
      split
      · exact hx
      · exact hV r hr
omit [DecidableEq κ] in
/-- len(m) -/
theorem MapIs.len (h : MapIs E ev w b l) (ht : P.underlying t = some (.map k e)) (ty : TypeId) : (Builtin.len_ #[t] ty #[.map (some b)]).run P w = .ok (.int .i64 l.length) w := by
  obtain ⟨es, clock, hb, hs, hst, he, hV⟩ := h
  simp [Builtin.len_, run_underlying ht, MapKept.run_getObj_map hb, Result.andThen, MapIs.size_eq he, goInt]
theorem filter_entry {x : κ} {j : Nat} {p : κ × ν} (hnd : (l.map (·.1)).Nodup) (hp : l[j]? = some p) (hpx : p.1 = x) : l.eraseIdx j = del l x := by
  unfold del
  induction l generalizing j with
  | nil => simp at hp
  | cons q r ih =>
    simp only [List.map_cons, List.nodup_cons] at hnd
    cases j with
    | zero =>
      simp only [List.getElem?_cons_zero, Option.some.injEq] at hp
      subst hp
      rw [List.eraseIdx_cons_zero, List.filter_cons, if_neg (by simp [hpx])]
      refine (List.filter_eq_self.2 fun y hy => ?_).symm
      simp only [decide_eq_true_eq]
      intro hyx
      exact hnd.1 (by rw [hpx, ← hyx]; exact List.mem_map.2 ⟨y, hy, rfl⟩)
    | succ i =>
      simp only [List.getElem?_cons_succ] at hp
      have hq : q.1 ≠ x := fun hq => hnd.1 (by rw [hq, ← hpx]; exact List.mem_map.2 ⟨p, List.mem_of_getElem? hp, rfl⟩)
      rw [List.eraseIdx_cons_succ, List.filter_cons, if_pos (by simpa using hq), ih hnd.2 hp]
/-- delete(m, x) -/
theorem MapIs.delete (h : MapIs E ev w b l) (ht : P.underlying t = some (.map k e)) (x : κ) (hx : E.V x) (ty : TypeId) :
    ∃ w', (Builtin.delete_ #[t, k] ty #[.map (some b), E.ek x]).run P w = .ok (.tuple #[]) w' ∧ MapIs E ev w' b (del l x) ∧ Fr [b] w w' := by
  have hnd := h.nodup
  obtain ⟨es, clock, hb, hs, hst, he, hV⟩ := h
  obtain ⟨kl, hk⟩ := E.ok x hx
  have hfr : ∀ o, Fr [b] w (ChangeMaps.setBlock w b o) := fun o => ⟨rfl, rfl, rfl, by simp [ChangeMaps.setBlock], fun i _ hi => ChangeMaps.heap_setBlock_other hb _ (fun e => hi (by rw [e]; simp))⟩
  have hks : ∀ y, y ∈ es.toList → ∃ kl, keyOf P k y.key = some kl := fun y hy => by obtain ⟨p, _, _, _, h4⟩ := keys_of he hV y hy; exact h4
  have hVd : ∀ p, p ∈ del l x → E.V p.1 := fun p hp => hV p (List.mem_filter.1 hp).1
  rcases E.law.find w hk es.toList hks with ⟨h1, h2⟩ | ⟨j, e0, h1, h2, h3⟩
  · have hn : look l x = none := look_none.2 (fun p hp hpx => by
      obtain ⟨y, hy, hy1, _⟩ := mem_entry he hp
      exact h2 y hy (by rw [hy1, hpx]))
    have hd : del l x = l := by
      unfold del
      refine List.filter_eq_self.2 fun y hy => ?_
      simpa using look_none.1 hn y hy
    refine ⟨_, by simp [Builtin.delete_, run_underlying ht, MapKept.run_getObj_map hb, E.law.check w _ hk, h1, MapKept.run_setObj_map _ hb, Result.andThen]; rfl, ?_, hfr _⟩
    rw [hd]
    exact ⟨es, clock, ChangeMaps.heap_setBlock_same hb _, hs, hst, he, hV⟩
  · obtain ⟨p, hp, hp1, hp2⟩ := entry_at he h2
    have hpx : p.1 = x := E.inj _ _ (by rw [← hp1, h3])
    have hjl : j < es.toList.length := (List.getElem?_eq_some_iff.1 h2).1
    have hjs : j < es.size := by simpa using hjl
    have hsub : (es.eraseIdxIfInBounds j).toList = es.toList.eraseIdx j := by
      unfold Array.eraseIdxIfInBounds
      rw [dif_pos hjs]
      simp
    refine ⟨_, by simp [Builtin.delete_, run_underlying ht, MapKept.run_getObj_map hb, E.law.check w _ hk, h1, MapKept.run_setObj_map _ hb, Result.andThen]; rfl, ?_, hfr _⟩
    refine ⟨es.eraseIdxIfInBounds j, clock, ChangeMaps.heap_setBlock_same hb _, Nat.le_trans (MapFrom.size_erase es j) hs, MapKept.stamped_erase hst j, ?_, hVd⟩
    rw [hsub, ChangeMaps.map_eraseIdx, he, ← ChangeMaps.map_eraseIdx, filter_entry hnd hp hpx]
end
section
variable {P : Program} {k e t : TypeId} {κ ν : Type} [DecidableEq κ] {E : KeyEnc P k κ} {ev : ν → Value} {w : World} {b : Nat} {l : List (κ × ν)} {ops : Array Oper} {rest : List Oper} {o : Oper} {a : Act} {Q : Exit → Act → World → Prop}
theorem wpList_look_some (hg : o.guard = none) (m x : Operand) (t : TypeId) (c : Bool) (hop : o.op = Op.lookup t m x c) (ht : P.underlying t = some (.map k e)) {z : Value} (hz : (zeroValue e).run P w = .ok z w)
    (h : MapIs E ev w b l) (hm : a.eval m = .map (some b)) (y : κ) (hy : E.V y) (hx : a.eval x = E.ek y) (v : ν) (hr : look l y = some v)
    (hK : wpList P ops Q rest (a.put o.dst (if c then .tuple #[ev v, .bool true] else ev v)) w) : wpList P ops Q (o :: rest) a w := by
  refine wpList_plain hg fun K' hK' => ?_
  have hrun := h.lookup ht hz c y hy
  rw [hr] at hrun
  unfold Oper.wp
  simp only [execOp, hop, hm, hx, hrun, Result.andThen, Sem.run_bind, Sem.run_pure]
  exact hK' _ _ hK
theorem wpList_look_none (hg : o.guard = none) (m x : Operand) (t : TypeId) (c : Bool) (hop : o.op = Op.lookup t m x c) (ht : P.underlying t = some (.map k e)) {z : Value} (hz : (zeroValue e).run P w = .ok z w)
    (h : MapIs E ev w b l) (hm : a.eval m = .map (some b)) (y : κ) (hy : E.V y) (hx : a.eval x = E.ek y) (hr : look l y = none)
    (hK : wpList P ops Q rest (a.put o.dst (if c then .tuple #[z, .bool false] else z)) w) : wpList P ops Q (o :: rest) a w := by
  refine wpList_plain hg fun K' hK' => ?_
  have hrun := h.lookup ht hz c y hy
  rw [hr] at hrun
  unfold Oper.wp
  simp only [execOp, hop, hm, hx, hrun, Result.andThen, Sem.run_bind, Sem.run_pure]
  exact hK' _ _ hK
theorem wpList_put_is (hg : o.guard = none) (m x y : Operand) (t : TypeId) (hop : o.op = Op.mapUpdate t m x y) (ht : P.underlying t = some (.map k e))
    (h : MapIs E ev w b l) (hroom : l.length < maxLen) (hm : a.eval m = .map (some b)) (z : κ) (hz : E.V z) (hx : a.eval x = E.ek z) (v : ν) (hv : a.eval y = ev v)
    (hK : ∀ w', MapIs E ev w' b (put l z v) → Fr [b] w w' → wpList P ops Q rest (a.put o.dst undef) w') : wpList P ops Q (o :: rest) a w := by
  refine wpList_plain hg fun K' hK' => ?_
  obtain ⟨w', hrun, h1, h2⟩ := h.update ht hroom z hz v
  unfold Oper.wp
  simp [execOp, hop, hm, hx, hv, hrun, Result.andThen]
  exact hK' _ _ (hK w' h1 h2)
theorem wpList_del_is (hg : o.guard = none) (m x : Operand) (t k' : TypeId) (hop : o.op = Op.call { callee := Callee.builtin Builtin.delete, args := #[m, x], argTypes := #[t, k'] }) (hkk : k' = k) (ht : P.underlying t = some (.map k e))
    (h : MapIs E ev w b l) (hm : a.eval m = .map (some b)) (z : κ) (hz : E.V z) (hx : a.eval x = E.ek z)
    (hK : ∀ w', MapIs E ev w' b (del l z) → Fr [b] w w' → wpList P ops Q rest (a.put o.dst (.tuple #[])) w') : wpList P ops Q (o :: rest) a w := by
  subst hkk
  refine wpList_plain hg fun K' hK' => ?_
  obtain ⟨w', hrun, h1, h2⟩ := h.delete ht z hz o.type
  unfold Oper.wp
  simp [execOp, hop, resolve, invoke, builtin, hm, hx, hrun, Result.andThen]
  exact hK' _ _ (hK w' h1 h2)
omit [DecidableEq κ] in
theorem wpList_len_is (hg : o.guard = none) (m : Operand) (t : TypeId) (hop : o.op = Op.call { callee := Callee.builtin Builtin.len, args := #[m], argTypes := #[t] }) (ht : P.underlying t = some (.map k e))
    (h : MapIs E ev w b l) (hm : a.eval m = .map (some b)) (hK : wpList P ops Q rest (a.put o.dst (.int .i64 l.length)) w) : wpList P ops Q (o :: rest) a w := by
  refine wpList_plain hg fun K' hK' => ?_
  unfold Oper.wp
  simp [execOp, hop, resolve, invoke, builtin, hm, h.len ht o.type, Result.andThen]
  exact hK' _ _ hK
/-! plain laws of look, put, del -/
theorem look_put_same (l : List (κ × ν)) (x : κ) (v : ν) : look (put l x v) x = some v := by
  unfold put
  split
  · rename_i h
    obtain ⟨u, hu⟩ := Option.isSome_iff_exists.1 h
    clear h
    unfold look at *
    induction l with
    | nil => simp at hu
    | cons p r ih =>
      by_cases hp : p.1 = x
      · simp [hp]
      · simp only [List.map_cons, List.find?_cons, hp, if_false, decide_false] at hu ⊢
        exact ih hu
  · rename_i h
    have hn : look l x = none := by simpa using h
    unfold look at *
    rw [List.find?_append]
    have : l.find? (fun p => decide (p.1 = x)) = none := by simpa using hn
    rw [this]
    simp
theorem look_put_other (l : List (κ × ν)) (x y : κ) (v : ν) (h : y ≠ x) : look (put l x v) y = look l y := by
  unfold put
  split
  · unfold look
    congr 1
    rename_i h1
    clear h1
    induction l with
    | nil => rfl
    | cons p r ih =>
      simp only [List.map_cons, List.find?_cons]
      by_cases hp : p.1 = x
      · simp only [hp, if_true]
        rw [decide_eq_false (fun e => h e.symm)]
        exact ih
      · simp only [hp, if_false]
        split
        · rfl
        · exact ih
  · unfold look
    rw [List.find?_append]
    have : (List.find? (fun p : κ × ν => decide (p.1 = y)) [(x, v)]) = none := by rw [List.find?_cons, decide_eq_false (fun e : x = y => h e.symm)]; rfl
    rw [this]
    simp
theorem look_del_same (l : List (κ × ν)) (x : κ) : look (del l x) x = none := by
  rw [look_none]
  intro p hp
  have := (List.mem_filter.1 hp).2
  simpa using this
theorem look_del_other (l : List (κ × ν)) (x y : κ) (h : y ≠ x) : look (del l x) y = look l y := by
  unfold look del
  congr 1
  induction l with
  | nil => rfl
  | cons p r ih =>
    rw [List.filter_cons]
    by_cases hp : p.1 = x
    · rw [if_neg (by simp [hp]), ih, List.find?_cons, decide_eq_false (by rw [hp]; exact fun e => h e.symm)]
    · rw [if_pos (by simpa using hp), List.find?_cons, List.find?_cons, ih]
theorem put_length (l : List (κ × ν)) (x : κ) (v : ν) : (put l x v).length = if (look l x).isSome then l.length else l.length + 1 := by
  unfold put
  split <;> simp
end
end Go.Proofs.Ytcdencpkgfehlaa

/- Maps whose entries are known as a list of pairs: 'for k, v := range m' with a round that makes memory. No program is spoken of here. -/
namespace Go.Proofs.Ytcdencpkgfehlaa
open Go.RowKit Go.Maps
set_option linter.unusedVariables false
section
variable {P : Program} {k e t : TypeId} {κ ν : Type} [DecidableEq κ] {E : KeyEnc P k κ} {ev : ν → Value} {w : World} {b r : Nat} {l rest : List (κ × ν)}
/-- block r ranges over the map b, which holds l; rest is still to come -/
structure Iter (E : KeyEnc P k κ) (ev : ν → Value) (w : World) (b r : Nat) (l rest : List (κ × ν)) : Prop where
  mp : MapIs E ev w b l
  nd : (rest.map (·.1)).Nodup
  it : ∃ es clock since c0 seen, w.heap[b]? = some (.map es clock) ∧ w.heap[r]? = some (.mapIter (some b) since seen c0) ∧ (∀ x ∈ es.toList, x.born < since) ∧ since ≤ c0 ∧ since ≤ clock ∧
    (leftOf es seen).toList.map (fun x => (x.key, x.val)) = rest.map (fun p => (E.ek p.1, ev p.2))
omit [DecidableEq κ] in
theorem Iter.rlt (h : Iter E ev w b r l rest) : r < w.heap.size := by
  obtain ⟨es, cl, s, c0, seen, _, hr, _⟩ := h.it
  exact (Array.getElem?_eq_some_iff.1 hr).1
omit [DecidableEq κ] in
theorem Iter.fr {w' : World} {S : List Nat} (h : Iter E ev w b r l rest) (hF : Fr S w w') (hb : b ∉ S) (hr : r ∉ S) : Iter E ev w' b r l rest := by
  have hlt := h.rlt
  have hbl := h.mp.lt
  obtain ⟨hm, hn, es, cl, s, c0, seen, h1, h2, h3⟩ := h
  exact ⟨hm.fr hF hb, hn, es, cl, s, c0, seen, by rw [hF.block b hbl hb]; exact h1, by rw [hF.block r hlt hr]; exact h2, h3⟩
omit [DecidableEq κ] in
theorem MapIs.range (h : MapIs E ev w b l) (ht : P.underlying t = some (.map k e)) :
    ∃ c, (Instr.range t (.map (some b))).run P w = .ok (.pointer (some ⟨w.heap.size, 0, none⟩)) (w.alloc (.mapIter (some b) c #[] c)) ∧ Iter E ev (w.alloc (.mapIter (some b) c #[] c)) b w.heap.size l l := by
  have hnd := h.nodup
  have hlt := h.lt
  have h' := h
  obtain ⟨es, clock, hb, hs, hst, he, hV⟩ := h
  refine ⟨clock, run_range_map w t k e b es clock ht hb, h'.fr ((Fr.refl [] w).alloc _) (by simp), hnd, es, clock, clock, clock, #[], ?_, ?_, hst.1, Nat.le_refl _, Nat.le_refl _, ?_⟩
  · rw [heap_alloc_old w _ hlt]; exact hb
  · exact heap_alloc_new w _
  · have : leftOf es #[] = es := by unfold leftOf; simp
    rw [this]; exact he
theorem map_filter_two {α β γ : Type} (f : α → γ) (g : β → γ) (p : α → Bool) (q : β → Bool) : ∀ (L : List α) (R : List β), L.map f = R.map g → (∀ x ∈ L, ∀ y ∈ R, f x = g y → p x = q y) → (L.filter p).map f = (R.filter q).map g
  | [], [], _, _ => rfl
  | [], _ :: _, h, _ => by simp at h
  | _ :: _, [], h, _ => by simp at h
  | x :: L, y :: R, h, hpq => by
    simp only [List.map_cons, List.cons.injEq] at h
    have ih := map_filter_two f g p q L R h.2 (fun a ha c hc => hpq a (List.mem_cons_of_mem _ ha) c (List.mem_cons_of_mem _ hc))
    have hxy := hpq x List.mem_cons_self y List.mem_cons_self h.1
    rw [List.filter_cons, List.filter_cons, hxy]
    split
    · simp [h.1, ih]
    · exact ih
theorem inj_of_nodup {α β : Type} {f : α → β} : ∀ {l : List α}, (l.map f).Nodup → ∀ {a c : α}, a ∈ l → c ∈ l → f a = f c → a = c
  | [], _, _, _, h, _, _ => by cases h
  | x :: l, hn, a, c, ha, hc, he => by
    simp only [List.map_cons, List.nodup_cons] at hn
    rcases List.mem_cons.1 ha with rfl | ha'
    · rcases List.mem_cons.1 hc with rfl | hc'
      · rfl
      · exact absurd (List.mem_map.2 ⟨c, hc', he.symm⟩) hn.1
    · rcases List.mem_cons.1 hc with rfl | hc'
      · exact absurd (List.mem_map.2 ⟨a, ha', he⟩) hn.1
      · exact inj_of_nodup hn.2 ha' hc' he
theorem perm_out (rest : List (κ × ν)) (p : κ × ν) (hn : (rest.map (·.1)).Nodup) (hp : p ∈ rest) : rest.Perm (p :: rest.filter (fun q => decide (q.1 ≠ p.1))) := by
  induction rest with
  | nil => cases hp
  | cons x l ih =>
    simp only [List.map_cons, List.nodup_cons] at hn
    rcases List.mem_cons.1 hp with rfl | hp'
    · have : l.filter (fun q => decide (q.1 ≠ p.1)) = l := List.filter_eq_self.2 fun y hy => by
        simp only [decide_eq_true_eq]
        exact fun e => hn.1 (List.mem_map.2 ⟨y, hy, e⟩)
      rw [List.filter_cons, if_neg (by simp), this]
    · have hxp : x.1 ≠ p.1 := fun e => hn.1 (List.mem_map.2 ⟨p, hp', e.symm⟩)
      rw [List.filter_cons, if_pos (by simpa using hxp)]
      exact (List.Perm.cons x (ih hn.2 hp')).trans (List.Perm.swap p x _)
theorem Iter.next (h : Iter E ev w b r l rest) (hrb : r ≠ b) (ty : TypeId) :
    (rest = [] ∧ (Instr.next (.pointer (some ⟨r, 0, none⟩)) false ty).run P w = .ok (.tuple #[.bool false]) w) ∨
    ∃ p, p ∈ rest ∧ ∃ w', (Instr.next (.pointer (some ⟨r, 0, none⟩)) false ty).run P w = .ok (.tuple #[.bool true, E.ek p.1, ev p.2]) w' ∧
      Iter E ev w' b r l (rest.filter (fun q => decide (q.1 ≠ p.1))) ∧ (Instr.entry (.pointer (some ⟨r, 0, none⟩))).run P w' = .ok (.tuple #[E.ek p.1, ev p.2]) w' ∧ Fr [r] w w' := by
  have hm := h.mp
  have hbl := hm.lt
  have hrl := h.rlt
  obtain ⟨_, hn, es, cl, s, c0, seen, hb, hr, hold, hsc, hscl, hL⟩ := h
  obtain ⟨es', cl', hb', hsz, hst, he, hV⟩ := id hm
  have hbe := hb
  rw [hb'] at hbe
  obtain ⟨rfl, rfl⟩ : es' = es ∧ cl' = cl := by injection hbe with hbe; injection hbe with h1 h2; exact ⟨h1, h2⟩
  rcases run_next_at (P := P) w ty r b s c0 seen es' cl' hr hb hold hsc with ⟨h0, hrun⟩ | ⟨e0, he0, w1, hw1, hrun⟩
  · left
    refine ⟨?_, hrun⟩
    have : (leftOf es' seen).toList = [] := by
      apply List.eq_nil_of_length_eq_zero
      rw [Array.length_toList]; exact h0
    rw [this] at hL
    cases rest with
    | nil => rfl
    | cons x r => simp at hL
  · right
    have hmem : (e0.key, e0.val) ∈ (leftOf es' seen).toList.map (fun x => (x.key, x.val)) := List.mem_map.2 ⟨e0, he0, rfl⟩
    rw [hL] at hmem
    obtain ⟨p, hp, hpe⟩ := List.mem_map.1 hmem
    simp only [Prod.mk.injEq] at hpe
    have he0s : e0 ∈ es'.toList := by
      unfold leftOf at he0
      rw [Array.toList_filter] at he0
      exact (List.mem_filter.1 he0).1
    have hw1h : w1.heap = w.heap := by rcases hw1 with rfl | rfl <;> rfl
    have hr1 : w1.heap[r]? = some (.mapIter (some b) s seen c0) := by rw [hw1h]; exact hr
    have hFr : Fr [r] w (ChangeMaps.setBlock w1 r (.mapIter (some b) s (seen.push e0.born) cl')) := by
      refine ⟨?_, ?_, ?_, by simp [ChangeMaps.setBlock, hw1h], fun i _ hi => ?_⟩
      · rcases hw1 with rfl | rfl <;> rfl
      · rcases hw1 with rfl | rfl <;> rfl
      · rcases hw1 with rfl | rfl <;> rfl
      · show (w1.heap.setIfInBounds r _)[i]? = _
        rw [Array.getElem?_setIfInBounds_ne (fun e => hi (by rw [← e]; simp)), hw1h]
    have hr2 : (ChangeMaps.setBlock w1 r (.mapIter (some b) s (seen.push e0.born) cl')).heap[r]? = some (.mapIter (some b) s (seen.push e0.born) cl') := by
      show (w1.heap.setIfInBounds r _)[r]? = _
      rw [Array.getElem?_setIfInBounds_self_of_lt (by rw [hw1h]; exact hrl)]
    have hb2 : (ChangeMaps.setBlock w1 r (.mapIter (some b) s (seen.push e0.born) cl')).heap[b]? = some (.map es' cl') := by
      rw [hFr.block b hbl (by simp; exact fun e => hrb e.symm)]; exact hb
    refine ⟨p, hp, _, by rw [hrun, hpe.1, hpe.2], ⟨hm.fr hFr (by simp; exact fun e => hrb e.symm), ?_, es', cl', s, cl', seen.push e0.born, hb2, hr2, hold, hscl, hscl, ?_⟩, ?_, hFr⟩
    · exact List.Nodup.sublist (List.Sublist.map _ List.filter_sublist) hn
    · have hpush : (leftOf es' (seen.push e0.born)).toList = (leftOf es' seen).toList.filter (fun x => decide (x.born ≠ e0.born)) := by
        unfold leftOf
        rw [Array.toList_filter, Array.toList_filter, List.filter_filter]
        apply List.filter_congr
        intro x _
        rw [Bool.eq_iff_iff]
        simp
        exact And.comm
      rw [hpush]
      refine map_filter_two _ _ _ _ _ _ hL ?_
      intro x hx y hy hxy
      simp only [Prod.mk.injEq] at hxy
      have hxs : x ∈ es'.toList := by
        unfold leftOf at hx
        rw [Array.toList_filter] at hx
        exact (List.mem_filter.1 hx).1
      rw [decide_eq_decide]
      constructor
      · intro hne e
        apply hne
        have : x = e0 := inj_of_nodup hst.2.2 hxs he0s (by rw [hxy.1, e, hpe.1])
        rw [this]
      · intro hne e
        apply hne
        have : x = e0 := inj_of_nodup hst.2.1 hxs he0s e
        exact E.inj _ _ (by rw [← hxy.1, this, hpe.1])
    · rw [run_entry_at (P := P) _ r b s seen es' cl' e0 hr2 hb2 he0s hst.2.1, hpe.1, hpe.2]
end
end Go.Proofs.Ytcdencpkgfehlaa

/- What every law's frame here uses. -/
namespace Go.Proofs.Ytcdencpkgfehlaa
theorem own : ownKnob Try.prog.godebug = none := by kernel_rfl
theorem laidOut : laidOutB Try.prog = true := by kernel_rfl
theorem reach_string {s : ByteArray} (h : s.data.toList.length ≤ reachBytes) : s.size ≤ 140737488351232 := by
  rw [Array.length_toList] at h
  exact h
end Go.Proofs.Ytcdencpkgfehlaa

/- Rows of structs that the program made itself: their cells, an element read, an element changed. No program is spoken of here. -/
namespace Go.Proofs.Ytcdencpkgfehlaa
open Go.RowKit
set_option linter.unusedVariables false
def rowF {α : Type} (f : α → List Value) (l : List α) : List Value := l.flatMap f
section
variable {α : Type} {f : α → List Value} {N : Nat}
theorem rowF_nil : rowF f [] = [] := rfl
theorem rowF_cons (x : α) (l : List α) : rowF f (x :: l) = f x ++ rowF f l := rfl
theorem rowF_append (l r : List α) : rowF f (l ++ r) = rowF f l ++ rowF f r := List.flatMap_append
theorem rowF_one (x : α) : rowF f [x] = f x := by simp [rowF]
theorem rowF_len (hN : ∀ x, (f x).length = N) (l : List α) : (rowF f l).length = l.length * N := by
  induction l with
  | nil => simp [rowF]
  | cons x r ih => rw [rowF_cons, List.length_append, ih, hN, List.length_cons, Nat.add_mul]; omega
theorem rowF_get (hN : ∀ x, (f x).length = N) (l : List α) (i : Nat) (x : α) (h : l[i]? = some x) (c : Nat) (hc : c < N) : (rowF f l)[i * N + c]? = (f x)[c]? := by
  induction l generalizing i with
  | nil => simp at h
  | cons u r ih =>
    rw [rowF_cons]
    cases i with
    | zero =>
      simp at h
      subst h
      rw [List.getElem?_append_left (by rw [hN]; omega)]
      simp
    | succ i =>
      rw [List.getElem?_append_right (by rw [hN, Nat.add_mul]; omega), hN]
      have : (i + 1) * N + c - N = i * N + c := by rw [Nat.add_mul]; omega
      rw [this]
      exact ih i (by simpa using h)
theorem rowF_set (hN : ∀ x, (f x).length = N) (l : List α) (i : Nat) (x x' : α) (h : l[i]? = some x) (c : Nat) (hc : c < N) (u : Value) (hx : f x' = (f x).set c u) : rowF f (l.set i x') = (rowF f l).set (i * N + c) u := by
  induction l generalizing i with
  | nil => simp at h
  | cons y r ih =>
    cases i with
    | zero =>
      simp at h
      subst h
      simp only [List.set_cons_zero, rowF_cons, hx]
      rw [Nat.zero_mul, Nat.zero_add, List.set_append_left _ _ (by rw [hN]; exact hc)]
    | succ i =>
      simp only [List.set_cons_succ, rowF_cons]
      rw [ih i (by simpa using h), List.set_append_right _ _ (by rw [hN, Nat.add_mul]; omega), hN]
      congr 2
      rw [Nat.add_mul]; omega
theorem rowF_one' (h1 : ∀ x, ∀ v, v ∈ f x → v.oneCell' = true) (l : List α) : ∀ v, v ∈ rowF f l → v.oneCell' = true := fun v hv => by
  obtain ⟨x, _, hx⟩ := List.mem_flatMap.1 hv
  exact h1 x v hx
/-- what a slice at A shows of a list -/
def RAt (w : World) (A : Option Addr) (N : Nat) (f : α → List Value) (l : List α) : Prop := ∀ i x, l[i]? = some x → ∃ q, A = some ⟨q, 0, none⟩ ∧ q < w.heap.size ∧ ∀ W, Fr [] w W → ∀ c v, (f x)[c]? = some v → W.cell? ⟨q, i * N + c, none⟩ = some v
theorem RAt.fr0 {w w' : World} {A : Option Addr} {l : List α} (h : RAt w A N f l) (hF : Fr [] w w') : RAt w' A N f l := fun i x hi => by
  obtain ⟨q, h1, h2, h3⟩ := h i x hi
  exact ⟨q, h1, Nat.lt_of_lt_of_le h2 hF.size, fun W hW => h3 W (hF.trans hW)⟩
theorem rown_caps {w : World} {base e sz n cap : Nat} {A : Option Addr} {ys : List Value} (h : w.ownsRow base e sz (.slice A n cap) n ys) : n ≤ cap ∧ cap ≤ maxLen := by
  rcases h.2 with ⟨h1, h2⟩ | ⟨g', cap', cur, h1, _, _, h4, h5, _⟩
  · injection h1 with _ _ e3; exact ⟨by omega, by unfold maxLen; omega⟩
  · injection h1 with _ _ e3; rw [e3]; exact ⟨h4, h5⟩
theorem rown_slice {w : World} {base e sz n : Nat} {v : Value} {ys : List Value} (h : w.ownsRow base e sz v n ys) : ∃ A cap, v = .slice A n cap := by
  rcases h.2 with ⟨h1, h2⟩ | ⟨g', cap, cur, h1, _⟩
  · exact ⟨none, 0, by rw [h1, h2]⟩
  · exact ⟨_, _, h1⟩
theorem rown_frS {w w' : World} {Sx : List Nat} {base e sz n : Nat} {v : Value} {ys : List Value} (h : w.ownsRow base e sz v n ys) (hF : Fr Sx w w') (hn : ∀ q, v.ownBlock = some q → q ∉ Sx) : w'.ownsRow base e sz v n ys :=
  ⟨h.1, h.2.imp id fun ⟨g, cap, cur, h1, h2, h3, h4⟩ => ⟨g, cap, cur, h1, h2, hF.blk (b := g) h3 (hn g (by rw [h1]; rfl)), h4⟩⟩
theorem rown_blk {w : World} {base e sz n : Nat} {v : Value} {xs : List Value} (h : w.ownsRow base e sz v n xs) : ∀ k, v.ownBlock = some k → ∃ cur, Blk w k cur e := fun k hk => by
  rcases h.2 with ⟨h1, _⟩ | ⟨g, cap, cur, h1, _, h3, _⟩
  · rw [h1] at hk; cases hk
  · rw [h1] at hk
    injection hk with hk
    subst hk
    exact ⟨cur, h3⟩
theorem rown_base {w : World} {base base' e sz n : Nat} {v : Value} {xs : List Value} (h : w.ownsRow base e sz v n xs) (hb : base' ≤ base) : w.ownsRow base' e sz v n xs :=
  ⟨h.1, h.2.imp id fun ⟨g, cap, cur, h1, h2, h3⟩ => ⟨g, cap, cur, h1, Nat.le_trans hb h2, h3⟩⟩
theorem RAt.of_own (hN : ∀ x, (f x).length = N) {w : World} {base e cap : Nat} {A : Option Addr} {l : List α} (h : w.ownsRow base e N (.slice A l.length cap) l.length (rowF f l)) : RAt w A N f l := fun i x hi => by
  have hil := (List.getElem?_eq_some_iff.1 hi).1
  obtain ⟨g, cap', hv, hg, hlt⟩ := h.form (by omega)
  cases hv
  refine ⟨g, rfl, hlt, fun W hW c v hv => ?_⟩
  have hc : c < N := by
    have := (List.getElem?_eq_some_iff.1 hv).1
    rwa [hN] at this
  rw [World.cell?_of_block (hW.block g hlt (by simp)), h.cellAt (i * N + c) (by
    have : (i + 1) * N ≤ l.length * N := Nat.mul_le_mul_right _ (by omega)
    rw [Nat.add_mul] at this
    omega), rowF_get hN l i x hi c hc, hv]
theorem Fr.of_row {w w' : World} {row : Option Nat} (hg : w.grownBy w' row) : Fr row.toList w w' :=
  ⟨hg.os, hg.tape, hg.output, hg.size, fun k hk hn => hg.block k hk (fun e => hn (by rw [← e]; simp))⟩
theorem Blk.neT {w : World} {a b T U : Nat} {cs ds : Array Value} (h : Blk w a cs T) (k : Blk w b ds U) (hT : T ≠ U) : a ≠ b := fun e => by
  subst e
  unfold Blk at h k
  rw [h] at k
  injection k with k
  injection k with _ k
  exact hT k
end
theorem wp_app {P : Program} (w : World) {o : Oper} {a : Act} {K : Act → World → Prop} {Q : Exit → Act → World → Prop} (d : Tmp) (hd : o.dst = some d) (s x : Operand) (t : TypeId)
    (ho : o.op = .call { callee := .builtin .append, args := #[s, x], argTypes := #[t, t] })
    (base : Nat) (e : TypeId) (i : TypeInfo) (z : Value) (size bytes : Nat) (ht : P.underlying t = some (.slice e)) (hi : P.info? e = some i) (hz : i.zero = some z)
    (hsize : i.size = size) (hby : i.bytes = bytes) (hzs : z.cells.size = size) (hsz : 0 < size)
    (v : Value) (n : Nat) (xs : List Value) (hs : a.eval s = v) (hown : w.ownsRow base e size v n xs)
    (B : Nat) (A : Option Addr) (m c : Nat) (news : List Value) (hx : a.eval x = .slice A m c) (hr : Reads w B size A m news) (h1 : ∀ u ∈ news, u.oneCell' = true)
    (h63 : n + m ≤ maxLen) (hbytes : (n + m) * bytes ≤ 140737488355328) (hbase : base ≤ w.heap.size)
    (h : ∀ v' w', w'.ownsRow base e size v' (n + m) (xs ++ news) → w.grownBy w' v.ownBlock → (v'.ownBlock = v.ownBlock ∨ v'.ownBlock = some w.heap.size) → K (a.put (some d) v') w') : o.wp P a w K Q := by
  rw [← hd] at h
  exact wp_append_any w s x t ho base e i z size bytes ht hi hz hsize hby hzs hsz v n xs hs hown B A m c news hx hr h1 h63 hbytes hbase h
end Go.Proofs.Ytcdencpkgfehlaa

