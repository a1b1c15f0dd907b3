/- Several texts in one: Base, Str, Clone, Own, Row, Takes, RowK, BookK, Law, BookN, BookP, BookQ, RowsAt, RowsS. -/
import Derived.Test.YtfchbppfbepelaaGreatRows
import Derived.WalkKit
import Derived.Deep.QuietTactic
import Derived.BigQuiet
import Derived.Lib.Hide
import Derived.WalkLawsBesides
import Derived.WalkSpells
import Derived.Deep.RegionLaw
import Derived.Lib.Strings
import Derived.Lib.Walk
import Derived.Lib.BufferWrite
import Derived.Lib.UnsafeStr
import Derived.Laws.MakeOwn
import Derived.Maps.AppendAt
import Derived.Deep.AppendLies
import Derived.RegionTactic
import Derived.OwnWalk
import Derived.Deep.MidRow
import Derived.Laws.NewBlocks
import Derived.Deep.RegionHeld3
import Derived.Laws.AppendOwn
import Derived.ProofKit
import Derived.OpenShut
import Derived.ShutString
import Derived.ChangeOld
import Derived.Below
import Derived.SizedLaws
import Derived.Laws.Cover3
import Derived.ChangeKeysEq
import Derived.Deep.SlicePairs
import Derived.Deep.Slices
/- The base lemmas on blocks of cells and on what a call leaves alone. No program is spoken of here. -/
namespace Go.Proofs.YtfchbppfbepelaaGreat
open Go.RowKit

/-- Block b is a row of the cells cs, none frozen. -/
def Blk (w : World) (b : Nat) (cs : Array Value) (T : Nat) : Prop := w.heap[b]? = some (.cells cs T (0, 0))

theorem Blk.lt {w : World} {b : Nat} {cs : Array Value} {T : Nat} (h : Blk w b cs T) : b < w.heap.size := lt_of_block h
theorem Blk.c {w : World} {b : Nat} {cs : Array Value} {T : Nat} (h : Blk w b cs T) (i : Nat) (v : Value) (hi : cs[i]? = some v) : w.cell? ⟨b, i, none⟩ = some v := by
  unfold Blk at h
  simp [World.cell?, h, hi]
theorem Blk.fz {w : World} {b : Nat} {cs : Array Value} {T : Nat} (h : Blk w b cs T) (i : Nat) : w.frozen? ⟨b, i, none⟩ = false := by
  unfold Blk at h
  simp [World.frozen?, h]
theorem Blk.set {w : World} {b : Nat} {cs : Array Value} {T : Nat} (h : Blk w b cs T) (i : Nat) (v : Value) : Blk (w.setCell ⟨b, i, none⟩ v) b (cs.setIfInBounds i v) T := by
  have hlt := h.lt
  unfold Blk at *
  have h' : w.heap[b] = .cells cs T (0, 0) := by simpa [Array.getElem?_eq_getElem hlt] using h
  show (w.heap.modify b _)[b]? = _
  rw [Array.getElem?_eq_getElem (by simpa using hlt), Array.getElem_modify_self, h']
  rfl
theorem Blk.set_other {w : World} {b : Nat} {cs : Array Value} {T : Nat} (h : Blk w b cs T) (a : Addr) (ha : b ≠ a.block) (v : Value) : Blk (w.setCell a v) b cs T := by
  unfold Blk at *
  rw [Below.heap_setCell _ _ _ _ ha]; exact h
theorem Blk.alloc {w : World} {b : Nat} {cs : Array Value} {T : Nat} (h : Blk w b cs T) (o : Obj) : Blk (w.alloc o) b cs T := by
  have hlt := h.lt
  unfold Blk at *
  rw [Below.heap_alloc _ _ _ hlt]; exact h
theorem Blk.drew {w : World} {b : Nat} {cs : Array Value} {T : Nat} (h : Blk w b cs T) : Blk w.drew b cs T := h
theorem Blk.drewN {w : World} {b : Nat} {cs : Array Value} {T : Nat} (h : Blk w b cs T) (n : Nat) : Blk (w.drewN n) b cs T := h
theorem Blk.new (w : World) (cs : Array Value) (T : Nat) : Blk (w.alloc (.cells cs T (0, 0))) w.heap.size cs T := by
  show (w.heap.push _)[w.heap.size]? = _
  simp

/-- Of the blocks of w all but those of S are as they were; the streams are as they were. -/
structure Fr (S : List Nat) (w w' : World) : Prop where
  os : w'.os = w.os
  tape : w'.tape = w.tape
  output : w'.output = w.output
  size : w.heap.size ≤ w'.heap.size
  block : ∀ k, k < w.heap.size → k ∉ S → w'.heap[k]? = w.heap[k]?

theorem Fr.refl (S : List Nat) (w : World) : Fr S w w := ⟨rfl, rfl, rfl, Nat.le_refl _, fun _ _ _ => rfl⟩
theorem Fr.trans {S : List Nat} {a b c : World} (h : Fr S a b) (k : Fr S b c) : Fr S a c :=
  ⟨k.os.trans h.os, k.tape.trans h.tape, k.output.trans h.output, Nat.le_trans h.size k.size, fun i hi hn => (k.block i (Nat.lt_of_lt_of_le hi h.size) hn).trans (h.block i hi hn)⟩
theorem Fr.mono {S S' : List Nat} {w w' : World} (h : Fr S w w') (hs : ∀ k, k ∈ S → k ∈ S') : Fr S' w w' :=
  ⟨h.os, h.tape, h.output, h.size, fun k hk hn => h.block k hk (fun hm => hn (hs k hm))⟩
theorem Fr.blk {S : List Nat} {w w' : World} (h : Fr S w w') {b : Nat} {cs : Array Value} {T : Nat} (hb : Blk w b cs T) (hn : b ∉ S) : Blk w' b cs T := by
  have hlt := hb.lt
  unfold Blk at *
  rw [h.block b hlt hn]; exact hb
theorem Fr.drew {S : List Nat} {a w : World} (h : Fr S a w) : Fr S a w.drew := ⟨h.os, h.tape, h.output, h.size, h.block⟩
theorem Fr.drewN {S : List Nat} {a w : World} (h : Fr S a w) (n : Nat) : Fr S a (w.drewN n) := ⟨h.os, h.tape, h.output, h.size, h.block⟩
theorem Fr.alloc {S : List Nat} {a w : World} (h : Fr S a w) (o : Obj) : Fr S a (w.alloc o) :=
  h.trans ⟨rfl, rfl, rfl, by simp, fun k hk _ => Below.heap_alloc _ _ _ hk⟩
theorem Fr.setCell {S : List Nat} {a w : World} (h : Fr S a w) {p : Addr} (hp : p.block ∈ S) (u : Value) : Fr S a (w.setCell p u) :=
  h.trans ⟨rfl, rfl, rfl, by simp [World.setCell], fun k _ hn => Below.heap_setCell _ _ _ _ (fun e => hn (e ▸ hp))⟩
/-- a store into a block that is new -/
theorem Fr.setNew {S : List Nat} {a w : World} (h : Fr S a w) {p : Addr} (hp : a.heap.size ≤ p.block) (u : Value) : Fr S a (w.setCell p u) :=
  ⟨h.os, h.tape, h.output, by have := h.size; simpa [World.setCell] using this, fun k hk hn => by rw [Below.heap_setCell _ _ _ _ (by omega)]; exact h.block k hk hn⟩
/-- what a callee may write are blocks of the call's own, or new ones -/
theorem Fr.sub {S S' : List Nat} {a w w' : World} (h : Fr S a w) (k : Fr S' w w') (hs : ∀ x, x ∈ S' → x ∈ S ∨ a.heap.size ≤ x) : Fr S a w' :=
  ⟨k.os.trans h.os, k.tape.trans h.tape, k.output.trans h.output, Nat.le_trans h.size k.size,
    fun i hi hn => (k.block i (Nat.lt_of_lt_of_le hi h.size) (fun hm => (hs i hm).elim hn (fun hge => absurd hi (by omega)))).trans (h.block i hi hn)⟩
theorem Fr.below {S : List Nat} {w w' : World} (h : Fr S w w') {B : Nat} (hB : B ≤ w.heap.size) (hS : ∀ x, x ∈ S → B ≤ x) : Below B w w' :=
  ⟨h.os, h.tape, h.output, h.size, fun k hk => h.block k (by omega) (fun hm => by have := hS k hm; omega)⟩

theorem rint {k : IntKind} {a b : Int} (h : a = b) : Ending.returned (.int k a) = .returned (.int k b) := by rw [h]
theorem rbool {a b : Bool} (h : a = b) : Ending.returned (.bool a) = .returned (.bool b) := by rw [h]
theorem rvoid {P : Program} {fn : Func} {R : Ending → World → Prop} {a : Act} {w : World} (h : fn.results = #[]) (hd : a.defers = []) (hR : R (.returned (.tuple #[])) w) : bodyPost P fn R .ret a w :=
  bodyPost_ret (results_none h _ _ _) hd hR

end Go.Proofs.YtfchbppfbepelaaGreat

/- Strings as lists of bytes: B l; how the walk's words read on them. No program is spoken of here. -/
namespace Go.Proofs.YtfchbppfbepelaaGreat
open Go.RowKit

def B (l : List UInt8) : ByteArray := ⟨l.toArray⟩
@[go_sem] theorem B_size (l : List UInt8) : (B l).size = l.length := by simp [B, ByteArray.size]
@[go_sem] theorem B_append (l m : List UInt8) : B l ++ B m = B (l ++ m) := by unfold B; exact ByteArray.mk_append_mk l m
@[go_sem] theorem mk_append_B (l m : List UInt8) : (⟨l.toArray⟩ : ByteArray) ++ B m = B (l ++ m) := B_append l m
@[go_sem] theorem B_append_mk (l m : List UInt8) : B l ++ (⟨m.toArray⟩ : ByteArray) = B (l ++ m) := B_append l m
@[go_sem] theorem B_extract (l : List UInt8) (a b : Nat) : (B l).extract a b = B ((l.drop a).take (b - a)) := by unfold B; exact ByteArray.extract_mk l a b
@[go_sem] theorem B_toList (l : List UInt8) : (B l).toList = l := by unfold B; exact ByteArray.toList_mk l
@[go_sem] theorem B_data (l : List UInt8) : (B l).data.toList = l := by simp [B]
@[go_sem] theorem B_get (l : List UInt8) (i : Nat) (h : i < (B l).size) : (B l)[i] = l[i]'(by simpa [B_size] using h) := by rfl
theorem B_of (s : ByteArray) : s = B s.data.toList := by simp [B]
theorem B_inj {l m : List UInt8} : B l = B m ↔ l = m := ⟨fun h => by have := congrArg ByteArray.toList h; simpa [B_toList] using this, fun h => h ▸ rfl⟩

theorem rstr {l m : List UInt8} (h : l = m) : Ending.returned (.string (B l)) = .returned (.string (B m)) := by rw [h]
def bytesOf (xs : List Int) : List UInt8 := xs.map fun n => UInt8.ofNat n.toNat
theorem strOfNums_eq (xs : List Int) : strOfNums xs = B (bytesOf xs) := by simp [strOfNums, B, bytesOf]

section
variable {P : Program}
/-- string(b) of a block that is known whole -/
theorem run_str {w : World} {b T cap : Nat} {src dst e : TypeId} (hs : P.underlying src = some (.slice e)) (he : P.underlying e = some (.int .u8)) (hd : P.underlying dst = some .string)
    (xs : List Int) (hB : Blk w b (xs.map (Value.int .u8)).toArray T) (n : Nat) (hn : n = xs.length) :
    (convert src dst (.slice (some ⟨b, 0, none⟩) n cap)).run P w = .ok (.string (B (bytesOf xs))) w := by
  subst hn
  rw [run_convert_bytes_arg w src e hs he b 0 xs.length cap xs rfl (fun i hi => by
    rw [Nat.zero_add]
    exact hB.c i _ (by simp [List.getElem?_eq_getElem hi, List.getD])) dst hd, strOfNums_eq]
/-- string(b) of a slice that the call owns -/
theorem run_str_own {w : World} {base b cap : Nat} {src dst e : TypeId} (hs : P.underlying src = some (.slice e)) (he : P.underlying e = some (.int .u8)) (hd : P.underlying dst = some .string)
    (xs : List Int) (n : Nat) (h : w.ownsRow base e 1 (.slice (some ⟨b, 0, none⟩) n cap) n (xs.map (Value.int .u8))) :
    (convert src dst (.slice (some ⟨b, 0, none⟩) n cap)).run P w = .ok (.string (B (bytesOf xs))) w := by
  have hl : xs.length = n := by simpa using h.1
  rw [run_convert_bytes_arg w src e hs he b 0 n cap xs hl (fun i hi => by
    rw [h.cellAt (0 + i) (by omega), Nat.zero_add]
    simp [List.getElem?_eq_getElem (show i < xs.length by omega), List.getD]) dst hd, strOfNums_eq]
theorem run_str_any {w : World} {base : Nat} {v : Value} {src dst e : TypeId} (hs : P.underlying src = some (.slice e)) (he : P.underlying e = some (.int .u8)) (hd : P.underlying dst = some .string)
    (xs : List Int) (n : Nat) (h : w.ownsRow base e 1 v n (xs.map (Value.int .u8))) :
    (convert src dst v).run P w = .ok (.string (B (bytesOf xs))) w := by
  rcases h.2 with ⟨rfl, rfl⟩ | ⟨g, cap, cur, rfl, _⟩
  · have : xs = [] := List.eq_nil_of_length_eq_zero (by simpa using h.1)
    subst this
    rw [run_convert_bytes_nil w src e hs he 0 0 dst hd]; rfl
  · exact run_str_own hs he hd xs n h
end
theorem u8_toNat (x : Int) (h0 : 0 ≤ x) (h1 : x < 256) : ((UInt8.ofNat x.toNat).toNat : Int) = x := by
  have h : x.toNat < 256 := by omega
  have e : (UInt8.ofNat x.toNat).toNat = x.toNat % 256 := by simp
  omega
theorem byte_bd (b : UInt8) : (b.toNat : Int) < 256 := by have := b.toNat_lt; omega

theorem Fr.grown {S : List Nat} {a w w' : World} {row : Option Nat} (h : Fr S a w) (hg : w.grownBy w' row) (hr : ∀ k, row = some k → a.heap.size ≤ k) : Fr S a w' :=
  ⟨hg.os.trans h.os, hg.tape.trans h.tape, hg.output.trans h.output, Nat.le_trans h.size hg.size,
    fun k hk hn => (hg.block k (Nat.lt_of_lt_of_le hk h.size) (fun e => by have := hr k e.symm; omega)).trans (h.block k hk hn)⟩
/-- the block that an owned row has, if any, is new -/
theorem own_new {w : World} {base : Nat} {e : TypeId} {size n : Nat} {v : Value} {xs : List Value} (h : w.ownsRow base e size v n xs) : ∀ k, v.ownBlock = some k → base ≤ k := fun k hk => (h.lt k hk).1

theorem own_drew {w : World} {base : Nat} {e : TypeId} {size n : Nat} {v : Value} {xs : List Value} (h : w.ownsRow base e size v n xs) : w.drew.ownsRow base e size v n xs := h
/-- append onto a slice that the call owns, as one step of a region that draws its order -/
theorem step_append_own {P : Program} {ops : Array Oper} {o : Oper} {a : Act} {w : World} {K : Act → World → Prop} {Q : Exit → Act → World → Prop} {E : Prop}
    (hg : o.guard = none) (s x : Operand) (t : TypeId) (hop : o.op = Op.call { callee := Callee.builtin Builtin.append, args := #[s, x], argTypes := #[t, t] })
    (base : Nat) (e : TypeId) (i : TypeInfo) (z : Value) (size bytes : Nat) (h1 : P.underlying t = some (.slice e)) (h2 : P.info? e = some i) (h3 : i.zero = some z) (h4 : i.size = size) (h5 : i.bytes = bytes) (h6 : z.cells.size = size) (h7 : 0 < size)
    (v : Value) (n : Nat) (xs : List Value) (hs : a.eval s = v) (hown : w.ownsRow base e size v n xs)
    (ad : Addr) (m c : Nat) (news : List Value) (hx : a.eval x = .slice (some ad) m c) (hn : news.length = m * size) (hc : ∀ j u, news[j]? = some u → w.cell? (ad.add j) = some u) (h1c : ∀ u ∈ news, u.oneCell' = true)
    (b1 : n + m ≤ maxLen) (b2 : (n + m) * bytes ≤ 140737488355328) (hbase : base ≤ w.heap.size)
    (hK : ∀ v' w', w'.ownsRow base e size v' (n + m) (xs ++ news) → w.grownBy w' v.ownBlock → K (a.put o.dst v') w') :
    if Region.wanted o (yielded ops a.tmps) = true then Oper.wp P o a w K Q else E := by
  have hw : Region.wanted o (yielded ops a.tmps) = true := by simp [Region.wanted, hg]
  rw [if_pos hw]
  exact wp_append_own w s x t hop base e i z size bytes h1 h2 h3 h4 h5 h6 h7 v n xs hs hown ad m c news hx hn hc h1c b1 b2 hbase fun v' w' k1 k2 _ => hK v' w' k1 k2
/-- the cells of a block that was just made -/
theorem new_cells (w : World) (C : List Value) (T : TypeId) : ∀ j u, C[j]? = some u → (w.alloc (.cells C.toArray T)).cell? ((⟨w.heap.size, 0, none⟩ : Addr).add j) = some u := by
  intro j u h
  have hp : (⟨w.heap.size, 0, none⟩ : Addr).add j = ⟨w.heap.size, j, none⟩ := by unfold Addr.add; split <;> simp_all
  rw [hp]
  exact (Blk.new w C.toArray T).c j u (by simpa using h)

end Go.Proofs.YtfchbppfbepelaaGreat

/- strings.Clone, after the shelf's own proof of internal/stringslite.Clone, at this program's numbers. -/
namespace Go.Proofs.YtfchbppfbepelaaGreat
open Go.RowKit
set_option linter.unusedVariables false

theorem Fr.of_below {w w' : World} (h : Below w.heap.size w w') : Fr [] w w' := ⟨h.os, h.tape, h.output, h.size, fun k hk _ => h.block k hk⟩
theorem infoByte : (Tryz.prog.info? 5).map (fun i => (i.zero, i.size, i.bytes)) = some (some (.int .u8 0), 1, 1) := by kernel_rfl

set_option maxHeartbeats 4000000 in
set_option maxRecDepth 100000 in
theorem sliteClone (s : ByteArray) (w : World) (hlim : s.size ≤ 281474976710656) :
    Calls Tryz.prog 285 #[.string s] w fun e w' => e = .returned (.string s) ∧ Below w.heap.size w w' := by
  by_cases h0 : s.size = 0
  · have hs : s = ⟨#[]⟩ := by
      apply ByteArray.ext
      exact Array.eq_empty_of_size_eq_zero h0
    subst hs
    go_enter Tryz.func285, Tryz.ntmps285
    go_wp2
    go_ret
    exact ⟨rfl, Below.refl _ _⟩
  · obtain ⟨i0, hi, hz0, hz1, hz2⟩ := info_parts infoByte
    have hinfo : (Tryz.prog.info? 5).map (·.size) = some 1 := by rw [hi]; simp [hz1]
    have hco : Tryz.prog.cellsOf 5 = 1 := by simp [Program.cellsOf, hi, hz1]
    obtain ⟨M, hM⟩ : ∃ M, M = madeCells (Value.int .u8 0).cells (((s.size : Nat) : Int).toNat * i0.size) := ⟨_, rfl⟩
    have hMs : M.size = s.size := by rw [hM, size_madeCells, hz1]; simp
    have hmk : ∀ W : World, (Instr.makeSlice 383 (.int .i64 (s.size : Int)) (.int .i64 (s.size : Int))).run Tryz.prog W = .ok (.slice (some ⟨W.heap.size, 0, none⟩) s.size s.size) (W.alloc (.cells M 5)) := fun W => by
      have h := run_make (P := Tryz.prog) W 383 5 i0 (.int .u8 0) Tryz.underlying383 hi hz0 .i64 .i64 (s.size : Int) (s.size : Int) (by omega) (by omega) (by rw [hz2]; omega) (by omega)
      rw [← hM] at h
      simpa using h
    clear hM
    have hcp := Lib.run_copy_row_string (P := Tryz.prog) (w.alloc (.cells M 5)) 383 9 3 5 w.heap.size 0 s.size s.size s M 5 Tryz.underlying383 hinfo (heap_alloc_new w _) (Nat.le_refl _) (by omega)
    obtain ⟨Y, hY⟩ : ∃ Y, Y = (M.toList.take 0 ++ Lib.byteCells s.data.toList ++ M.toList.drop (0 + s.size)).toArray := ⟨_, rfl⟩
    rw [← hY] at hcp
    have hYl : Y.toList = Lib.byteCells s.data.toList := by
      rw [hY, List.toList_toArray, List.take_zero, List.nil_append, List.drop_of_length_le (by rw [Array.length_toList]; omega), List.append_nil]
    have hYs : Y.size = s.size := by rw [← Array.length_toList, hYl, Lib.byteCells_length, ← Lib.size_eq]
    have hgY : ((w.alloc (.cells M 5)).setRow w.heap.size Y).heap[w.heap.size]? = some (.cells Y 5 (0, 0)) := setRow_heap _ _ M _ 5 (0, 0) (heap_alloc_new w _)
    have hne : s.data.toList ≠ [] := fun e => h0 (by rw [Lib.size_eq, e]; rfl)
    have hUS := Lib.run_unsafeString_row (P := Tryz.prog) ((w.alloc (.cells M 5)).setRow w.heap.size Y) 414 3 9 5 Tryz.underlying414 hco w.heap.size Y.size (by unfold World.shape?; rw [hgY]) s.data.toList hne (by rw [← Lib.size_eq]; omega) (by rw [← Lib.size_eq]; omega)
      (fun j x hx => Lib.cells_of_row hgY Y.size j _ (by rw [List.take_of_length_le (by rw [Array.length_toList]; exact Nat.le_refl _), hYl]; simp [Lib.byteCells, hx]))
    rw [← Lib.size_eq] at hUS
    clear hY
    go_enter Tryz.func285, Tryz.ntmps285
    go_wp2
    go_ret
    have hb1 : Below w.heap.size w (w.alloc (.cells M 5)) := (Below.refl _ w).alloc (Nat.le_refl _) _
    have hb2 : Below w.heap.size (w.alloc (.cells M 5)) ((w.alloc (.cells M 5)).setRow w.heap.size Y) := ⟨rfl, rfl, rfl, by simp, fun k hk => setRow_other _ _ _ _ (by omega)⟩
    exact ⟨rfl, Lib.below_freeze (hb1.trans hb2) (p := ⟨w.heap.size, 0, none⟩) (Nat.le_refl _) _⟩

theorem clone_any (l : List UInt8) (w : World) (hlim : l.length ≤ 281474976710656) :
    Calls Tryz.prog 184 #[.string (B l)] w fun e w' => e = .returned (.string (B l)) ∧ Fr [] w w' := by
  go_enter Tryz.func184, Tryz.ntmps184
  go_wp2_with fail
  refine (sliteClone (B l) _ (by rw [B_size]; exact hlim)).mono ?_
  rintro e w1 ⟨rfl, hb⟩
  go_wp2
  go_ret
  exact ⟨rfl, Fr.of_below hb⟩
end Go.Proofs.YtfchbppfbepelaaGreat

/- Slices that read as lists, nil let in; append from whatever source: the lemmas that the kit's page extra-words gives to copy. No program is spoken of here. -/
namespace Go.Proofs.YtfchbppfbepelaaGreat
open Go.RowKit

theorem block_of_add (a : Addr) (n : Nat) : (a.add n).block = a.block := by unfold Addr.add; split <;> rfl
theorem add_of_add (a : Addr) (i j : Nat) : (a.add i).add j = a.add (i + j) := by
  unfold Addr.add
  by_cases hi : i = 0 <;> by_cases hj : j = 0 <;> simp [hi, hj, Nat.add_assoc]

def Reads (w : World) (B size : Nat) (A : Option Addr) (n : Nat) (xs : List Value) : Prop :=
  xs.length = n * size ∧ (0 < n → ∃ ad, A = some ad ∧ ad.block < B ∧ ∀ j u, xs[j]? = some u → w.cell? (ad.add j) = some u)

section
variable {w w' : World} {B B' size n : Nat} {A : Option Addr} {xs : List Value}
theorem Reads.none_ : Reads w B size A 0 [] := ⟨by simp, fun h => absurd h (by omega)⟩
theorem Reads.at_ {k : Nat} (h : Reads w B 1 A n xs) (hk : k < n) : ∃ ad u, A = some ad ∧ ad.block < B ∧ xs[k]? = some u ∧ w.cell? (ad.add k) = some u := by
  obtain ⟨ad, e, hb, hc⟩ := h.2 (by omega)
  have hl : k < xs.length := by have := h.1; omega
  exact ⟨ad, xs[k], e, hb, List.getElem?_eq_getElem hl, hc k _ (List.getElem?_eq_getElem hl)⟩
theorem Reads.keep (h : Reads w B size A n xs) (hk : ∀ p : Addr, p.block < B → w'.cell? p = w.cell? p) : Reads w' B size A n xs :=
  ⟨h.1, fun hn => by
    obtain ⟨ad, e, hb, hc⟩ := h.2 hn
    exact ⟨ad, e, hb, fun j u hu => (hk _ (by rw [block_of_add]; exact hb)).trans (hc j u hu)⟩⟩
theorem Reads.more (h : Reads w B size A n xs) (hB : B ≤ B') : Reads w B' size A n xs :=
  ⟨h.1, fun hn => by
    obtain ⟨ad, e, hb, hc⟩ := h.2 hn
    exact ⟨ad, e, by omega, hc⟩⟩
theorem Reads.below (h : Reads w B size A n xs) (hb : Below B w w') : Reads w' B size A n xs := h.keep fun _ hp => hb.cell hp
theorem Reads.drew (h : Reads w B size A n xs) : Reads w.drew B size A n xs := h
theorem Reads.drewN (h : Reads w B size A n xs) (k : Nat) : Reads (w.drewN k) B size A n xs := h
theorem Reads.alloc (h : Reads w B size A n xs) (hB : B ≤ w.heap.size) (o : Obj) : Reads (w.alloc o) B size A n xs := h.keep fun p hp => World.cell?_alloc_lt w o p (by omega)
theorem Reads.setCell (h : Reads w B size A n xs) {p : Addr} (hB : B ≤ p.block) (u : Value) : Reads (w.setCell p u) B size A n xs :=
  h.keep fun q hq => World.cell?_setCell_other w p q u (fun e => by subst e; omega)
theorem Reads.grown (h : Reads w B size A n xs) {row : Option Nat} (hg : w.grownBy w' row) (hB : B ≤ w.heap.size) (hr : ∀ g, row = some g → B ≤ g) : Reads w' B size A n xs :=
  h.keep fun p hp => World.cell?_of_block (hg.block p.block (by omega) (fun e => by have := hr _ e.symm; omega))
theorem Reads.cut (h : Reads w B size A n xs) {k cap : Nat} (hk : k ≤ n) (hc : n ≤ cap) :
    Reads w B size (if cap = k then A else A.map (·.add (k * size))) (n - k) (xs.drop (k * size)) := by
  refine ⟨by rw [List.length_drop, h.1, Nat.sub_mul], fun hn => ?_⟩
  obtain ⟨ad, rfl, hb, hcell⟩ := h.2 (by omega)
  rw [if_neg (by omega)]
  refine ⟨ad.add (k * size), rfl, by rw [block_of_add]; exact hb, fun j u hu => ?_⟩
  rw [add_of_add]
  exact hcell _ u (by rw [← hu, List.getElem?_drop])
theorem Reads.of_own {base : Nat} {e : TypeId} {c : Nat} (h : w.ownsRow base e size (.slice A n c) n xs) : Reads w w.heap.size size A n xs := by
  refine ⟨h.1, fun hn => ?_⟩
  obtain ⟨g, cap, hv, _, hlt⟩ := h.form hn
  have hA : A = some ⟨g, 0, none⟩ := by injection hv
  subst hA
  exact ⟨_, rfl, hlt, h.cells (g := g) rfl⟩
end
section
variable {P : Program} (w : World)

theorem run_append_of_nil (base : Nat) (t ty e : TypeId) (i : TypeInfo) (size : Nat) (ht : P.underlying t = some (.slice e)) (hi : P.info? e = some i)
    (v : Value) (n : Nat) (xs : List Value) (hown : w.ownsRow base e size v n xs) (c : Nat) : (Builtin.append_ #[t, t] ty #[v, .slice none 0 c]).run P w = .ok v w := by
  rcases hown.2 with ⟨rfl, rfl⟩ | ⟨g, cap, cur, rfl, _, _, hnc, _⟩
  · simp [Builtin.append_, run_underlying ht, sizeOf, typeInfo, hi, Builtin.lenOf, Builtin.firstCells]
  · simp [Builtin.append_, run_underlying ht, sizeOf, typeInfo, hi, Builtin.lenOf, Builtin.firstCells, hnc, storeCells]

theorem run_append_any (base : Nat) (t ty e : TypeId) (i : TypeInfo) (z : Value) (size bytes : Nat) (ht : P.underlying t = some (.slice e)) (hi : P.info? e = some i) (hz : i.zero = some z)
    (hsize : i.size = size) (hby : i.bytes = bytes) (hzs : z.cells.size = size) (hsz : 0 < size)
    (v : Value) (n : Nat) (xs : List Value) (hown : w.ownsRow base e size v n xs)
    (B : Nat) (A : Option Addr) (m c : Nat) (news : List Value) (hr : Reads w B size A m news) (h1 : ∀ u ∈ news, u.oneCell' = true)
    (h63 : n + m ≤ maxLen) (hbytes : (n + m) * bytes ≤ 140737488355328) (hbase : base ≤ w.heap.size) :
    ∃ v' w', (Builtin.append_ #[t, t] ty #[v, .slice A m c]).run P w = .ok v' w' ∧ w'.ownsRow base e size v' (n + m) (xs ++ news) ∧ w.grownBy w' v.ownBlock ∧
      (v'.ownBlock = v.ownBlock ∨ v'.ownBlock = some w.heap.size) := by
  rcases A with _ | ad
  · have hm : m = 0 := by
      rcases Nat.eq_zero_or_pos m with h0 | h0
      · exact h0
      · obtain ⟨ad, h, _⟩ := hr.2 h0
        cases h
    subst hm
    have hn : news = [] := List.eq_nil_of_length_eq_zero (by simpa using hr.1)
    subst hn
    exact ⟨v, w, run_append_of_nil w base t ty e i size ht hi v n xs hown c, by simpa using hown, World.grownBy.refl w _, .inl rfl⟩
  · have hcells : ∀ j u, news[j]? = some u → w.cell? (ad.add j) = some u := by
      intro j u hu
      rcases Nat.eq_zero_or_pos m with h0 | h0
      · subst h0
        have hn : news = [] := List.eq_nil_of_length_eq_zero (by simpa using hr.1)
        subst hn
        simp at hu
      · obtain ⟨ad', h, _, hc⟩ := hr.2 h0
        injection h with h
        subst h
        exact hc j u hu
    obtain ⟨v', w', hrun, h2, h3, _, h5⟩ := run_append_own_at (P := P) w base t ty e i z size bytes ht hi hz hsize hby hzs hsz v n xs hown ad m c news hr.1 hcells h1 h63 hbytes hbase
    exact ⟨v', w', hrun, h2, h3, h5⟩

theorem wp_append_any {o : Oper} {a : Act} {K : Act → World → Prop} {Q : Exit → Act → World → Prop} (s x : Operand) (t : TypeId)
    (ho : o.op = .call { callee := .builtin .append, args := #[s, x], argTypes := #[t, t] })
    (base : Nat) (e : TypeId) (i : TypeInfo) (z : Value) (size bytes : Nat) (ht : P.underlying t = some (.slice e)) (hi : P.info? e = some i) (hz : i.zero = some z)
    (hsize : i.size = size) (hby : i.bytes = bytes) (hzs : z.cells.size = size) (hsz : 0 < size)
    (v : Value) (n : Nat) (xs : List Value) (hs : a.eval s = v) (hown : w.ownsRow base e size v n xs)
    (B : Nat) (A : Option Addr) (m c : Nat) (news : List Value) (hx : a.eval x = .slice A m c) (hr : Reads w B size A m news) (h1 : ∀ u ∈ news, u.oneCell' = true)
    (h63 : n + m ≤ maxLen) (hbytes : (n + m) * bytes ≤ 140737488355328) (hbase : base ≤ w.heap.size)
    (h : ∀ v' w', w'.ownsRow base e size v' (n + m) (xs ++ news) → w.grownBy w' v.ownBlock → (v'.ownBlock = v.ownBlock ∨ v'.ownBlock = some w.heap.size) → K (a.put o.dst v') w') : o.wp P a w K Q := by
  obtain ⟨v', w', hrun, h2, h3, h4⟩ := run_append_any (P := P) w base t o.type e i z size bytes ht hi hz hsize hby hzs hsz v n xs hown B A m c news hr h1 h63 hbytes hbase
  unfold Oper.wp execOp
  simp only [ho, resolve, invoke, builtin, Sem.run_bind, Sem.run_pure, Result.andThen_ok, List.map_toArray, List.map_cons, List.map_nil, hs, hx, hrun]
  exact h v' w' h2 h3 h4

theorem wpList_append_any {ops : Array Oper} {rest : List Oper} {o : Oper} {a : Act} {Q : Exit → Act → World → Prop} (hgd : o.guard = none) (s x : Operand) (t : TypeId)
    (ho : o.op = .call { callee := .builtin .append, args := #[s, x], argTypes := #[t, t] })
    (base : Nat) (e : TypeId) (i : TypeInfo) (z : Value) (size bytes : Nat) (ht : P.underlying t = some (.slice e)) (hi : P.info? e = some i) (hz : i.zero = some z)
    (hsize : i.size = size) (hby : i.bytes = bytes) (hzs : z.cells.size = size) (hsz : 0 < size)
    (v : Value) (n : Nat) (xs : List Value) (hs : a.eval s = v) (hown : w.ownsRow base e size v n xs)
    (B : Nat) (A : Option Addr) (m c : Nat) (news : List Value) (hx : a.eval x = .slice A m c) (hr : Reads w B size A m news) (h1 : ∀ u ∈ news, u.oneCell' = true)
    (h63 : n + m ≤ maxLen) (hbytes : (n + m) * bytes ≤ 140737488355328) (hbase : base ≤ w.heap.size)
    (h : ∀ v' w', w'.ownsRow base e size v' (n + m) (xs ++ news) → w.grownBy w' v.ownBlock → (v'.ownBlock = v.ownBlock ∨ v'.ownBlock = some w.heap.size) → wpList P ops Q rest (a.put o.dst v') w') : wpList P ops Q (o :: rest) a w :=
  wpList_plain hgd fun _ hK => wp_append_any w s x t ho base e i z size bytes ht hi hz hsize hby hzs hsz v n xs hs hown B A m c news hx hr h1 h63 hbytes hbase fun v' w' h2 h3 h4 => hK _ _ (h v' w' h2 h3 h4)

theorem step_append_any {ops : Array Oper} {o : Oper} {a : Act} {K : Act → World → Prop} {Q : Exit → Act → World → Prop} {E : Prop} (hgd : o.guard = none) (s x : Operand) (t : TypeId)
    (ho : o.op = .call { callee := .builtin .append, args := #[s, x], argTypes := #[t, t] })
    (base : Nat) (e : TypeId) (i : TypeInfo) (z : Value) (size bytes : Nat) (ht : P.underlying t = some (.slice e)) (hi : P.info? e = some i) (hz : i.zero = some z)
    (hsize : i.size = size) (hby : i.bytes = bytes) (hzs : z.cells.size = size) (hsz : 0 < size)
    (v : Value) (n : Nat) (xs : List Value) (hs : a.eval s = v) (hown : w.ownsRow base e size v n xs)
    (B : Nat) (A : Option Addr) (m c : Nat) (news : List Value) (hx : a.eval x = .slice A m c) (hr : Reads w B size A m news) (h1 : ∀ u ∈ news, u.oneCell' = true)
    (h63 : n + m ≤ maxLen) (hbytes : (n + m) * bytes ≤ 140737488355328) (hbase : base ≤ w.heap.size)
    (h : ∀ v' w', w'.ownsRow base e size v' (n + m) (xs ++ news) → w.grownBy w' v.ownBlock → (v'.ownBlock = v.ownBlock ∨ v'.ownBlock = some w.heap.size) → K (a.put o.dst v') w') :
    if Region.wanted o (yielded ops a.tmps) = true then Oper.wp P o a w K Q else E := by
  have hw : Region.wanted o (yielded ops a.tmps) = true := by simp [Region.wanted, hgd]
  rw [if_pos hw]
  exact wp_append_any w s x t ho base e i z size bytes ht hi hz hsize hby hzs hsz v n xs hs hown B A m c news hx hr h1 h63 hbytes hbase h
end
end Go.Proofs.YtfchbppfbepelaaGreat

/- Whole arrays stored and loaded: the kit's laws on ranges, told of blocks that are known whole. No program is spoken of here. -/
namespace Go.Proofs.YtfchbppfbepelaaGreat
open Go.RowKit

theorem Blk.there {w : World} {b : Nat} {cs : Array Value} {T : Nat} (h : Blk w b cs T) (n : Nat) (hn : n ≤ cs.size) : w.there b 0 n := fun j hj => by
  rw [Nat.zero_add]
  exact ⟨by rw [h.c j _ (Array.getElem?_eq_getElem (show j < cs.size by omega))]; rfl, h.fz j⟩
theorem Blk.rangeAt {w : World} {b : Nat} {cs : Array Value} {T : Nat} (h : Blk w b cs T) : w.rangeAt b 0 cs.toList := fun j v hv => by
  rw [Nat.zero_add]
  exact h.c j v (by rw [← Array.getElem?_toList]; exact hv)
theorem Blk.setCells_at {b T : Nat} : ∀ (vs : List Value) (o : Nat) (w : World) (cs : Array Value), Blk w b cs T → o + vs.length = cs.size → Blk (w.setCells b o vs) b (cs.toList.take o ++ vs).toArray T
  | [], o, w, cs, h, hl => by
    have e : (cs.toList.take o ++ []).toArray = cs := by
      rw [List.append_nil, List.take_of_length_le (by rw [Array.length_toList]; simpa using Nat.le_of_eq hl.symm)]
    rw [e]; exact h
  | v :: r, o, w, cs, h, hl => by
    have hs : o < cs.size := by rw [← hl, List.length_cons]; omega
    have := Blk.setCells_at r (o + 1) (w.setCell ⟨b, o, none⟩ v) (cs.setIfInBounds o v) (h.set o v) (by rw [Array.size_setIfInBounds, ← hl, List.length_cons]; omega)
    rw [World.setCells]
    have e : (cs.setIfInBounds o v).toList.take (o + 1) ++ r = cs.toList.take o ++ v :: r := by
      rw [Array.toList_setIfInBounds, List.take_set, List.take_succ_eq_append_getElem (by rw [Array.length_toList]; exact hs), List.set_append_right _ _ (by rw [List.length_take]; omega)]
      simp [Nat.min_eq_left (Nat.le_of_lt hs)]
    rw [e] at this
    exact this
theorem Blk.setCells {w : World} {b : Nat} {cs : Array Value} {T : Nat} (h : Blk w b cs T) (vs : Array Value) (hl : vs.size = cs.size) : Blk (w.setCells b 0 vs.toList) b vs T := by
  have := Blk.setCells_at vs.toList 0 w cs h (by rw [Array.length_toList]; omega)
  simpa using this
theorem setCells_heap (g : Nat) : ∀ (vs : List Value) (o : Nat) (w : World) (k : Nat), k ≠ g → (w.setCells g o vs).heap[k]? = w.heap[k]?
  | [], _, _, _, _ => rfl
  | v :: r, o, w, k, hk => by
    rw [World.setCells, setCells_heap g r (o + 1) _ k hk]
    exact Below.heap_setCell _ _ _ _ hk
theorem setCells_size (g : Nat) : ∀ (vs : List Value) (o : Nat) (w : World), (w.setCells g o vs).heap.size = w.heap.size
  | [], _, _ => rfl
  | v :: r, o, w => by rw [World.setCells, setCells_size g r]; simp [World.setCell]
theorem setCells_os (g : Nat) : ∀ (vs : List Value) (o : Nat) (w : World), (w.setCells g o vs).os = w.os ∧ (w.setCells g o vs).tape = w.tape ∧ (w.setCells g o vs).output = w.output
  | [], _, _ => ⟨rfl, rfl, rfl⟩
  | v :: r, o, w => by rw [World.setCells]; exact setCells_os g r (o + 1) _
theorem Blk.setCells_other {w : World} {b : Nat} {cs : Array Value} {T : Nat} (h : Blk w b cs T) (g o : Nat) (vs : List Value) (hn : b ≠ g) : Blk (w.setCells g o vs) b cs T := by
  unfold Blk at *
  rw [setCells_heap g vs o w b hn]; exact h
theorem Fr.setCells {S : List Nat} {a w : World} (h : Fr S a w) (g o : Nat) (vs : List Value) (hg : a.heap.size ≤ g ∨ g ∈ S) : Fr S a (w.setCells g o vs) :=
  ⟨(setCells_os g vs o w).1.trans h.os, (setCells_os g vs o w).2.1.trans h.tape, (setCells_os g vs o w).2.2.trans h.output, by rw [setCells_size]; exact h.size,
    fun k hk hn => (setCells_heap g vs o w k (fun e => hg.elim (fun hg => by omega) (fun hg => hn (e ▸ hg)))).trans (h.block k hk hn)⟩
section
variable {P : Program}
/-- a whole array is stored into a block of its size -/
theorem wpList_store_blk {ops : Array Oper} {rest : List Oper} {op : Oper} {a : Act} {w : World} {Q : Exit → Act → World → Prop} (hgd : op.guard = none) (ty : TypeId) (x y : Operand) (ho : op.op = .store ty x y)
    (b T : Nat) (cs vs : Array Value) (hB : Blk w b cs T) (hx : a.eval x = .pointer (some ⟨b, 0, none⟩)) (hy : a.eval y = .agg vs) (hl : vs.size = cs.size)
    (hi : (P.info? ty).map (·.size) = some vs.size) (h1 : vs.all (·.oneCell') = true)
    (h : ∀ w', Hid (w' = w.setCells b 0 vs.toList) → Blk w' b vs T → wpList P ops Q rest (a.put op.dst undef) w') : wpList P ops Q (op :: rest) a w :=
  wpList_store_mid hgd ty x y ho b 0 vs hx hy (hB.there _ (by omega)) hi h1 (h _ (Lib.hid rfl) (hB.setCells vs hl))
/-- a whole array is loaded out of a block -/
theorem wpList_load_blk {ops : Array Oper} {rest : List Oper} {op : Oper} {a : Act} {w : World} {Q : Exit → Act → World → Prop} (hgd : op.guard = none) (ty : TypeId) (x : Operand) (ho : op.op = .load ty x)
    (b T : Nat) (cs : Array Value) (d : TypeDesc) (hB : Blk w b cs T) (hx : a.eval x = .pointer (some ⟨b, 0, none⟩)) 
    (hu : P.underlying ty = some d) (hd : d.isRow = true) (hi : (P.info? ty).map (·.size) = some cs.size)
    (h : wpList P ops Q rest (a.put op.dst (.agg cs)) w) : wpList P ops Q (op :: rest) a w :=
  wpList_load_mid hgd ty x ho b 0 hx cs.toList d hB.rangeAt hu hd (by rw [Array.length_toList]; exact hi) (by simpa using h)
theorem setCells_alloc_at (w : World) (T : TypeId) : ∀ (vs : List Value) (o : Nat) (cs : Array Value), o + vs.length = cs.size → (w.alloc (.cells cs T (0, 0))).setCells w.heap.size o vs = w.alloc (.cells (cs.toList.take o ++ vs).toArray T (0, 0))
  | [], o, cs, hl => by
    have e : (cs.toList.take o ++ []).toArray = cs := by
      rw [List.append_nil, List.take_of_length_le (by rw [Array.length_toList]; simpa using Nat.le_of_eq hl.symm)]
    rw [e]; rfl
  | v :: r, o, cs, hl => by
    have hs : o < cs.size := by rw [← hl, List.length_cons]; omega
    have := setCells_alloc_at w T r (o + 1) (cs.setIfInBounds o v) (by rw [Array.size_setIfInBounds, ← hl, List.length_cons]; omega)
    rw [World.setCells, World.setCell_alloc_new cs T o v, this]
    have e : (cs.setIfInBounds o v).toList.take (o + 1) ++ r = cs.toList.take o ++ v :: r := by
      have hs' : o < cs.toList.length := by simpa using hs
      rw [Array.toList_setIfInBounds, List.take_set, List.take_succ_eq_append_getElem hs', List.set_append_right _ _ (by rw [List.length_take]; omega)]
      simp [Nat.min_eq_left (Nat.le_of_lt hs)]
    rw [e]
theorem setCells_alloc (w : World) (T : TypeId) (cs vs : Array Value) (hl : vs.size = cs.size) : (w.alloc (.cells cs T (0, 0))).setCells w.heap.size 0 vs.toList = w.alloc (.cells vs T (0, 0)) := by
  have := setCells_alloc_at w T vs.toList 0 cs (by rw [Array.length_toList]; omega)
  simpa using this
/-- an array's literal: built, its variable made, stored -/
theorem wpList_lit {ops : Array Oper} {rest : List Oper} {o1 o2 o3 : Oper} {a : Act} {w : World} {Q : Exit → Act → World → Prop} (g1 : o1.guard = none) (g2 : o2.guard = none) (g3 : o3.guard = none)
    (T : TypeId) (parts : Array (Nat × Operand)) (x y : Operand) (h1 : o1.op = .build T parts) (h2 : o2.op = .alloc T) (h3 : o3.op = .store T x y)
    (C Z : Array Value) (hr1 : ∀ w, (Instr.build T (parts.map fun (i, x) => (i, a.eval x))).run P w = .ok (.agg C) w)
    (hr2 : ∀ w : World, (Instr.alloc T true (.tuple #[])).run P w = .ok (.pointer (some ⟨w.heap.size, 0, none⟩)) (w.alloc (.cells Z T (0, 0))))
    (hs : C.size = Z.size) (hi : (P.info? T).map (·.size) = some C.size) (hc : C.all (·.oneCell') = true)
    (hx : ((a.put o1.dst (.agg C)).put o2.dst (.pointer (some ⟨w.heap.size, 0, none⟩))).eval x = .pointer (some ⟨w.heap.size, 0, none⟩))
    (hy : ((a.put o1.dst (.agg C)).put o2.dst (.pointer (some ⟨w.heap.size, 0, none⟩))).eval y = .agg C)
    (h : wpList P ops Q rest (((a.put o1.dst (.agg C)).put o2.dst (.pointer (some ⟨w.heap.size, 0, none⟩))).put o3.dst undef) (w.alloc (.cells C T (0, 0)))) : wpList P ops Q (o1 :: o2 :: o3 :: rest) a w := by
  refine wpList_plain g1 fun K1 hK1 => ?_
  unfold Oper.wp execOp
  simp only [h1, Sem.run_bind, hr1, Result.andThen_ok, Sem.run_pure]
  refine hK1 _ _ ?_
  refine wpList_plain g2 fun K2 hK2 => ?_
  unfold Oper.wp execOp
  simp only [h2, Sem.run_bind, hr2, Result.andThen_ok, Sem.run_pure]
  refine hK2 _ _ ?_
  refine wpList_store_mid g3 T x y h3 w.heap.size 0 C hx hy ((Blk.new w Z T).there _ (by omega)) hi hc ?_
  rw [setCells_alloc w T Z C hs]
  exact h
/-- a slice's literal -/
theorem wpList_slit {ops : Array Oper} {rest : List Oper} {o1 : Oper} {a : Act} {w : World} {Q : Exit → Act → World → Prop} (g1 : o1.guard = none)
    (T n : Nat) (parts : Array (Nat × Operand)) (h1 : o1.op = .buildSlice T n parts) (C : Array Value) (E : Nat)
    (hr1 : ∀ w : World, (Instr.buildSlice T n (parts.map fun (i, x) => (i, a.eval x))).run P w = .ok (.slice (some ⟨w.heap.size, 0, none⟩) n n) (w.alloc (.cells C E (0, 0))))
    (h : wpList P ops Q rest (a.put o1.dst (.slice (some ⟨w.heap.size, 0, none⟩) n n)) (w.alloc (.cells C E (0, 0)))) : wpList P ops Q (o1 :: rest) a w := by
  refine wpList_plain g1 fun K1 hK1 => ?_
  unfold Oper.wp execOp
  simp only [h1, Sem.run_bind, hr1, Result.andThen_ok, Sem.run_pure]
  exact hK1 _ _ h
/-- a result that is an array in memory -/
theorem ret_cell1 {fn : Func} {R : Ending → World → Prop} {a : Act} {w : World} (s : Nat) (T : TypeId) (hres : fn.results = #[.cell s T]) (b Tb : Nat) (cs : Array Value) (d : TypeDesc) (hB : Blk w b cs Tb)
    (ha : a.tmps.getD s undef = .pointer (some ⟨b, 0, none⟩)) (hu : P.underlying T = some d) (hd : d.isRow = true) (hi : (P.info? T).map (·.size) = some cs.size)
    (hdef : a.defers = []) (hR : R (.returned (.agg cs)) w) : bodyPost P fn R .ret a w := by
  have hload := run_loadVar_mid (P := P) w b 0 T cs.toList d hB.rangeAt hu hd (by rw [Array.length_toList]; exact hi)
  rw [Array.toArray_toList] at hload
  refine bodyPost_ret (v := .agg cs) ?_ hdef hR
  rw [Array.getD_eq_getD_getElem?] at ha
  simp [results, hres, ha, asAddr, hload]
theorem ret_cell2 {fn : Func} {R : Ending → World → Prop} {a : Act} {w : World} (s t : Nat) (T : TypeId) (hres : fn.results = #[.cell s T, .tmp t]) (b Tb : Nat) (cs : Array Value) (d : TypeDesc) (hB : Blk w b cs Tb)
    (ha : a.tmps.getD s undef = .pointer (some ⟨b, 0, none⟩)) (hu : P.underlying T = some d) (hd : d.isRow = true) (hi : (P.info? T).map (·.size) = some cs.size)
    (hdef : a.defers = []) (hR : R (.returned (.tuple #[.agg cs, a.tmps.getD t undef])) w) : bodyPost P fn R .ret a w := by
  have hload := run_loadVar_mid (P := P) w b 0 T cs.toList d hB.rangeAt hu hd (by rw [Array.length_toList]; exact hi)
  rw [Array.toArray_toList] at hload
  refine bodyPost_ret (v := .tuple #[.agg cs, a.tmps.getD t undef]) ?_ hdef hR
  rw [Array.getD_eq_getD_getElem?] at ha
  simp [results, hres, ha, asAddr, hload]
end
end Go.Proofs.YtfchbppfbepelaaGreat

/- Taking an operation of a drawn region first, its slot named: what reads; what its guard says no to. -/
namespace Go.Proofs.YtfchbppfbepelaaGreat

section
variable {P : Program} {md : Region.Mode} {ops : Array Oper} {Q : Exit → Act → World → Prop} {S : World → Prop}
theorem take_no (i : Nat) (d : Tmp) {oi : Oper} {fuel : Nat} {listed : Array Bool} {a : Act} {w : World} (hi : ops[i]? = some oi) (hd : oi.dst = some d)
    (hs : Region.noSelect ops = true) (hf : Region.free md ops listed i = true) (hr : (Region.ready md ops listed).contains i = true)
    (hQ : ∀ c a w, Q (.panic c) (a.put (some d) undef) w → Q (.panic c) a w) (hw : Region.wanted oi (yielded ops a.tmps) = false) (hS : S w)
    (h : wpAnyH P md ops Q S fuel (listed.setIfInBounds i true) (a.put (some d) undef) w) : wpAnyH P md ops Q S (fuel + 1) listed a w := by
  rw [← hd] at hQ h
  exact wpAnyH_take hi hs hf hr hQ (Or.inr ⟨hw, rfl⟩) hS h
theorem take_yes (i : Nat) (d : Tmp) {v : Value} {oi : Oper} {fuel : Nat} {listed : Array Bool} {a : Act} {w : World} (hi : ops[i]? = some oi) (hd : oi.dst = some d)
    (hs : Region.noSelect ops = true) (hf : Region.free md ops listed i = true) (hr : (Region.ready md ops listed).contains i = true)
    (hQ : ∀ c a w, Q (.panic c) (a.put (some d) v) w → Q (.panic c) a w) (hw : Region.wanted oi (yielded ops a.tmps) = true) (hS : S w)
    (hy : ∀ w, S w → (execOp a.eval oi).run P w = .ok (.value v) w)
    (h : wpAnyH P md ops Q S fuel (listed.setIfInBounds i true) (a.put (some d) v) w) : wpAnyH P md ops Q S (fuel + 1) listed a w := by
  rw [← hd] at hQ h
  exact wpAnyH_take hi hs hf hr hQ (Or.inl ⟨hw, hy⟩) hS h
end
end Go.Proofs.YtfchbppfbepelaaGreat

/- Rows of structs that the program made itself: their cells, an element read, an element changed. No program is spoken of here. -/
namespace Go.Proofs.YtfchbppfbepelaaGreat
open Go.RowKit
set_option linter.unusedVariables false
def rowF {α : Type} (f : α → List Value) (l : List α) : List Value := l.flatMap f
section
variable {α : Type} {f : α → List Value} {N : Nat}
theorem rowF_nil : rowF f [] = [] := rfl
theorem rowF_cons (x : α) (l : List α) : rowF f (x :: l) = f x ++ rowF f l := rfl
theorem rowF_append (l r : List α) : rowF f (l ++ r) = rowF f l ++ rowF f r := List.flatMap_append
theorem rowF_one (x : α) : rowF f [x] = f x := by simp [rowF]
theorem rowF_len (hN : ∀ x, (f x).length = N) (l : List α) : (rowF f l).length = l.length * N := by
  induction l with
  | nil => simp [rowF]
  | cons x r ih => rw [rowF_cons, List.length_append, ih, hN, List.length_cons, Nat.add_mul]; omega
theorem rowF_get (hN : ∀ x, (f x).length = N) (l : List α) (i : Nat) (x : α) (h : l[i]? = some x) (c : Nat) (hc : c < N) : (rowF f l)[i * N + c]? = (f x)[c]? := by
  induction l generalizing i with
  | nil => simp at h
  | cons u r ih =>
    rw [rowF_cons]
    cases i with
    | zero =>
      simp at h
      subst h
      rw [List.getElem?_append_left (by rw [hN]; omega)]
      simp
    | succ i =>
      rw [List.getElem?_append_right (by rw [hN, Nat.add_mul]; omega), hN]
      have : (i + 1) * N + c - N = i * N + c := by rw [Nat.add_mul]; omega
      rw [this]
      exact ih i (by simpa using h)
theorem rowF_set (hN : ∀ x, (f x).length = N) (l : List α) (i : Nat) (x x' : α) (h : l[i]? = some x) (c : Nat) (hc : c < N) (u : Value) (hx : f x' = (f x).set c u) : rowF f (l.set i x') = (rowF f l).set (i * N + c) u := by
  induction l generalizing i with
  | nil => simp at h
  | cons y r ih =>
    cases i with
    | zero =>
      simp at h
      subst h
      simp only [List.set_cons_zero, rowF_cons, hx]
      rw [Nat.zero_mul, Nat.zero_add, List.set_append_left _ _ (by rw [hN]; exact hc)]
    | succ i =>
      simp only [List.set_cons_succ, rowF_cons]
      rw [ih i (by simpa using h), List.set_append_right _ _ (by rw [hN, Nat.add_mul]; omega), hN]
      congr 2
      rw [Nat.add_mul]; omega
theorem rowF_one' (h1 : ∀ x, ∀ v, v ∈ f x → v.oneCell' = true) (l : List α) : ∀ v, v ∈ rowF f l → v.oneCell' = true := fun v hv => by
  obtain ⟨x, _, hx⟩ := List.mem_flatMap.1 hv
  exact h1 x v hx
/-- what a slice at A shows of a list -/
def RAt (w : World) (A : Option Addr) (N : Nat) (f : α → List Value) (l : List α) : Prop := ∀ i x, l[i]? = some x → ∃ q, A = some ⟨q, 0, none⟩ ∧ q < w.heap.size ∧ ∀ W, Fr [] w W → ∀ c v, (f x)[c]? = some v → W.cell? ⟨q, i * N + c, none⟩ = some v
theorem RAt.fr0 {w w' : World} {A : Option Addr} {l : List α} (h : RAt w A N f l) (hF : Fr [] w w') : RAt w' A N f l := fun i x hi => by
  obtain ⟨q, h1, h2, h3⟩ := h i x hi
  exact ⟨q, h1, Nat.lt_of_lt_of_le h2 hF.size, fun W hW => h3 W (hF.trans hW)⟩
theorem rown_caps {w : World} {base e sz n cap : Nat} {A : Option Addr} {ys : List Value} (h : w.ownsRow base e sz (.slice A n cap) n ys) : n ≤ cap ∧ cap ≤ maxLen := by
  rcases h.2 with ⟨h1, h2⟩ | ⟨g', cap', cur, h1, _, _, h4, h5, _⟩
  · injection h1 with _ _ e3; exact ⟨by omega, by unfold maxLen; omega⟩
  · injection h1 with _ _ e3; rw [e3]; exact ⟨h4, h5⟩
theorem rown_slice {w : World} {base e sz n : Nat} {v : Value} {ys : List Value} (h : w.ownsRow base e sz v n ys) : ∃ A cap, v = .slice A n cap := by
  rcases h.2 with ⟨h1, h2⟩ | ⟨g', cap, cur, h1, _⟩
  · exact ⟨none, 0, by rw [h1, h2]⟩
  · exact ⟨_, _, h1⟩
theorem rown_frS {w w' : World} {Sx : List Nat} {base e sz n : Nat} {v : Value} {ys : List Value} (h : w.ownsRow base e sz v n ys) (hF : Fr Sx w w') (hn : ∀ q, v.ownBlock = some q → q ∉ Sx) : w'.ownsRow base e sz v n ys :=
  ⟨h.1, h.2.imp id fun ⟨g, cap, cur, h1, h2, h3, h4⟩ => ⟨g, cap, cur, h1, h2, hF.blk (b := g) h3 (hn g (by rw [h1]; rfl)), h4⟩⟩
theorem rown_blk {w : World} {base e sz n : Nat} {v : Value} {xs : List Value} (h : w.ownsRow base e sz v n xs) : ∀ k, v.ownBlock = some k → ∃ cur, Blk w k cur e := fun k hk => by
  rcases h.2 with ⟨h1, _⟩ | ⟨g, cap, cur, h1, _, h3, _⟩
  · rw [h1] at hk; cases hk
  · rw [h1] at hk
    injection hk with hk
    subst hk
    exact ⟨cur, h3⟩
theorem rown_base {w : World} {base base' e sz n : Nat} {v : Value} {xs : List Value} (h : w.ownsRow base e sz v n xs) (hb : base' ≤ base) : w.ownsRow base' e sz v n xs :=
  ⟨h.1, h.2.imp id fun ⟨g, cap, cur, h1, h2, h3⟩ => ⟨g, cap, cur, h1, Nat.le_trans hb h2, h3⟩⟩
theorem RAt.of_own (hN : ∀ x, (f x).length = N) {w : World} {base e cap : Nat} {A : Option Addr} {l : List α} (h : w.ownsRow base e N (.slice A l.length cap) l.length (rowF f l)) : RAt w A N f l := fun i x hi => by
  have hil := (List.getElem?_eq_some_iff.1 hi).1
  obtain ⟨g, cap', hv, hg, hlt⟩ := h.form (by omega)
  cases hv
  refine ⟨g, rfl, hlt, fun W hW c v hv => ?_⟩
  have hc : c < N := by
    have := (List.getElem?_eq_some_iff.1 hv).1
    rwa [hN] at this
  rw [World.cell?_of_block (hW.block g hlt (by simp)), h.cellAt (i * N + c) (by
    have : (i + 1) * N ≤ l.length * N := Nat.mul_le_mul_right _ (by omega)
    rw [Nat.add_mul] at this
    omega), rowF_get hN l i x hi c hc, hv]
theorem Fr.of_row {w w' : World} {row : Option Nat} (hg : w.grownBy w' row) : Fr row.toList w w' :=
  ⟨hg.os, hg.tape, hg.output, hg.size, fun k hk hn => hg.block k hk (fun e => hn (by rw [← e]; simp))⟩
theorem Blk.neT {w : World} {a b T U : Nat} {cs ds : Array Value} (h : Blk w a cs T) (k : Blk w b ds U) (hT : T ≠ U) : a ≠ b := fun e => by
  subst e
  unfold Blk at h k
  rw [h] at k
  injection k with k
  injection k with _ k
  exact hT k
end
theorem wp_app {P : Program} (w : World) {o : Oper} {a : Act} {K : Act → World → Prop} {Q : Exit → Act → World → Prop} (d : Tmp) (hd : o.dst = some d) (s x : Operand) (t : TypeId)
    (ho : o.op = .call { callee := .builtin .append, args := #[s, x], argTypes := #[t, t] })
    (base : Nat) (e : TypeId) (i : TypeInfo) (z : Value) (size bytes : Nat) (ht : P.underlying t = some (.slice e)) (hi : P.info? e = some i) (hz : i.zero = some z)
    (hsize : i.size = size) (hby : i.bytes = bytes) (hzs : z.cells.size = size) (hsz : 0 < size)
    (v : Value) (n : Nat) (xs : List Value) (hs : a.eval s = v) (hown : w.ownsRow base e size v n xs)
    (B : Nat) (A : Option Addr) (m c : Nat) (news : List Value) (hx : a.eval x = .slice A m c) (hr : Reads w B size A m news) (h1 : ∀ u ∈ news, u.oneCell' = true)
    (h63 : n + m ≤ maxLen) (hbytes : (n + m) * bytes ≤ 140737488355328) (hbase : base ≤ w.heap.size)
    (h : ∀ v' w', w'.ownsRow base e size v' (n + m) (xs ++ news) → w.grownBy w' v.ownBlock → (v'.ownBlock = v.ownBlock ∨ v'.ownBlock = some w.heap.size) → K (a.put (some d) v') w') : o.wp P a w K Q := by
  rw [← hd] at h
  exact wp_append_any w s x t ho base e i z size bytes ht hi hz hsize hby hzs hsz v n xs hs hown B A m c news hx hr h1 h63 hbytes hbase h
end Go.Proofs.YtfchbppfbepelaaGreat

/- Lists that are kept: what the book's functions do to lists of lists, told of memory alone. No program is spoken of here. -/
namespace Go.Proofs.YtfchbppfbepelaaGreat
open Go.RowKit
set_option linter.unusedVariables false
section
variable {P : Program} (w : World)
/-- append, and the old slice stays what it was -/
theorem run_append_keep (base : Nat) (t ty e : TypeId) (i : TypeInfo) (z : Value) (size bytes : Nat) (ht : P.underlying t = some (.slice e)) (hi : P.info? e = some i) (hz : i.zero = some z)
    (hsize : i.size = size) (hby : i.bytes = bytes) (hzs : z.cells.size = size) (hsz : 0 < size)
    (v : Value) (n : Nat) (xs : List Value) (hown : w.ownsRow base e size v n xs)
    (A : Option Addr) (B m c : Nat) (news : List Value) (hr : Reads w B size A m news) (h1 : ∀ u ∈ news, u.oneCell' = true)
    (h63 : n + m ≤ maxLen) (hbytes : (n + m) * bytes ≤ 140737488355328) (hbase : base ≤ w.heap.size) :
    ∃ v' w', (Builtin.append_ #[t, t] ty #[v, .slice A m c]).run P w = .ok v' w' ∧ w'.ownsRow base e size v' (n + m) (xs ++ news) ∧ w.grownBy w' v.ownBlock ∧
      (v'.ownBlock = v.ownBlock ∨ v'.ownBlock = some w.heap.size) ∧ w'.ownsRow base e size v n xs := by
  obtain ⟨v', w', hrun, h2, h3, h4⟩ := run_append_any (P := P) w base t ty e i z size bytes ht hi hz hsize hby hzs hsz v n xs hown B A m c news hr h1 h63 hbytes hbase
  refine ⟨v', w', hrun, h2, h3, h4, ?_⟩
  rcases hown.2 with ⟨rfl, rfl⟩ | ⟨g, cap, cur, rfl, hb, hg, hnc, hcm, hcs, htk⟩
  · exact ⟨hown.1, Or.inl ⟨rfl, rfl⟩⟩
  · by_cases hm : m = 0
    · subst hm
      have hw : w' = w := by
        rcases A with _ | ad
        · have h5 := run_append_of_nil (P := P) w base t ty e i size ht hi (.slice (some ⟨g, 0, none⟩) n cap) n xs hown c
          rw [h5] at hrun
          injection hrun with _ h6
          exact h6.symm
        · have hnil : news = [] := List.eq_nil_of_length_eq_zero (by simpa using hr.1)
          subst hnil
          have hfit : n * i.size + ([] : List Value).length ≤ cur.size := by rw [hcs, hsize]; simp; exact Nat.mul_le_mul_right _ hnc
          have h5 := run_append_room (P := P) w t ty e i ht hi g n cap cur hg ad 0 c [] (by simp) (by simp) (by simp) (by omega) hfit
          rw [h5] at hrun
          injection hrun with _ h6
          rw [← h6]
          have e1 : (cur.toList.take (n * i.size) ++ ([] : List Value) ++ cur.toList.drop (n * i.size + ([] : List Value).length)).toArray = cur := by simp
          rw [e1]
          exact setRow_self w g cur e (0, 0) hg
      rw [hw]
      exact hown
    · obtain ⟨ad, rfl, _, hcell⟩ := hr.2 (by omega)
      by_cases hroom : n + m ≤ cap
      · have hfit : n * i.size + news.length ≤ cur.size := by rw [hr.1, hcs, hsize, ← Nat.add_mul]; exact Nat.mul_le_mul_right _ hroom
        have h5 := run_append_room (P := P) w t ty e i ht hi g n cap cur hg ad m c news (by rw [hsize]; exact hr.1) hcell h1 hroom hfit
        rw [h5] at hrun
        injection hrun with _ h6
        rw [← h6]
        refine ⟨hown.1, Or.inr ⟨g, cap, _, rfl, hb, setRow_heap w g cur _ e _ hg, hnc, hcm, ?_, ?_⟩⟩
        · simp only [List.size_toArray, List.length_append, List.length_take, List.length_drop, Array.length_toList]
          omega
        · have hl : (cur.toList.take (n * i.size)).length = n * size := by rw [hsize, htk]; exact hown.1
          simp only [List.append_assoc]
          rw [← hl, List.take_left', hsize, htk]
          rw [hsize]
      · have holds : ∀ j u, xs[j]? = some u → w.cell? ((⟨g, 0, none⟩ : Addr).add j) = some u := hown.cells (g := g) rfl
        have h63' : ((n + m : Nat) : Int) ≤ 9223372036854775807 := by unfold maxLen at h63; omega
        have h5 := run_append_grow (P := P) w t ty e i z ht hi hz ⟨g, 0, none⟩ n cap xs (by rw [hsize]; exact hown.1) holds ad m c news (by rw [hsize]; exact hr.1) hcell (by omega) h63' (growslice_fits (by omega) (by rw [hby]; exact hbytes))
        rw [h5] at hrun
        injection hrun with _ h6
        rw [← h6]
        exact (World.ownsRow.drew hown).alloc _
theorem wp_app_keep {o : Oper} {a : Act} {K : Act → World → Prop} {Q : Exit → Act → World → Prop} (d : Tmp) (hd : o.dst = some d) (s x : Operand) (t : TypeId)
    (ho : o.op = .call { callee := .builtin .append, args := #[s, x], argTypes := #[t, t] })
    (base : Nat) (e : TypeId) (i : TypeInfo) (z : Value) (size bytes : Nat) (ht : P.underlying t = some (.slice e)) (hi : P.info? e = some i) (hz : i.zero = some z)
    (hsize : i.size = size) (hby : i.bytes = bytes) (hzs : z.cells.size = size) (hsz : 0 < size)
    (v : Value) (n : Nat) (xs : List Value) (hs : a.eval s = v) (hown : w.ownsRow base e size v n xs)
    (B : Nat) (A : Option Addr) (m c : Nat) (news : List Value) (hx : a.eval x = .slice A m c) (hr : Reads w B size A m news) (h1 : ∀ u ∈ news, u.oneCell' = true)
    (h63 : n + m ≤ maxLen) (hbytes : (n + m) * bytes ≤ 140737488355328) (hbase : base ≤ w.heap.size)
    (h : ∀ v' w', w'.ownsRow base e size v' (n + m) (xs ++ news) → w.grownBy w' v.ownBlock → (v'.ownBlock = v.ownBlock ∨ v'.ownBlock = some w.heap.size) → w'.ownsRow base e size v n xs → K (a.put (some d) v') w') : o.wp P a w K Q := by
  rw [← hd] at h
  obtain ⟨v', w', hrun, h2, h3, h4, h5⟩ := run_append_keep (P := P) w base t o.type e i z size bytes ht hi hz hsize hby hzs hsz v n xs hown A B m c news hr h1 h63 hbytes hbase
  unfold Oper.wp execOp
  simp only [ho, resolve, invoke, builtin, Sem.run_bind, Sem.run_pure, Result.andThen_ok, List.map_toArray, List.map_cons, List.map_nil, hs, hx, hrun]
  exact h v' w' h2 h3 h4 h5
theorem wpList_app_keep {ops : Array Oper} {rest : List Oper} {o : Oper} {a : Act} {Q : Exit → Act → World → Prop} (hgd : o.guard = none) (s x : Operand) (t : TypeId)
    (ho : o.op = .call { callee := .builtin .append, args := #[s, x], argTypes := #[t, t] })
    (base : Nat) (e : TypeId) (i : TypeInfo) (z : Value) (size bytes : Nat) (ht : P.underlying t = some (.slice e)) (hi : P.info? e = some i) (hz : i.zero = some z)
    (hsize : i.size = size) (hby : i.bytes = bytes) (hzs : z.cells.size = size) (hsz : 0 < size)
    (v : Value) (n : Nat) (xs : List Value) (hs : a.eval s = v) (hown : w.ownsRow base e size v n xs)
    (B : Nat) (A : Option Addr) (m c : Nat) (news : List Value) (hx : a.eval x = .slice A m c) (hr : Reads w B size A m news) (h1 : ∀ u ∈ news, u.oneCell' = true)
    (h63 : n + m ≤ maxLen) (hbytes : (n + m) * bytes ≤ 140737488355328) (hbase : base ≤ w.heap.size)
    (h : ∀ v' w', w'.ownsRow base e size v' (n + m) (xs ++ news) → w.grownBy w' v.ownBlock → (v'.ownBlock = v.ownBlock ∨ v'.ownBlock = some w.heap.size) → w'.ownsRow base e size v n xs → wpList P ops Q rest (a.put o.dst v') w') : wpList P ops Q (o :: rest) a w :=
  wpList_plain hgd fun _ hK => by
    obtain ⟨v', w', hrun, h2, h3, h4, h5⟩ := run_append_keep (P := P) w base t o.type e i z size bytes ht hi hz hsize hby hzs hsz v n xs hown A B m c news hr h1 h63 hbytes hbase
    unfold Oper.wp execOp
    simp only [ho, resolve, invoke, builtin, Sem.run_bind, Sem.run_pure, Result.andThen_ok, List.map_toArray, List.map_cons, List.map_nil, hs, hx, hrun]
    exact hK _ _ (h v' w' h2 h3 h4 h5)
end
/-- the marks of a list i: those of the numbers a, a + 1, .. -/
def mks {α : Type} (mk : Nat → Nat → α) (i a n : Nat) : List α := (List.range n).map fun k => mk i (a + k)
theorem mks_len {α : Type} (mk : Nat → Nat → α) (i a n : Nat) : (mks mk i a n).length = n := by simp [mks]
theorem mks_zero {α : Type} (mk : Nat → Nat → α) (i a : Nat) : mks mk i a 0 = [] := rfl
theorem mks_succ {α : Type} (mk : Nat → Nat → α) (i a n : Nat) : mks mk i a (n + 1) = mks mk i a n ++ [mk i (a + n)] := by
  unfold mks
  rw [List.range_succ, List.map_append]
  rfl
theorem mks_app {α : Type} (mk : Nat → Nat → α) (i n m : Nat) : mks mk i 0 n ++ mks mk i n m = mks mk i 0 (n + m) := by
  induction m with
  | zero => simp [mks_zero]
  | succ m ih => rw [mks_succ, ← List.append_assoc, ih, ← Nat.add_assoc, mks_succ]; simp
theorem mks_get {α : Type} (mk : Nat → Nat → α) (i a n k : Nat) (h : k < n) : (mks mk i a n)[k]? = some (mk i (a + k)) := by
  unfold mks
  rw [List.getElem?_map, List.getElem?_range h]
  rfl
/-- a list that is kept -/
structure Bl (α : Type) where
  v : Value
  xs : List α
section
variable {α : Type} {f : α → List Value} {N : Nat} {E SL : TypeId}
structure Kd (E SL : TypeId) (N : Nat) (f : α → List Value) (w : World) (LV : Value) (k : List (Bl α)) : Prop where
  row : w.ownsRow 0 SL 1 LV k.length (k.map (·.v))
  ls : ∀ l, l ∈ k → w.ownsRow 0 E N l.v l.xs.length (rowF f l.xs)
  sm : ∀ l, l ∈ k → l.xs.length ≤ 2000
  ap : k.Pairwise fun a b => ∀ q, a.v.ownBlock = some q → b.v.ownBlock ≠ some q
/-- the copies -/
structure Ws (E SL : TypeId) (N : Nat) (f : α → List Value) (w : World) (WV : Value) (k : List (Bl α)) (ws : List Value) : Prop where
  len : ws.length = k.length
  row : w.ownsRow 0 SL 1 WV ws.length ws
  ls : ∀ (i : Nat) (l : Bl α) (u : Value), k[i]? = some l → ws[i]? = some u → w.ownsRow 0 E N u l.xs.length (rowF f l.xs)
/-- none of these blocks is of the kinds' types -/
def OffT (E SL : TypeId) (w : World) (S : List Nat) : Prop := ∀ q, q ∈ S → ∀ cur T, Blk w q cur T → T ≠ E ∧ T ≠ SL
theorem OffT.nil (E SL : TypeId) (w : World) : OffT E SL w [] := fun q hq => by cases hq
theorem rown_off {w w' : World} {S : List Nat} {base sz n : Nat} {v : Value} {ys : List Value} {T : TypeId} (h : w.ownsRow base T sz v n ys) (hF : Fr S w w') (hS : ∀ q, q ∈ S → ∀ cur U, Blk w q cur U → U ≠ T) : w'.ownsRow base T sz v n ys :=
  rown_frS h hF fun q hq hqs => by
    obtain ⟨cur, hc⟩ := rown_blk h q hq
    exact hS q hqs cur _ hc rfl
theorem Kd.off {w w' : World} {S : List Nat} {LV : Value} {k : List (Bl α)} (h : Kd E SL N f w LV k) (hF : Fr S w w') (hS : OffT E SL w S) : Kd E SL N f w' LV k :=
  ⟨rown_off h.row hF fun q hq cur U hB => (hS q hq cur U hB).2, fun l hl => rown_off (h.ls l hl) hF fun q hq cur U hB => (hS q hq cur U hB).1, h.sm, h.ap⟩
theorem Kd.fr0 {w w' : World} {LV : Value} {k : List (Bl α)} (h : Kd E SL N f w LV k) (hF : Fr [] w w') : Kd E SL N f w' LV k := h.off hF (OffT.nil _ _ _)
theorem Ws.off {w w' : World} {S : List Nat} {WV : Value} {k : List (Bl α)} {ws : List Value} (h : Ws E SL N f w WV k ws) (hF : Fr S w w') (hS : OffT E SL w S) : Ws E SL N f w' WV k ws :=
  ⟨h.len, rown_off h.row hF fun q hq cur U hB => (hS q hq cur U hB).2, fun i l u hl hu => rown_off (h.ls i l u hl hu) hF fun q hq cur U hB => (hS q hq cur U hB).1⟩
theorem Ws.fr0 {w w' : World} {WV : Value} {k : List (Bl α)} {ws : List Value} (h : Ws E SL N f w WV k ws) (hF : Fr [] w w') : Ws E SL N f w' WV k ws := h.off hF (OffT.nil _ _ _)
/-- an own row's list, at a place: the slice's address and its cells -/
theorem Kd.at_ {w : World} {LV : Value} {k : List (Bl α)} (h : Kd E SL N f w LV k) {i : Nat} {l : Bl α} (hi : k[i]? = some l) : ∃ q cap, LV = .slice (some ⟨q, 0, none⟩) k.length cap ∧ q < w.heap.size ∧ ∀ W, Fr [] w W → W.cell? ⟨q, i, none⟩ = some l.v := by
  have hil := (List.getElem?_eq_some_iff.1 hi).1
  obtain ⟨q, cap, hv, _, hlt⟩ := h.row.form (by omega)
  refine ⟨q, cap, hv, hlt, fun W hW => ?_⟩
  have h1 := h.row
  rw [hv] at h1
  rw [World.cell?_of_block (hW.block q hlt (by simp)), h1.cellAt i (by omega), List.getElem?_map, hi]
  rfl
theorem Ws.at_ {w : World} {WV : Value} {k : List (Bl α)} {ws : List Value} (h : Ws E SL N f w WV k ws) {i : Nat} {u : Value} (hi : ws[i]? = some u) : ∃ q cap, WV = .slice (some ⟨q, 0, none⟩) ws.length cap ∧ q < w.heap.size ∧ ∀ W, Fr [] w W → W.cell? ⟨q, i, none⟩ = some u := by
  have hil := (List.getElem?_eq_some_iff.1 hi).1
  obtain ⟨q, cap, hv, _, hlt⟩ := h.row.form (by omega)
  refine ⟨q, cap, hv, hlt, fun W hW => ?_⟩
  have h1 := h.row
  rw [hv] at h1
  rw [World.cell?_of_block (hW.block q hlt (by simp)), h1.cellAt i (by omega), hi]
theorem rat_of (hN : ∀ x, (f x).length = N) {w : World} {base : Nat} {v : Value} {l : List α} (h : w.ownsRow base E N v l.length (rowF f l)) : ∃ A cap, v = .slice A l.length cap ∧ l.length ≤ cap ∧ cap ≤ maxLen ∧ RAt w A N f l := by
  obtain ⟨A, cap, rfl⟩ := rown_slice h
  have := rown_caps h
  exact ⟨A, cap, rfl, this.1, this.2, RAt.of_own hN h⟩
end
section
variable {α : Type} {f : α → List Value} {N : Nat} {E SL : TypeId}
/-- lists that may share memory -/
structure Ls (E SL : TypeId) (N : Nat) (f : α → List Value) (w : World) (LV : Value) (k : List (Bl α)) : Prop where
  row : w.ownsRow 0 SL 1 LV k.length (k.map (·.v))
  ls : ∀ l, l ∈ k → w.ownsRow 0 E N l.v l.xs.length (rowF f l.xs)
theorem Kd.toLs {w : World} {LV : Value} {k : List (Bl α)} (h : Kd E SL N f w LV k) : Ls E SL N f w LV k := ⟨h.row, h.ls⟩
theorem Ls.off {w w' : World} {S : List Nat} {LV : Value} {k : List (Bl α)} (h : Ls E SL N f w LV k) (hF : Fr S w w') (hS : OffT E SL w S) : Ls E SL N f w' LV k :=
  ⟨rown_off h.row hF fun q hq cur U hB => (hS q hq cur U hB).2, fun l hl => rown_off (h.ls l hl) hF fun q hq cur U hB => (hS q hq cur U hB).1⟩
theorem Ls.fr0 {w w' : World} {LV : Value} {k : List (Bl α)} (h : Ls E SL N f w LV k) (hF : Fr [] w w') : Ls E SL N f w' LV k := h.off hF (OffT.nil _ _ _)
theorem Ls.at_ {w : World} {LV : Value} {k : List (Bl α)} (h : Ls E SL N f w LV k) {i : Nat} {l : Bl α} (hi : k[i]? = some l) : ∃ q cap, LV = .slice (some ⟨q, 0, none⟩) k.length cap ∧ q < w.heap.size ∧ ∀ W, Fr [] w W → W.cell? ⟨q, i, none⟩ = some l.v := by
  have hil := (List.getElem?_eq_some_iff.1 hi).1
  obtain ⟨q, cap, hv, _, hlt⟩ := h.row.form (by omega)
  refine ⟨q, cap, hv, hlt, fun W hW => ?_⟩
  have h1 := h.row
  rw [hv] at h1
  rw [World.cell?_of_block (hW.block q hlt (by simp)), h1.cellAt i (by omega), List.getElem?_map, hi]
  rfl
/-- is each list marked by its own marks? -/
def Mk (mk : Nat → Nat → α) (k : List (Bl α)) : Prop := ∀ (i : Nat) l, k[i]? = some l → l.xs = mks mk i 0 l.xs.length
/-- the first j lists marked -/
def putT (mk : Nat → Nat → α) (k : List (Bl α)) (j : Nat) : List (Bl α) := k.mapIdx fun i l => if i < j then ⟨l.v, mks mk i 0 l.xs.length⟩ else l
theorem putT_zero (mk : Nat → Nat → α) (k : List (Bl α)) : putT mk k 0 = k := by
  apply List.ext_getElem?
  intro i
  simp [putT]
theorem putT_len (mk : Nat → Nat → α) (k : List (Bl α)) (j : Nat) : (putT mk k j).length = k.length := by simp [putT]
theorem putT_at (mk : Nat → Nat → α) (k : List (Bl α)) (j : Nat) {l : Bl α} (h : k[j]? = some l) : (putT mk k j)[j]? = some l := by simp [putT, h]
theorem putT_set (mk : Nat → Nat → α) (k : List (Bl α)) (j : Nat) {l : Bl α} (h : k[j]? = some l) : (putT mk k j).set j ⟨l.v, mks mk j 0 l.xs.length⟩ = putT mk k (j + 1) := by
  have hj := (List.getElem?_eq_some_iff.1 h).1
  apply List.ext_getElem?
  intro i
  rw [List.getElem?_set]
  by_cases hij : j = i
  · subst hij
    rw [if_pos rfl, if_pos (by rw [putT_len]; exact hj)]
    simp [putT, h]
  · rw [if_neg hij]
    simp only [putT, List.getElem?_mapIdx]
    cases k[i]? with
    | none => rfl
    | some u =>
      have : (i < j) ↔ (i < j + 1) := by omega
      simp [this]
theorem putT_mk (mk : Nat → Nat → α) (k : List (Bl α)) : Mk mk (putT mk k k.length) := fun i l hi => by
  have hil := (List.getElem?_eq_some_iff.1 hi).1
  rw [putT_len] at hil
  simp only [putT, List.getElem?_mapIdx] at hi
  rw [List.getElem?_eq_getElem hil] at hi
  simp [hil] at hi
  subst hi
  simp [mks_len]
theorem set_mks (mk : Nat → Nat → α) (j m : Nat) (xs : List α) (h : m < xs.length) : (mks mk j 0 m ++ xs.drop m).set m (mk j m) = mks mk j 0 (m + 1) ++ xs.drop (m + 1) := by
  rw [List.set_append_right _ _ (by rw [mks_len]; omega), mks_len, Nat.sub_self, List.drop_eq_getElem_cons h, List.set_cons_zero, mks_succ, Nat.zero_add, List.append_assoc]
  rfl
theorem rown_setCells {base sz n cap g : Nat} {e : TypeId} : ∀ (vs : List Value) (o : Nat) (w : World) (xs : List Value), w.ownsRow base e sz (.slice (some ⟨g, 0, none⟩) n cap) n xs → o + vs.length ≤ xs.length →
    (w.setCells g o vs).ownsRow base e sz (.slice (some ⟨g, 0, none⟩) n cap) n (xs.take o ++ vs ++ xs.drop (o + vs.length))
  | [], o, w, xs, h, hl => by simpa [World.setCells] using h
  | v :: r, o, w, xs, h, hl => by
    rw [List.length_cons] at hl
    have h1 := (h.stored o v).1
    have h2 := rown_setCells r (o + 1) (w.setCell ⟨g, o, none⟩ v) (xs.set o v) h1 (by rw [List.length_set]; omega)
    rw [World.setCells]
    have ho : o < xs.length := by omega
    have e1 : (xs.set o v).take (o + 1) = xs.take o ++ [v] := by
      rw [List.take_add_one, List.take_set_of_le (by omega), List.getElem?_set_self ho]
      rfl
    have e2 : (xs.set o v).drop (o + 1 + r.length) = xs.drop (o + (v :: r).length) := by
      rw [List.drop_set_of_lt (by omega), List.length_cons]
      congr 1
      omega
    rw [e1, e2] at h2
    simpa using h2
theorem rowF_put (hN : ∀ x, (f x).length = N) (l : List α) (m : Nat) (y : α) (hm : m < l.length) : (rowF f l).take (m * N) ++ f y ++ (rowF f l).drop (m * N + (f y).length) = rowF f (l.set m y) := by
  rw [List.set_eq_take_append_cons_drop, if_pos hm, rowF_append, rowF_cons]
  have h1 : (rowF f (l.take m)).length = m * N := by rw [rowF_len hN, List.length_take, Nat.min_eq_left (by omega)]
  have h2 : (rowF f (l.take (m + 1))).length = m * N + (f y).length := by rw [rowF_len hN, List.length_take, Nat.min_eq_left (by omega), hN, Nat.add_mul]; omega
  have e1 : (rowF f l).take (m * N) = rowF f (l.take m) := by
    conv => lhs; rw [← List.take_append_drop m l, rowF_append]
    rw [← h1, List.take_left']
    rfl
  have e2 : (rowF f l).drop (m * N + (f y).length) = rowF f (l.drop (m + 1)) := by
    conv => lhs; rw [← List.take_append_drop (m + 1) l, rowF_append]
    rw [← h2, List.drop_left']
    rfl
  rw [e1, e2, List.append_assoc]
/-- an element of a list is stored -/
theorem Kd.store (hN : ∀ x, (f x).length = N) (hE : E ≠ SL) {w : World} {LV : Value} {k : List (Bl α)} (h : Kd E SL N f w LV k) {j : Nat} {l : Bl α} (hj : k[j]? = some l) {q n cap : Nat} (hv : l.v = .slice (some ⟨q, 0, none⟩) n cap) (m : Nat) (hm : m < l.xs.length) (y : α) :
    Kd E SL N f (w.setCells q (m * N) (f y)) LV (k.set j ⟨l.v, l.xs.set m y⟩) := by
  have hjl := (List.getElem?_eq_some_iff.1 hj).1
  have hl := h.ls l (List.mem_of_getElem? hj)
  have hB : ∃ cur, Blk w q cur E := rown_blk hl q (by rw [hv]; rfl)
  have hF : Fr [q] w (w.setCells q (m * N) (f y)) := (Fr.refl [q] w).setCells _ _ _ (Or.inr (by simp))
  have hn : n = l.xs.length := by
    obtain ⟨A, c, e⟩ := rown_slice hl
    rw [hv] at e
    injection e
  have hmap : (k.set j ⟨l.v, l.xs.set m y⟩).map (·.v) = k.map (·.v) := by
    apply List.ext_getElem?
    intro i
    rw [List.getElem?_map, List.getElem?_map, List.getElem?_set]
    by_cases hij : j = i
    · subst hij
      rw [if_pos rfl, if_pos hjl, hj]; rfl
    · rw [if_neg hij]
  refine ⟨?_, fun u hu => ?_, fun u hu => ?_, ?_⟩
  · rw [hmap, List.length_set]
    exact rown_frS h.row hF fun q' hq' hqs => by
      obtain ⟨cur, hc⟩ := hB
      obtain ⟨cur', hc'⟩ := rown_blk h.row q' hq'
      simp at hqs
      subst hqs
      exact hc.neT hc' hE rfl
  · obtain ⟨i, hi⟩ := List.mem_iff_getElem?.1 hu
    rw [List.getElem?_set] at hi
    by_cases hij : j = i
    · rw [if_pos hij, if_pos hjl] at hi
      injection hi with hi
      subst hi
      simp only [List.length_set]
      have h1 := hl
      rw [hv, ← hn] at h1 ⊢
      have h2 := rown_setCells (f y) (m * N) w _ h1 (by
        rw [rowF_len hN, hN]
        have : (m + 1) * N ≤ l.xs.length * N := Nat.mul_le_mul_right _ hm
        rw [Nat.add_mul] at this
        omega)
      rw [rowF_put hN l.xs m y hm] at h2
      exact h2
    · rw [if_neg hij] at hi
      refine rown_frS (h.ls u (List.mem_of_getElem? hi)) hF fun q' hq' hqs => ?_
      simp at hqs
      subst hqs
      have hap := List.pairwise_iff_getElem.1 h.ap
      obtain ⟨hil, rfl⟩ := List.getElem?_eq_some_iff.1 hi
      obtain ⟨_, rfl⟩ := List.getElem?_eq_some_iff.1 hj
      have hq0 : k[j].v.ownBlock = some q' := by rw [hv]; rfl
      rcases Nat.lt_or_gt_of_ne hij with h1 | h1
      · exact hap j i hjl hil h1 q' hq0 hq'
      · exact hap i j hil hjl h1 q' hq' hq0
  · obtain ⟨i, hi⟩ := List.mem_iff_getElem?.1 hu
    rw [List.getElem?_set] at hi
    by_cases hij : j = i
    · rw [if_pos hij, if_pos hjl] at hi
      injection hi with hi
      subst hi
      simp only [List.length_set]
      exact h.sm l (List.mem_of_getElem? hj)
    · rw [if_neg hij] at hi
      exact h.sm u (List.mem_of_getElem? hi)
  · have hap := h.ap
    rw [List.pairwise_iff_getElem] at hap ⊢
    intro a b ha hb hab q' h1 h2
    rw [List.length_set] at ha hb
    have key : ∀ (c : Nat) (hc : c < (k.set j ⟨l.v, l.xs.set m y⟩).length), (k.set j ⟨l.v, l.xs.set m y⟩)[c].v = (k[c]'(by rw [List.length_set] at hc; exact hc)).v := fun c hc => by
      have h3 := congrArg (fun (x : List Value) => x[c]?) hmap
      simp only [List.getElem?_map] at h3
      rw [List.getElem?_eq_getElem hc, List.getElem?_eq_getElem (by rw [List.length_set] at hc; exact hc)] at h3
      simpa using h3
    rw [key] at h1 h2
    exact hap a b ha hb hab q' h1 h2
/-- two slices of one block: the shorter one is still what it was -/
theorem rown_shrink {w w' : World} (hN0 : 0 < N) {base n m c d g : Nat} {xs ys : List Value} (h : w.ownsRow base E N (.slice (some ⟨g, 0, none⟩) n c) n xs) (h1 : w.ownsRow base E N (.slice (some ⟨g, 0, none⟩) m d) m (xs ++ ys)) (h2 : w'.ownsRow base E N (.slice (some ⟨g, 0, none⟩) m d) m (xs ++ ys)) :
    w'.ownsRow base E N (.slice (some ⟨g, 0, none⟩) n c) n xs := by
  rcases h.2 with ⟨h5, _⟩ | ⟨g0, c0, cur, h5, hb, hg, hnc, hcm, hcs, htk⟩
  · cases h5
  · injection h5 with h6 h7 h8
    injection h6 with h6
    injection h6 with h6
    subst h6 h8
    rcases h1.2 with ⟨h9, _⟩ | ⟨g1, d1, cur1, h9, _, hg1, hnd, _, hcs1, _⟩
    · cases h9
    · injection h9 with h10 h11 h12
      injection h10 with h10
      injection h10 with h10
      subst h10 h12
      rw [hg] at hg1
      injection hg1 with hg1
      injection hg1 with hg1
      subst hg1
      have hcd : c = d := Nat.eq_of_mul_eq_mul_right hN0 (hcs.symm.trans hcs1)
      subst hcd
      rcases h2.2 with ⟨h9, _⟩ | ⟨g2, d2, cur2, h9, hb2, hg2, hnd2, hcm2, hcs2, htk2⟩
      · cases h9
      · injection h9 with h10 h11 h12
        injection h10 with h10
        injection h10 with h10
        subst h10 h12
        have hnm : n * N ≤ m * N := by
          have a1 := h1.1
          have a2 := h.1
          rw [List.length_append] at a1
          omega
        refine ⟨h.1, Or.inr ⟨g, c, cur2, rfl, hb2, hg2, hnc, hcm, hcs2, ?_⟩⟩
        have h13 : (cur2.toList.take (m * N)).take (n * N) = xs := by
          rw [htk2, ← h.1, List.take_left']
          rfl
        rwa [List.take_take, Nat.min_eq_left hnm] at h13
/-- a list that grows, beside the others -/
structure Gw (E SL : TypeId) (N : Nat) (f : α → List Value) (w : World) (LV : Value) (k gs : List (Bl α)) (rs j : Nat) (l : Bl α) (lv : Value) (zs : List α) : Prop where
  kd : Kd E SL N f w LV k
  gl : ∀ g, g ∈ gs → w.ownsRow 0 E N g.v g.xs.length (rowF f g.xs)
  gb : ∀ g, g ∈ gs → ∀ q, g.v.ownBlock = some q → q < rs ∧ l.v.ownBlock ≠ some q
  jl : k[j]? = some l
  kb : ∀ u, u ∈ k → ∀ q, u.v.ownBlock = some q → q < rs
  rz : rs ≤ w.heap.size
  lo : w.ownsRow 0 E N lv (l.xs ++ zs).length (rowF f (l.xs ++ zs))
  lb : lv.ownBlock = l.v.ownBlock ∨ (∀ q, lv.ownBlock = some q → rs ≤ q)
theorem Gw.fr0 {w w' : World} {LV : Value} {k gs : List (Bl α)} {rs j : Nat} {l : Bl α} {lv : Value} {zs : List α} (h : Gw E SL N f w LV k gs rs j l lv zs) (hF : Fr [] w w') : Gw E SL N f w' LV k gs rs j l lv zs :=
  ⟨h.kd.fr0 hF, fun g hg => rown_frS (h.gl g hg) hF (by simp), h.gb, h.jl, h.kb, Nat.le_trans h.rz hF.size, rown_frS h.lo hF (by simp), h.lb⟩
theorem Gw.step (hE : E ≠ SL) (hN0 : 0 < N) {w w' : World} {LV : Value} {k gs : List (Bl α)} {rs j : Nat} {l : Bl α} {lv v' : Value} {zs news : List α} (h : Gw E SL N f w LV k gs rs j l lv zs)
    (ho : w'.ownsRow 0 E N v' (l.xs ++ zs ++ news).length (rowF f (l.xs ++ zs ++ news))) (hg : w.grownBy w' lv.ownBlock) (hb : v'.ownBlock = lv.ownBlock ∨ v'.ownBlock = some w.heap.size) (hk : w'.ownsRow 0 E N lv (l.xs ++ zs).length (rowF f (l.xs ++ zs))) :
    Gw E SL N f w' LV k gs rs j l v' (zs ++ news) := by
  have hF := Fr.of_row hg
  have hjl := (List.getElem?_eq_some_iff.1 h.jl).1
  have offE : ∀ q, q ∈ lv.ownBlock.toList → ∃ cur, Blk w q cur E := fun q hq => rown_blk h.lo q (by simpa using hq)
  have hls : ∀ u, u ∈ k → w'.ownsRow 0 E N u.v u.xs.length (rowF f u.xs) := fun u hu => by
    by_cases hne : ∃ q, u.v.ownBlock = some q ∧ lv.ownBlock = some q
    · obtain ⟨q, hq1, hq2⟩ := hne
      -- the same block: it is list j
      have hlb : lv.ownBlock = l.v.ownBlock := by
        rcases h.lb with h1 | h1
        · exact h1
        · exact absurd (h.kb u hu q hq1) (Nat.not_lt.2 (h1 q hq2))
      have hul : u = l := by
        obtain ⟨i, hi⟩ := List.mem_iff_getElem?.1 hu
        obtain ⟨hil, rfl⟩ := List.getElem?_eq_some_iff.1 hi
        obtain ⟨_, hl2⟩ := List.getElem?_eq_some_iff.1 h.jl
        have hap := List.pairwise_iff_getElem.1 h.kd.ap
        have hlq : (k[j]'hjl).v.ownBlock = some q := by rw [hl2, ← hlb, hq2]
        rcases Nat.lt_trichotomy i j with h1 | h1 | h1
        · exact absurd hlq (hap i j hil hjl h1 q hq1)
        · subst h1; exact hl2
        · exact absurd hq1 (hap j i hjl hil h1 q hlq)
      subst hul
      have a1 := h.kd.ls u hu
      obtain ⟨A, c, e1⟩ := rown_slice a1
      obtain ⟨A2, d, e2⟩ := rown_slice h.lo
      rw [e1] at hq1
      rw [e2] at hq2
      have hA : A = some ⟨q, 0, none⟩ := by
        rcases a1.2 with ⟨h5, _⟩ | ⟨g, cap, cur, h5, _⟩
        · rw [e1] at h5; injection h5 with h5; rw [h5] at hq1; cases hq1
        · rw [e1] at h5; injection h5 with h5; rw [h5] at hq1 ⊢; injection hq1 with hq1; rw [← hq1]
      have hA2 : A2 = some ⟨q, 0, none⟩ := by
        rcases h.lo.2 with ⟨h5, _⟩ | ⟨g, cap, cur, h5, _⟩
        · rw [e2] at h5; injection h5 with h5; rw [h5] at hq2; cases hq2
        · rw [e2] at h5; injection h5 with h5; rw [h5] at hq2 ⊢; injection hq2 with hq2; rw [← hq2]
      have b1 := h.lo
      have b2 := hk
      rw [rowF_append] at b1 b2
      rw [e2, hA2] at b1 b2
      rw [e1, hA] at a1 ⊢
      exact rown_shrink hN0 a1 b1 b2
    · exact rown_frS (h.kd.ls u hu) hF fun q hq hqs => hne ⟨q, hq, by simpa using hqs⟩
  refine ⟨⟨rown_frS h.kd.row hF fun q hq hqs => ?_, hls, h.kd.sm, h.kd.ap⟩, fun g hgm => rown_frS (h.gl g hgm) hF fun q hq hqs => ?_, h.gb, h.jl, h.kb, Nat.le_trans h.rz hg.size, by rw [← List.append_assoc]; exact ho, ?_⟩
  · obtain ⟨cur, hc⟩ := offE q hqs
    obtain ⟨cur', hc'⟩ := rown_blk h.kd.row q hq
    exact hc.neT hc' hE rfl
  · have h1 := h.gb g hgm q hq
    have h2 : lv.ownBlock = some q := by simpa using hqs
    rcases h.lb with h3 | h3
    · exact h1.2 (h3 ▸ h2)
    · exact absurd h1.1 (Nat.not_lt.2 (h3 q h2))
  · rcases hb with h1 | h1
    · rw [h1]; exact h.lb
    · right
      intro q hq
      rw [h1] at hq
      cases hq
      exact h.rz
end
end Go.Proofs.YtfchbppfbepelaaGreat

/- What every law's frame here uses. -/
namespace Go.Proofs.YtfchbppfbepelaaGreat
theorem own : ownKnob Tryz.prog.godebug = none := by kernel_rfl
theorem laidOut : laidOutB Tryz.prog = true := by kernel_rfl
theorem reach_string {s : ByteArray} (h : s.data.toList.length ≤ reachBytes) : s.size ≤ 140737488351232 := by
  rw [Array.length_toList] at h
  exact h
end Go.Proofs.YtfchbppfbepelaaGreat

/- The book in memory. -/
namespace Go.Proofs.YtfchbppfbepelaaGreat
open Go.RowKit
set_option linter.unusedVariables false
/-- the book's cells -/
def bkC (F : Nat → Value) : Array Value := #[F 0, F 1, F 2, F 3, F 4, F 5, F 6, F 7, F 8, F 9, F 10, F 11, F 12, F 13, F 14, F 15, F 16, F 17, F 18, F 19, F 20, F 21, F 22, F 23, F 24, F 25, F 26, F 27, F 28, F 29, F 30, F 31, F 32, F 33, F 34, F 35]
theorem _root_.Go.Proofs.YtfchbppfbepelaaGreat.Blk.fr0b {w w' : World} {b T : Nat} {cs : Array Value} (h : Blk w b cs T) (hF : Fr [] w w') : Blk w' b cs T := hF.blk h (by simp)
def upd (F : Nat → Value) (i : Nat) (v : Value) : Nat → Value := fun j => if j = i then v else F j
theorem bkC_upd (F : Nat → Value) (i : Nat) (v : Value) (h : i < 36) : (bkC F).setIfInBounds i v = bkC (upd F i v) := by
  have : ∀ i : Fin 36, (bkC F).setIfInBounds i v = bkC (upd F i v) := fun i => by
    match i with
    | ⟨0, _⟩ | ⟨1, _⟩ | ⟨2, _⟩ | ⟨3, _⟩ | ⟨4, _⟩ | ⟨5, _⟩ | ⟨6, _⟩ | ⟨7, _⟩ | ⟨8, _⟩ | ⟨9, _⟩ | ⟨10, _⟩ | ⟨11, _⟩ | ⟨12, _⟩ | ⟨13, _⟩ | ⟨14, _⟩ | ⟨15, _⟩ | ⟨16, _⟩ | ⟨17, _⟩ | ⟨18, _⟩ | ⟨19, _⟩ | ⟨20, _⟩ | ⟨21, _⟩ | ⟨22, _⟩ | ⟨23, _⟩ | ⟨24, _⟩ | ⟨25, _⟩ | ⟨26, _⟩ | ⟨27, _⟩ | ⟨28, _⟩ | ⟨29, _⟩ | ⟨30, _⟩ | ⟨31, _⟩ | ⟨32, _⟩ | ⟨33, _⟩ | ⟨34, _⟩ | ⟨35, _⟩ => rfl
    | ⟨n + 36, h⟩ => exact absurd h (by omega)
  exact this ⟨i, h⟩
theorem upd_same (F : Nat → Value) (i : Nat) (v : Value) : upd F i v i = v := by simp [upd]
theorem upd_other (F : Nat → Value) (i j : Nat) (v : Value) (h : j ≠ i) : upd F i v j = F j := by simp [upd, h]
section
variable {α : Type} {f : α → List Value} {N : Nat} {E SL : TypeId}
/-- a kind of the book: its lists, and the copies -/
def KB (E SL : TypeId) (N : Nat) (f : α → List Value) (w : World) (LV WV : Value) (k : List (Bl α)) : Prop :=
  ∃ ws, Kd E SL N f w LV k ∧ Ws E SL N f w WV k ws ∧ k.length ≤ 250 ∧ ∀ q, LV.ownBlock = some q → WV.ownBlock ≠ some q
theorem KB.off {w w' : World} {S : List Nat} {LV WV : Value} {k : List (Bl α)} (h : KB E SL N f w LV WV k) (hF : Fr S w w') (hS : OffT E SL w S) : KB E SL N f w' LV WV k := by
  obtain ⟨ws, h1, h2, h3, h4⟩ := h
  exact ⟨ws, h1.off hF hS, h2.off hF hS, h3, h4⟩
theorem KB.fr0 {w w' : World} {LV WV : Value} {k : List (Bl α)} (h : KB E SL N f w LV WV k) (hF : Fr [] w w') : KB E SL N f w' LV WV k := h.off hF (OffT.nil _ _ _)
theorem KB.nil (w : World) : KB (α := α) E SL N f w (.slice none 0 0) (.slice none 0 0) [] :=
  ⟨[], ⟨World.ownsRow_nil _ _ _ _, (by simp), (by simp), List.Pairwise.nil⟩, ⟨rfl, World.ownsRow_nil _ _ _ _, by simp⟩, by simp, by simp [Value.ownBlock]⟩
theorem KB.blk {w : World} {LV WV : Value} {k : List (Bl α)} (h : KB E SL N f w LV WV k) : ∀ q, q ∈ LV.ownBlock.toList ++ WV.ownBlock.toList → ∃ cur, Blk w q cur SL := fun q hq => by
  obtain ⟨ws, h1, h2, h3, h4⟩ := h
  rcases List.mem_append.1 hq with h5 | h5
  · exact rown_blk h1.row q (by simpa using h5)
  · exact rown_blk h2.row q (by simpa using h5)
/-- what adding a list leaves -/
def AddP (E SL : TypeId) (N : Nat) (f : α → List Value) (T : TypeId) (w : World) (b : Nat) (Fb : Nat → Value) (I J : Nat) (k : List (Bl α)) (nw : Bl α) (w' : World) : Prop :=
  ∃ Fb' k', Blk w' b (bkC Fb') T ∧ (∀ j, j ≠ I → j ≠ J → Fb' j = Fb j) ∧ KB E SL N f w' (Fb' I) (Fb' J) k' ∧ (k' = k ∨ k' = k ++ [nw]) ∧ Fr (b :: ((Fb I).ownBlock.toList ++ (Fb J).ownBlock.toList)) w w' ∧
    ∀ q, q ∈ (Fb' I).ownBlock.toList ++ (Fb' J).ownBlock.toList → q ∈ (Fb I).ownBlock.toList ++ (Fb J).ownBlock.toList ∨ w.heap.size ≤ q
theorem Kd.snoc {w : World} {LV LV' : Value} {k : List (Bl α)} (h : Kd E SL N f w LV k) {nw : Bl α} (ho : w.ownsRow 0 SL 1 LV' (k.length + 1) (k.map (·.v) ++ [nw.v])) (hn : w.ownsRow 0 E N nw.v nw.xs.length (rowF f nw.xs)) (hs : nw.xs.length ≤ 2000)
    (hap : ∀ u, u ∈ k → ∀ q, u.v.ownBlock = some q → nw.v.ownBlock ≠ some q) : Kd E SL N f w LV' (k ++ [nw]) := by
  refine ⟨by rw [List.length_append, List.map_append]; exact ho, fun l hl => ?_, fun l hl => ?_, ?_⟩
  · rcases List.mem_append.1 hl with h1 | h1
    · exact h.ls l h1
    · simp at h1; subst h1; exact hn
  · rcases List.mem_append.1 hl with h1 | h1
    · exact h.sm l h1
    · simp at h1; subst h1; exact hs
  · rw [List.pairwise_append]
    exact ⟨h.ap, List.pairwise_singleton _ _, fun a ha c hc => by simp at hc; subst hc; exact hap a ha⟩
theorem Ws.snoc {w : World} {WV WV' : Value} {k : List (Bl α)} {ws : List Value} (h : Ws E SL N f w WV k ws) {nw : Bl α} {u : Value} (ho : w.ownsRow 0 SL 1 WV' (ws.length + 1) (ws ++ [u])) (hn : w.ownsRow 0 E N u nw.xs.length (rowF f nw.xs)) : Ws E SL N f w WV' (k ++ [nw]) (ws ++ [u]) := by
  refine ⟨by rw [List.length_append, List.length_append, h.len]; rfl, by rw [List.length_append]; exact ho, fun i l x hl hx => ?_⟩
  by_cases hi : i < k.length
  · rw [List.getElem?_append_left hi] at hl
    rw [List.getElem?_append_left (by rw [h.len]; exact hi)] at hx
    exact h.ls i l x hl hx
  · have hi2 : i = k.length := by
      have := (List.getElem?_eq_some_iff.1 hl).1
      rw [List.length_append] at this
      simp at this
      omega
    subst hi2
    rw [List.getElem?_append_right (Nat.le_refl _)] at hl
    rw [List.getElem?_append_right (by rw [h.len]; exact Nat.le_refl _), h.len] at hx
    simp at hl hx
    subst hl hx
    exact hn
theorem rown_there {w : World} {base n cap q : Nat} {e : TypeId} {xs : List Value} (h : w.ownsRow base e N (.slice (some ⟨q, 0, none⟩) n cap) n xs) (t : Nat) (ht : t < n) : w.there q (t * N) N := fun j hj => by
  have hlt : t * N + j < n * N := by
    have : (t + 1) * N ≤ n * N := Nat.mul_le_mul_right _ ht
    rw [Nat.add_mul] at this
    omega
  rw [h.cellAt _ hlt]
  refine ⟨?_, h.frozenAt _⟩
  rw [List.getElem?_eq_getElem (by rw [h.1]; exact hlt)]
  rfl
/-- frames over the lists' own blocks -/
def FrL (k : List (Bl α)) (w w' : World) : Prop := ∃ S, Fr S w w' ∧ ∀ q, q ∈ S → ∃ l, l ∈ k ∧ l.v.ownBlock = some q
theorem FrL.of {k : List (Bl α)} {w w' : World} (h : Fr [] w w') : FrL k w w' := ⟨[], h, fun q hq => by cases hq⟩
theorem FrL.trans {k : List (Bl α)} {a b c : World} (h : FrL k a b) (h2 : FrL k b c) : FrL k a c := by
  obtain ⟨S, hF, hS⟩ := h
  obtain ⟨S2, hF2, hS2⟩ := h2
  refine ⟨S ++ S2, (hF.mono (by intro q hq; exact List.mem_append_left _ hq)).trans (hF2.mono (by intro q hq; exact List.mem_append_right _ hq)), fun q hq => ?_⟩
  rcases List.mem_append.1 hq with h | h
  · exact hS q h
  · exact hS2 q h
theorem FrL.size {k : List (Bl α)} {w w' : World} (h : FrL k w w') : w.heap.size ≤ w'.heap.size := by
  obtain ⟨S, hF, _⟩ := h
  exact hF.size
/-- a block of another type stays -/
theorem FrL.blk {k : List (Bl α)} {w w' : World} {LV : Value} (h : FrL k w w') (hk : Kd E SL N f w LV k) {b T : Nat} {cs : Array Value} (hB : Blk w b cs T) (hT : T ≠ E) : Blk w' b cs T := by
  obtain ⟨S, hF, hS⟩ := h
  refine hF.blk hB fun hb => ?_
  obtain ⟨l, hl, hq⟩ := hS b hb
  obtain ⟨cur, hc⟩ := rown_blk (hk.ls l hl) b hq
  exact hB.neT hc hT rfl
end
section
variable {α : Type} {f : α → List Value} {N : Nat} {E SL : TypeId}
theorem add_close {T : TypeId} (hE : E ≠ SL) (hT1 : T ≠ E) (hT2 : T ≠ SL) {w w1 W2 v v9 W4 : World} {b I J : Nat} {Fb : Nat → Value} {k : List (Bl α)} {ws : List Value} {nw : Bl α} {u V1 V9 : Value} (hIJ : I ≠ J) (hI : I < 36) (hJ : J < 36)
    (hB : Blk w b (bkC Fb) T) (hK : Kd E SL N f w (Fb I) k) (hW : Ws E SL N f w (Fb J) k ws) (hlen : k.length < 250) (hd : ∀ q, (Fb I).ownBlock = some q → (Fb J).ownBlock ≠ some q)
    (hx : w.ownsRow 0 E N nw.v nw.xs.length (rowF f nw.xs)) (hsm : nw.xs.length ≤ 2000) (hap : ∀ x, x ∈ k → ∀ q, x.v.ownBlock = some q → nw.v.ownBlock ≠ some q)
    (hO1 : w1.ownsRow 0 SL 1 V1 (k.length + 1) (k.map (·.v) ++ [nw.v])) (hF1 : Fr (Fb I).ownBlock.toList w w1) (hb1 : ∀ q, V1.ownBlock = some q → (Fb I).ownBlock = some q ∨ w.heap.size ≤ q)
    (hF2 : Fr [b] w1 W2) (hB2 : Blk W2 b (bkC (upd Fb I V1)) T) (hZ : Fr [] W2 v) (hu : v.ownsRow 0 E N u nw.xs.length (rowF f nw.xs))
    (hO9 : v9.ownsRow 0 SL 1 V9 (ws.length + 1) (ws ++ [u])) (hF9 : Fr (Fb J).ownBlock.toList v v9) (hb9 : V9.ownBlock = (Fb J).ownBlock ∨ V9.ownBlock = some v.heap.size)
    (hF4 : Fr [b] v9 W4) (hB4 : Blk W4 b (bkC (upd (upd Fb I V1) J V9)) T) : AddP E SL N f T w b Fb I J k nw W4 := by
  have eI : (upd (upd Fb I V1) J V9) I = V1 := by rw [upd_other _ _ _ _ hIJ, upd_same]
  have eJ : (upd (upd Fb I V1) J V9) J = V9 := upd_same _ _ _
  have sz1 := hF1.size
  have sz2 := hF2.size
  have sz3 := hZ.size
  have sz4 := hF9.size
  have lI : ∀ q, (Fb I).ownBlock = some q → ∃ cur, Blk w q cur SL := rown_blk hK.row
  have lJ : ∀ q, (Fb J).ownBlock = some q → ∃ cur, Blk w q cur SL := rown_blk hW.row
  have blkB1 : Blk w1 b (bkC Fb) T := hF1.blk hB fun hq => by
    obtain ⟨cur, hc⟩ := lI b (by simpa using hq)
    exact hB.neT hc hT2 rfl
  -- rows of E stay
  have keepE1 : ∀ {vv : Value} {n : Nat} {ys : List Value}, w.ownsRow 0 E N vv n ys → v.ownsRow 0 E N vv n ys := fun h => by
    have a1 := rown_off h hF1 fun q hq cur U hb => by
      obtain ⟨cur', hc⟩ := lI q (by simpa using hq)
      intro e
      subst e
      exact hb.neT hc hE rfl
    have a2 := rown_off a1 hF2 fun q hq cur U hb => by
      simp at hq
      subst hq
      intro e
      subst e
      exact blkB1.neT hb hT1 rfl
    exact rown_frS a2 hZ (by simp)
  have keepE2 : ∀ {vv : Value} {n : Nat} {ys : List Value}, v.ownsRow 0 E N vv n ys → W4.ownsRow 0 E N vv n ys := fun {vv n ys} h => by
    have hJv : ∀ q, (Fb J).ownBlock = some q → ∃ cur, Blk v q cur SL := fun q hq => by
      obtain ⟨cur, hc⟩ := lJ q hq
      have c1 := hF1.blk hc fun hm => hd q (by simpa using hm) hq
      have c2 := hF2.blk c1 (by
        simp
        intro e
        subst e
        exact blkB1.neT c1 hT2 rfl)
      exact ⟨cur, hZ.blk c2 (by simp)⟩
    have a1 := rown_off h hF9 fun q hq cur U hb => by
      obtain ⟨cur', hc⟩ := hJv q (by simpa using hq)
      intro e
      subst e
      exact hb.neT hc hE rfl
    refine rown_frS a1 hF4 fun q hq hm => ?_
    simp at hm
    subst hm
    obtain ⟨cur, hc⟩ := rown_blk (rown_frS a1 (Fr.refl [] v9) (by simp)) q hq
    have hb9 : Blk v9 q (bkC (upd Fb I V1)) T := hF9.blk (hZ.blk hB2 (by simp)) fun hm => by
      obtain ⟨cur', hc'⟩ := hJv q (by simpa using hm)
      exact (hZ.blk hB2 (by simp)).neT hc' hT2 rfl
    exact hb9.neT hc hT1 rfl
  have hJlt : ∀ q, (Fb J).ownBlock = some q → q < w.heap.size := fun q hq => by
    obtain ⟨cur, hc⟩ := lJ q hq
    exact hc.lt
  have hIlt : ∀ q, (Fb I).ownBlock = some q → q < w.heap.size := fun q hq => by
    obtain ⟨cur, hc⟩ := lI q hq
    exact hc.lt
  have hbb9 : Blk v9 b (bkC (upd Fb I V1)) T := hF9.blk (hZ.blk hB2 (by simp)) fun hm => by
    have hq : (Fb J).ownBlock = some b := by simpa using hm
    obtain ⟨cur, hc⟩ := lJ b hq
    exact hB.neT hc hT2 rfl
  -- the first row at the end
  have hV1w : W4.ownsRow 0 SL 1 V1 (k.length + 1) (k.map (·.v) ++ [nw.v]) := by
    have nb : ∀ q, V1.ownBlock = some q → q ≠ b := fun q hq e => by
      subst e
      obtain ⟨cur, hc⟩ := rown_blk hO1 q hq
      exact blkB1.neT hc hT2 rfl
    have a1 := rown_frS hO1 hF2 fun q hq => by simpa using nb q hq
    have a2 := rown_frS a1 hZ (by simp)
    have a3 := rown_frS a2 hF9 fun q hq hm => by
      have hm' : (Fb J).ownBlock = some q := by simpa using hm
      rcases hb1 q hq with h | h
      · exact hd q h hm'
      · exact absurd (hJlt q hm') (Nat.not_lt.2 h)
    exact rown_frS a3 hF4 fun q hq => by simpa using nb q hq
  have hV9w : W4.ownsRow 0 SL 1 V9 (ws.length + 1) (ws ++ [u]) := rown_frS hO9 hF4 fun q hq => by
    simp
    intro e
    subst e
    obtain ⟨cur, hc⟩ := rown_blk hO9 q hq
    exact hbb9.neT hc hT2 rfl
  refine ⟨upd (upd Fb I V1) J V9, k ++ [nw], hB4, fun j h1 h2 => by rw [upd_other _ _ _ _ h2, upd_other _ _ _ _ h1], ?_, Or.inr rfl, ?_, ?_⟩
  · rw [eI, eJ]
    refine ⟨ws ++ [u], ?_, ?_, by rw [List.length_append]; simp; omega, ?_⟩
    · have hk4 : Kd E SL N f W4 V1 (k ++ [nw]) := by
        refine ⟨by rw [List.length_append, List.map_append]; exact hV1w, fun l hl => ?_, fun l hl => ?_, ?_⟩
        · rcases List.mem_append.1 hl with h1 | h1
          · exact keepE2 (keepE1 (hK.ls l h1))
          · simp at h1; subst h1; exact keepE2 (keepE1 hx)
        · rcases List.mem_append.1 hl with h1 | h1
          · exact hK.sm l h1
          · simp at h1; subst h1; exact hsm
        · rw [List.pairwise_append]
          exact ⟨hK.ap, List.pairwise_singleton _ _, fun a ha c hc => by simp at hc; subst hc; exact hap a ha⟩
      exact hk4
    · have hws : Ws E SL N f W4 V9 (k ++ [nw]) (ws ++ [u]) := by
        refine ⟨by rw [List.length_append, List.length_append, hW.len]; rfl, by rw [List.length_append]; exact hV9w, fun i l x hl hx2 => ?_⟩
        by_cases hi : i < k.length
        · rw [List.getElem?_append_left hi] at hl
          rw [List.getElem?_append_left (by rw [hW.len]; exact hi)] at hx2
          exact keepE2 (keepE1 (hW.ls i l x hl hx2))
        · have hi2 : i = k.length := by
            have := (List.getElem?_eq_some_iff.1 hl).1
            rw [List.length_append] at this
            simp at this
            omega
          subst hi2
          rw [List.getElem?_append_right (Nat.le_refl _)] at hl
          rw [List.getElem?_append_right (by rw [hW.len]; exact Nat.le_refl _), hW.len] at hx2
          simp at hl hx2
          subst hl hx2
          exact keepE2 hu
      exact hws
    · intro q h1 h2
      rcases hb1 q h1 with h3 | h3
      · rcases hb9 with h4 | h4
        · exact hd q h3 (h4 ▸ h2)
        · rw [h4] at h2
          injection h2 with h2
          have := hIlt q h3
          omega
      · rcases hb9 with h4 | h4
        · have := hJlt q (h4 ▸ h2)
          omega
        · rw [h4] at h2
          injection h2 with h2
          obtain ⟨cur, hc⟩ := rown_blk hO1 q h1
          have := hc.lt
          omega
  · have m1 := hF1.mono (S' := b :: ((Fb I).ownBlock.toList ++ (Fb J).ownBlock.toList)) (fun x hx => List.mem_cons_of_mem _ (List.mem_append_left _ hx))
    have m2 := hF2.mono (S' := b :: ((Fb I).ownBlock.toList ++ (Fb J).ownBlock.toList)) (by simp)
    have m3 := hZ.mono (S' := b :: ((Fb I).ownBlock.toList ++ (Fb J).ownBlock.toList)) (by simp)
    have m4 := hF9.mono (S' := b :: ((Fb I).ownBlock.toList ++ (Fb J).ownBlock.toList)) (fun x hx => List.mem_cons_of_mem _ (List.mem_append_right _ hx))
    have m5 := hF4.mono (S' := b :: ((Fb I).ownBlock.toList ++ (Fb J).ownBlock.toList)) (by simp)
    exact (((m1.trans m2).trans m3).trans m4).trans m5
  · rw [eI, eJ]
    intro q hq
    rcases List.mem_append.1 hq with h1 | h1
    · rcases hb1 q (by simpa using h1) with h2 | h2
      · exact Or.inl (List.mem_append_left _ (by simpa using h2))
      · exact Or.inr h2
    · have h1' : V9.ownBlock = some q := by simpa using h1
      rcases hb9 with h2 | h2
      · exact Or.inl (List.mem_append_right _ (by simpa [h2] using h1'))
      · rw [h2] at h1'
        injection h1' with h1'
        right
        omega
end
end Go.Proofs.YtfchbppfbepelaaGreat

/- Marking the book's lists: memory alone. -/
namespace Go.Proofs.YtfchbppfbepelaaGreat
open Go.RowKit
set_option linter.unusedVariables false
section
variable {α : Type} {f : α → List Value} {N : Nat} {E SL : TypeId}
/-- marking list j: its first t elements are marked -/
structure PutI (E SL : TypeId) (N : Nat) (f : α → List Value) (mk : Nat → Nat → α) (w : World) (LV : Value) (k : List (Bl α)) (rs j t : Nat) (l : Bl α) (mv : Value) : Prop where
  jl : k[j]? = some l
  kd : Kd E SL N f w LV ((putT mk k j).set j ⟨l.v, mks mk j 0 t ++ l.xs.drop t⟩)
  mr : w.ownsRow rs E N mv l.xs.length (rowF f (mks mk j 0 l.xs.length))
  kb : ∀ q, l.v.ownBlock = some q → q < rs
theorem PutI.fr0 {mk : Nat → Nat → α} {w w' : World} {LV mv : Value} {k : List (Bl α)} {rs j t : Nat} {l : Bl α} (h : PutI E SL N f mk w LV k rs j t l mv) (hF : Fr [] w w') : PutI E SL N f mk w' LV k rs j t l mv :=
  ⟨h.jl, h.kd.fr0 hF, rown_frS h.mr hF (by simp), h.kb⟩
theorem set_self {β : Type} (l : List β) (j : Nat) (x : β) (h : l[j]? = some x) : l.set j x = l := by
  apply List.ext_getElem?
  intro i
  rw [List.getElem?_set]
  by_cases hij : j = i
  · subst hij
    rw [if_pos rfl, if_pos (List.getElem?_eq_some_iff.1 h).1, h]
  · rw [if_neg hij]
theorem PutI.start {mk : Nat → Nat → α} {w w' : World} {LV mv : Value} {k : List (Bl α)} {rs j : Nat} {l : Bl α} (h : Kd E SL N f w LV (putT mk k j)) (hl : k[j]? = some l) (hF : Fr [] w w') (hm : w'.ownsRow w.heap.size E N mv l.xs.length (rowF f (mks mk j 0 l.xs.length))) (hrs : rs ≤ w.heap.size) (hb : ∀ q, l.v.ownBlock = some q → q < rs) : PutI E SL N f mk w' LV k rs j 0 l mv :=
  ⟨hl, by
    rw [mks_zero, List.nil_append, List.drop_zero, set_self _ _ ⟨l.v, l.xs⟩ (putT_at mk k j hl)]
    exact h.fr0 hF, rown_base hm hrs, hb⟩
theorem PutI.done {mk : Nat → Nat → α} {w : World} {LV mv : Value} {k : List (Bl α)} {rs j : Nat} {l : Bl α} (h : PutI E SL N f mk w LV k rs j l.xs.length l mv) : Kd E SL N f w LV (putT mk k (j + 1)) := by
  have := h.kd
  rw [List.drop_length, List.append_nil, putT_set mk k j h.jl] at this
  exact this
theorem PutI.at_ {mk : Nat → Nat → α} {w : World} {LV mv : Value} {k : List (Bl α)} {rs j t : Nat} {l : Bl α} (hN : ∀ x, (f x).length = N) (hE : E ≠ SL) (h : PutI E SL N f mk w LV k rs j t l mv) (ht : t < l.xs.length) :
    ∃ q cap qm cm ql cl, l.v = .slice (some ⟨q, 0, none⟩) l.xs.length cap ∧ mv = .slice (some ⟨qm, 0, none⟩) l.xs.length cm ∧ LV = .slice (some ⟨ql, 0, none⟩) k.length cl ∧ l.xs.length ≤ cap ∧ cap ≤ maxLen ∧ l.xs.length ≤ cm ∧ cm ≤ maxLen ∧ k.length ≤ cl ∧ cl ≤ maxLen ∧
      (∀ W, Fr [q] w W → W.cell? ⟨ql, j, none⟩ = some l.v ∧ ∀ (i : Nat) v, (f (mk j t))[i]? = some v → W.cell? ⟨qm, t * N + i, none⟩ = some v) ∧ (∀ W, Fr [] w W → W.there q (t * N) N) ∧ (∃ cur, Blk w q cur E) ∧ l.v.ownBlock = some q ∧
      ∀ W, Fr [] w W → PutI E SL N f mk (W.setCells q (t * N) (f (mk j t))) LV k rs j (t + 1) l mv ∧ Fr [q] w (W.setCells q (t * N) (f (mk j t))) := by
  have hj := (List.getElem?_eq_some_iff.1 h.jl).1
  have hjs : ((putT mk k j).set j ⟨l.v, mks mk j 0 t ++ l.xs.drop t⟩)[j]? = some ⟨l.v, mks mk j 0 t ++ l.xs.drop t⟩ := by
    rw [List.getElem?_set, if_pos rfl, if_pos (by rw [putT_len]; exact hj)]
  have hlen : (mks mk j 0 t ++ l.xs.drop t).length = l.xs.length := by rw [List.length_append, mks_len, List.length_drop]; omega
  have hl := h.kd.ls _ (List.mem_of_getElem? hjs)
  simp only [hlen] at hl
  obtain ⟨q, cap, hv, hc1, hq⟩ := hl.form (by omega)
  have hlr := hl
  rw [hv] at hlr
  obtain ⟨qm, cm, hvm, hc2, hqm⟩ := h.mr.form (by omega)
  have hmr := h.mr
  rw [hvm] at hmr
  have hkl := h.kd.row
  rw [List.length_set, putT_len] at hkl
  obtain ⟨ql, cl, hvl, hc3, hql⟩ := hkl.form (by omega)
  rw [hvl] at hkl
  have hB : ∃ cur, Blk w q cur E := rown_blk hlr q rfl
  have hqrs : q < rs := h.kb q (by rw [hv]; rfl)
  have hmq : qm ≠ q := by
    have := hc2
    omega
  have hlq : ql ≠ q := by
    obtain ⟨cur, hc⟩ := hB
    obtain ⟨cur', hc'⟩ := rown_blk hkl ql rfl
    intro e
    subst e
    exact hc'.neT hc (Ne.symm hE) rfl
  refine ⟨q, cap, qm, cm, ql, cl, hv, hvm, hvl, (rown_caps hlr).1, (rown_caps hlr).2, (rown_caps hmr).1, (rown_caps hmr).2, (rown_caps hkl).1, (rown_caps hkl).2, fun W hW => ⟨?_, fun i v hi => ?_⟩, fun W hW => rown_there (rown_frS hlr hW (by simp)) t ht, hB, by rw [hv]; rfl, fun W hW => ?_⟩
  · rw [World.cell?_of_block (hW.block ql hql (by simpa using hlq)), hkl.cellAt j (by omega), List.map_set, List.getElem?_set, if_pos rfl, if_pos (by rw [List.length_map, putT_len]; exact hj)]
  · have hiN : i < N := by
      have := (List.getElem?_eq_some_iff.1 hi).1
      rw [hN] at this
      exact this
    have hlt : t * N + i < l.xs.length * N := by
      have : (t + 1) * N ≤ l.xs.length * N := Nat.mul_le_mul_right _ ht
      rw [Nat.add_mul] at this
      omega
    rw [World.cell?_of_block (hW.block qm hqm (by simpa using hmq)), hmr.cellAt _ hlt]
    rw [rowF_get hN _ t (mk j t) (by rw [mks_get mk j 0 _ t ht, Nat.zero_add]) i hiN]
    exact hi
  · have hk2 := (h.kd.fr0 hW).store hN hE hjs (q := q) (n := l.xs.length) (cap := cap) hv t (by simp only [hlen]; exact ht) (mk j t)
    have hF : Fr [q] W (W.setCells q (t * N) (f (mk j t))) := (Fr.refl [q] W).setCells _ _ _ (Or.inr (by simp))
    refine ⟨⟨h.jl, ?_, rown_frS (rown_frS h.mr hW (by simp)) hF fun q' hq' => ?_, h.kb⟩, (hW.mono (by simp)).trans hF⟩
    · rw [List.set_set, set_mks mk j t l.xs ht] at hk2
      exact hk2
    · rw [hvm] at hq'
      injection hq' with hq'
      subst hq'
      simpa using hmq
end
end Go.Proofs.YtfchbppfbepelaaGreat

/- Growing the book's lists: memory alone. -/
namespace Go.Proofs.YtfchbppfbepelaaGreat
open Go.RowKit
set_option linter.unusedVariables false
section
variable {α : Type} {f : α → List Value} {N : Nat} {E SL : TypeId}
theorem mks_cat (mk : Nat → Nat → α) (i a n m : Nat) : mks mk i a n ++ mks mk i (a + n) m = mks mk i a (n + m) := by
  induction m with
  | zero => simp [mks_zero]
  | succ m ih => rw [mks_succ, ← List.append_assoc, ih, ← Nat.add_assoc, mks_succ, Nat.add_assoc]
theorem FrL.more {k : List (Bl α)} {a w w' : World} {S : List Nat} (h : FrL k a w) (hF : Fr S w w') (hS : ∀ q, q ∈ S → (∃ l, l ∈ k ∧ l.v.ownBlock = some q) ∨ a.heap.size ≤ q) : FrL k a w' := by
  obtain ⟨S0, h0, hS0⟩ := h
  refine ⟨S0 ++ S.filter (fun q => decide (q < a.heap.size)), (h0.mono (fun x hx => List.mem_append_left _ hx)).sub hF fun x hx => ?_, fun q hq => ?_⟩
  · by_cases hlt : x < a.heap.size
    · exact Or.inl (List.mem_append_right _ (List.mem_filter.2 ⟨hx, by simpa using hlt⟩))
    · exact Or.inr (Nat.not_lt.1 hlt)
  · rcases List.mem_append.1 hq with h1 | h1
    · exact hS0 q h1
    · obtain ⟨h2, h3⟩ := List.mem_filter.1 h1
      rcases hS q h2 with h4 | h4
      · exact h4
      · simp at h3; omega
/-- the lists grown so far -/
structure GrO (E SL : TypeId) (N : Nat) (f : α → List Value) (mk : Nat → Nat → α) (w0 w : World) (LV : Value) (k gs : List (Bl α)) (ov : Value) (j : Nat) : Prop where
  kd : Kd E SL N f w LV k
  fr : FrL k w0 w
  row : w.ownsRow w0.heap.size SL 1 ov j (gs.map (·.v))
  gl : ∀ g, g ∈ gs → w.ownsRow 0 E N g.v g.xs.length (rowF f g.xs)
  gm : Mk mk gs
  gn : gs.length = j
  gx : ∀ g, g ∈ gs → g.xs.length ≤ 2072
  gb : ∀ g, g ∈ gs → ∀ q, g.v.ownBlock = some q → (∃ (i : Nat) (u : Bl α), i < j ∧ k[i]? = some u ∧ u.v.ownBlock = some q) ∨ w0.heap.size ≤ q
  kb : ∀ u, u ∈ k → ∀ q, u.v.ownBlock = some q → q < w0.heap.size
  lvb : ∀ q, LV.ownBlock = some q → q < w0.heap.size
theorem GrO.start {mk : Nat → Nat → α} {w : World} {LV : Value} {k : List (Bl α)} (h : Kd E SL N f w LV k) : GrO E SL N f mk w w LV k [] (.slice none 0 0) 0 :=
  ⟨h, FrL.of (Fr.refl _ _), World.ownsRow_nil _ _ _ _, by simp, fun i l hi => by simp at hi, rfl, by simp, by simp, fun u hu q hq => by
    obtain ⟨cur, hc⟩ := rown_blk (h.ls u hu) q hq
    exact hc.lt, fun q hq => by
    obtain ⟨cur, hc⟩ := rown_blk h.row q hq
    exact hc.lt⟩
/-- the list that grows now -/
structure GrI (E SL : TypeId) (N : Nat) (f : α → List Value) (w0 w : World) (LV : Value) (k gs : List (Bl α)) (ov : Value) (rs j : Nat) (l : Bl α) (lv : Value) (zs : List α) : Prop where
  gw : Gw E SL N f w LV k gs rs j l lv zs
  fr : FrL k w0 w
  row : w.ownsRow w0.heap.size SL 1 ov j (gs.map (·.v))
  rs0 : w0.heap.size ≤ rs
theorem GrI.fr0 {w0 w w' : World} {LV ov lv : Value} {k gs : List (Bl α)} {rs j : Nat} {l : Bl α} {zs : List α} (h : GrI E SL N f w0 w LV k gs ov rs j l lv zs) (hF : Fr [] w w') : GrI E SL N f w0 w' LV k gs ov rs j l lv zs :=
  ⟨h.gw.fr0 hF, h.fr.trans (FrL.of hF), rown_frS h.row hF (by simp), h.rs0⟩
theorem GrO.enter {mk : Nat → Nat → α} {w0 w : World} {LV ov : Value} {k gs : List (Bl α)} {j : Nat} {l : Bl α} (h : GrO E SL N f mk w0 w LV k gs ov j) (hl : k[j]? = some l) : GrI E SL N f w0 w LV k gs ov w.heap.size j l l.v [] := by
  have hml := List.mem_of_getElem? hl
  refine ⟨⟨h.kd, h.gl, fun g hg q hq => ⟨?_, fun hlq => ?_⟩, hl, fun u hu q hq => Nat.lt_of_lt_of_le (h.kb u hu q hq) h.fr.size, Nat.le_refl _, by rw [List.append_nil]; exact h.kd.ls l hml, Or.inl rfl⟩, h.fr, h.row, h.fr.size⟩
  · obtain ⟨cur, hc⟩ := rown_blk (h.gl g hg) q hq
    exact hc.lt
  · rcases h.gb g hg q hq with ⟨i, u, hi, hu, hq2⟩ | h1
    · obtain ⟨hil, rfl⟩ := List.getElem?_eq_some_iff.1 hu
      obtain ⟨hjl, rfl⟩ := List.getElem?_eq_some_iff.1 hl
      exact List.pairwise_iff_getElem.1 h.kd.ap i j hil hjl hi q hq2 hlq
    · have := h.kb l hml q hlq
      omega
theorem GrI.step (hE : E ≠ SL) (hN0 : 0 < N) {mk : Nat → Nat → α} {w0 w v w' : World} {LV ov lv v' : Value} {k gs : List (Bl α)} {rs j n m : Nat} {l : Bl α} (h : GrI E SL N f w0 w LV k gs ov rs j l lv (mks mk j l.xs.length n)) (hZ : Fr [] w v)
    (ho : v.ownsRow 0 E N lv (l.xs.length + n) (rowF f (l.xs ++ mks mk j l.xs.length n)) → w'.ownsRow 0 E N v' (l.xs.length + n + m) (rowF f (l.xs ++ mks mk j l.xs.length n) ++ rowF f (mks mk j (l.xs.length + n) m)) ∧ v.grownBy w' lv.ownBlock ∧ (v'.ownBlock = lv.ownBlock ∨ v'.ownBlock = some v.heap.size) ∧ w'.ownsRow 0 E N lv (l.xs.length + n) (rowF f (l.xs ++ mks mk j l.xs.length n))) :
    GrI E SL N f w0 w' LV k gs ov rs j l v' (mks mk j l.xs.length (n + m)) := by
  have hv := h.fr0 hZ
  have hlen : (l.xs ++ mks mk j l.xs.length n).length = l.xs.length + n := by rw [List.length_append, mks_len]
  have hlo := hv.gw.lo
  rw [hlen] at hlo
  obtain ⟨h1, h2, h3, h4⟩ := ho hlo
  have hF := Fr.of_row h2
  have hg := hv.gw.step hE hN0 (v' := v') (news := mks mk j (l.xs.length + n) m) (w' := w') (by
    rw [rowF_append, List.length_append, mks_len, hlen]
    exact h1) h2 h3 (by rw [hlen]; exact h4)
  rw [mks_cat] at hg
  refine ⟨hg, hv.fr.more hF fun q hq => ?_, rown_frS hv.row hF fun q hq hqs => ?_, hv.rs0⟩
  · have hq' : lv.ownBlock = some q := by simpa using hq
    rcases hv.gw.lb with h5 | h5
    · exact Or.inl ⟨l, List.mem_of_getElem? hv.gw.jl, by rw [← h5]; exact hq'⟩
    · exact Or.inr (Nat.le_trans hv.rs0 (h5 q hq'))
  · obtain ⟨cur, hc⟩ := rown_blk hv.gw.lo q (by simpa using hqs)
    obtain ⟨cur', hc'⟩ := rown_blk hv.row q hq
    exact hc.neT hc' hE rfl
theorem GrI.leave (hE : E ≠ SL) {mk : Nat → Nat → α} {w0 w0' w v w' : World} {LV ov lv v' : Value} {k gs : List (Bl α)} {rs j : Nat} {l : Bl α} (h0 : GrO E SL N f mk w0 w0' LV k gs ov j) (hk : Mk mk k) (h : GrI E SL N f w0 w LV k gs ov rs j l lv (mks mk j l.xs.length 72)) (hZ : Fr [] w v)
    (ho : w'.ownsRow w0.heap.size SL 1 v' (j + 1) (gs.map (·.v) ++ [lv])) (hg : v.grownBy w' ov.ownBlock) : GrO E SL N f mk w0 w' LV k (gs ++ [⟨lv, mks mk j 0 (l.xs.length + 72)⟩]) v' (j + 1) := by
  have hv := h.fr0 hZ
  have hF := Fr.of_row hg
  have hml := List.mem_of_getElem? hv.gw.jl
  have hxs : l.xs ++ mks mk j l.xs.length 72 = mks mk j 0 (l.xs.length + 72) := by
    conv => lhs; rw [hk j l hv.gw.jl]
    rw [mks_len]
    exact mks_app mk j _ _
  have hlo := hv.gw.lo
  rw [hxs] at hlo
  have offE : ∀ {x : Value} {n : Nat} {ys : List Value}, v.ownsRow 0 E N x n ys → w'.ownsRow 0 E N x n ys := fun hx => rown_frS hx hF fun q hq hqs => by
    obtain ⟨cur, hc⟩ := rown_blk hx q hq
    obtain ⟨cur', hc'⟩ := rown_blk hv.row q (by simpa using hqs)
    exact hc.neT hc' hE rfl
  have hov : ∀ q, ov.ownBlock = some q → w0.heap.size ≤ q := fun q hq => own_new hv.row q hq
  refine ⟨⟨rown_frS hv.gw.kd.row hF fun q hq hqs => ?_, fun u hu => offE (hv.gw.kd.ls u hu), hv.gw.kd.sm, hv.gw.kd.ap⟩, hv.fr.more hF fun q hq => Or.inr (hov q (by simpa using hq)), by rw [List.map_append]; exact ho, fun g hg => ?_, fun i g hi => ?_, by rw [List.length_append, h0.gn]; rfl, fun g hg => ?_, fun g hg q hq => ?_, h0.kb, h0.lvb⟩
  · have h1 := hov q (by simpa using hqs)
    have := h0.lvb q hq
    omega
  · rcases List.mem_append.1 hg with h1 | h1
    · exact offE (hv.gw.gl g h1)
    · simp at h1; subst h1; exact offE hlo
  · rw [List.getElem?_append] at hi
    split at hi
    · exact h0.gm i g hi
    · rename_i hge
      have hil := (List.getElem?_eq_some_iff.1 hi).1
      simp at hil
      have : i = j := by have := h0.gn; omega
      subst this
      rw [h0.gn] at hi
      simp at hi
      subst hi
      simp [mks_len]
  · rcases List.mem_append.1 hg with h1 | h1
    · exact h0.gx g h1
    · simp at h1; subst h1; simp only [mks_len]; have := h0.kd.sm l hml; omega
  · rcases List.mem_append.1 hg with h1 | h1
    · rcases h0.gb g h1 q hq with ⟨i, u, hi, hu, hq2⟩ | h2
      · exact Or.inl ⟨i, u, by omega, hu, hq2⟩
      · exact Or.inr h2
    · simp at h1; subst h1
      rcases hv.gw.lb with h5 | h5
      · exact Or.inl ⟨j, l, by omega, hv.gw.jl, by rw [← h5]; exact hq⟩
      · exact Or.inr (Nat.le_trans hv.rs0 (h5 q hq))
/-- another kind's lists stay -/
theorem FrL.offT {β : Type} {g : β → List Value} {M : Nat} {E2 SL2 : TypeId} {LV : Value} {k : List (Bl α)} {w w' : World} (hF : FrL k w w') (hk : Kd E SL N f w LV k) (h1 : E ≠ E2) (h2 : E ≠ SL2) : ∃ S, Fr S w w' ∧ OffT E2 SL2 w S := by
  obtain ⟨S, hF, hS⟩ := hF
  refine ⟨S, hF, fun q hq cur T hB => ?_⟩
  obtain ⟨l, hl, hql⟩ := hS q hq
  obtain ⟨cur', hc⟩ := rown_blk (hk.ls l hl) q hql
  constructor
  · intro e; subst e; exact hc.neT hB h1 rfl
  · intro e; subst e; exact hc.neT hB h2 rfl
theorem Kd.offL {β : Type} {g : β → List Value} {M : Nat} {E2 SL2 : TypeId} {LV LV2 : Value} {k : List (Bl α)} {k2 : List (Bl β)} {w w' : World} (h : Kd E2 SL2 M g w LV2 k2) (hF : FrL k w w') (hk : Kd E SL N f w LV k) (h1 : E ≠ E2) (h2 : E ≠ SL2) : Kd E2 SL2 M g w' LV2 k2 := by
  obtain ⟨S, hF, hS⟩ := FrL.offT (g := g) (M := M) hF hk h1 h2
  exact h.off hF hS
theorem Ls.offL {β : Type} {g : β → List Value} {M : Nat} {E2 SL2 : TypeId} {LV LV2 : Value} {k : List (Bl α)} {k2 : List (Bl β)} {w w' : World} (h : Ls E2 SL2 M g w LV2 k2) (hF : FrL k w w') (hk : Kd E SL N f w LV k) (h1 : E ≠ E2) (h2 : E ≠ SL2) : Ls E2 SL2 M g w' LV2 k2 := by
  obtain ⟨S, hF, hS⟩ := FrL.offT (g := g) (M := M) hF hk h1 h2
  exact h.off hF hS
theorem GrO.toLs {mk : Nat → Nat → α} {w0 w : World} {LV ov : Value} {k gs : List (Bl α)} {j : Nat} (h : GrO E SL N f mk w0 w LV k gs ov j) : Ls E SL N f w ov gs :=
  ⟨by rw [h.gn]; exact rown_base h.row (Nat.zero_le _), h.gl⟩
theorem putT_sm (mk : Nat → Nat → α) (k : List (Bl α)) (j n : Nat) (h : ∀ l, l ∈ k → l.xs.length ≤ n) : ∀ l, l ∈ putT mk k j → l.xs.length ≤ n := fun l hl => by
  obtain ⟨i, hi⟩ := List.mem_iff_getElem?.1 hl
  simp only [putT, List.getElem?_mapIdx] at hi
  cases hk : k[i]? with
  | none => rw [hk] at hi; simp at hi
  | some u =>
    rw [hk] at hi
    simp only [Option.map_some, Option.some.injEq] at hi
    have hu := h u (List.mem_of_getElem? hk)
    split at hi
    · subst hi; simpa [mks_len] using hu
    · subst hi; exact hu
end
end Go.Proofs.YtfchbppfbepelaaGreat

/- A slice of whatever structs that came in, read as a list. No program is spoken of here. -/
namespace Go.Proofs.YtfchbppfbepelaaGreat
open Go.ChangeShapes Go.WideShapes Go.ChangeAt Go.RowKit Go.Deep
set_option linter.unusedVariables false
theorem cell_lt {w : World} {a : Addr} {v : Value} (h : w.cell? a = some v) : a.block < w.heap.size := by
  rcases Nat.lt_or_ge a.block w.heap.size with h' | h'
  · exact h'
  · simp [World.cell?, Array.getElem?_eq_none h'] at h
/-- A slice that came in reads as the list l, each element by its cells. -/
def RowsAt {α : Type} (w : World) (a : Option Addr) (len cap N : Nat) (f : α → List Value) (V : α → Prop) (l : List α) : Prop :=
  l.length = len ∧ len ≤ cap ∧ cap ≤ maxLen ∧ (∀ x, x ∈ l → V x) ∧ (len = 0 ∨ ∃ b off, a = some ⟨b, off, none⟩ ∧ b < w.heap.size ∧
    ∀ (i : Nat) (x : α), l[i]? = some x → ∀ (c : Nat) (v : Value), (f x)[c]? = some v → w.cell? ⟨b, off + i * N + c, none⟩ = some v)
section
variable {H : Type} {enc : TypeId × Value → H} {P : Program} {w : World} {base : Nat} {spare : Nat → Bool} {held : Bool} {α : Type}
theorem rows_of {t e : TypeId} {N : Nat} {f : α → List Value} {V : α → Prop} (ht : P.underlying t = some (.slice e)) (ce : P.cellsOf e = N) (hN : 0 < N)
    (dec : ∀ (n : Nat) (cs : List Value) (x : DataW H × List MemPlace), DataW.trod enc P w base spare held n e cs = some x → ∃ r, cs = f r ∧ V r)
    {a : Option Addr} {len cap : Nat} {d : DataW H} {ps : List MemPlace} (h : DataW.Trod enc P w base spare held t (.slice a len cap) d ps) :
    ∃ l, RowsAt w a len cap N f V l := by
  obtain ⟨fuel, hf⟩ := h
  rcases open_slice ht hf with ⟨hcs, _⟩ | ⟨x, len', cap', m, n, D, Pl, hcs, _, hl, hm, hmm, _, hx⟩
  · simp [Value.cells] at hcs
    obtain ⟨rfl, rfl, rfl⟩ := hcs
    exact ⟨[], rfl, Nat.le_refl _, Nat.zero_le _, by simp, .inl rfl⟩
  · simp [Value.cells] at hcs
    obtain ⟨rfl, rfl, rfl⟩ := hcs
    have hlm : len ≤ m := by rw [hmm]; split <;> omega
    have each : ∀ i, i < len → ∃ r : α, V r ∧ (f r).length = N ∧ ∀ c v, (f r)[c]? = some v → w.cell? ((x.add (i * N)).add c) = some v := by
      intro i hi
      obtain ⟨cs', hc, ht'⟩ := hx i (by omega)
      rw [ce] at hc
      obtain ⟨_, hcl, hat⟩ := World.cells?_some hc
      obtain ⟨r, rfl, hV⟩ := dec _ _ _ ht'
      refine ⟨r, hV, hcl, fun c v hv => ?_⟩
      have hcN : c < N := by have := (List.getElem?_eq_some_iff.1 hv).1; omega
      rw [hat c hcN, hv]
    have hch : ∃ q : Nat → Option α, ∀ i, i < len → ∃ r, q i = some r ∧ V r ∧ (f r).length = N ∧ ∀ c v, (f r)[c]? = some v → w.cell? ((x.add (i * N)).add c) = some v := by
      refine ⟨fun i => if h : i < len then some (each i h).choose else none, fun i hi => ⟨(each i hi).choose, by simp [hi], (each i hi).choose_spec⟩⟩
    obtain ⟨q, hq⟩ := hch
    have hl2 : ∀ k, k ≤ len → ∃ l : List α, l.length = k ∧ ∀ i y, l[i]? = some y → q i = some y ∧ i < len := by
      intro k
      induction k with
      | zero => exact fun _ => ⟨[], rfl, by simp⟩
      | succ k ih =>
        intro hk
        obtain ⟨l, h1, h2⟩ := ih (by omega)
        obtain ⟨r, hr, _⟩ := hq k (by omega)
        refine ⟨l ++ [r], by simp [h1], fun i y hy => ?_⟩
        by_cases hik : i < l.length
        · rw [List.getElem?_append_left hik] at hy
          exact h2 i y hy
        · rw [List.getElem?_append_right (by omega)] at hy
          have hi0 : i - l.length = 0 := by
            have := (List.getElem?_eq_some_iff.1 hy).1
            simp at this; omega
          rw [hi0] at hy
          simp at hy
          have : i = k := by omega
          subst this
          exact ⟨by rw [hr, hy], by omega⟩
    obtain ⟨l, hll, hlq⟩ := hl2 len (Nat.le_refl _)
    have hall : ∀ i y, l[i]? = some y → V y ∧ ∀ c v, (f y)[c]? = some v → w.cell? ((x.add (i * N)).add c) = some v := fun i y hy => by
      obtain ⟨h1, h2⟩ := hlq i y hy
      obtain ⟨r, hr, hV, _, hc⟩ := hq i h2
      rw [h1] at hr
      cases hr
      exact ⟨hV, hc⟩
    refine ⟨l, hll, hl, hm, fun y hy => ?_, ?_⟩
    · obtain ⟨i, hi, hiy⟩ := List.getElem_of_mem hy
      exact (hall i y (by rw [List.getElem?_eq_getElem hi, hiy])).1
    by_cases hz : len = 0
    · exact .inl hz
    · right
      obtain ⟨b, off, spot⟩ := x
      have h0 : ∃ y v, l[0]? = some y ∧ (f y)[0]? = some v := by
        obtain ⟨r, hr, hV, hlen, _⟩ := hq 0 (by omega)
        have h1 : 0 < l.length := by omega
        have h2 := hlq 0 l[0] (List.getElem?_eq_getElem h1)
        rw [hr] at h2
        have h3 : l[0] = r := by have := h2.1; injection this with this; exact this.symm
        exact ⟨r, (f r)[0]'(by omega), by rw [List.getElem?_eq_getElem h1, h3], List.getElem?_eq_getElem _⟩
      obtain ⟨y, v, hy, hv⟩ := h0
      have hc0 := (hall 0 y hy).2 0 v hv
      have hspot : spot = none := by simpa [Addr.add] using World.cell?_spot hc0
      subst hspot
      refine ⟨b, off, rfl, cell_lt (by simpa [add_plain] using hc0), fun i y hy c v hv => ?_⟩
      have := (hall i y hy).2 c v hv
      simpa [add_plain, Nat.add_assoc] using this
end
theorem RowsAt.at_ {α : Type} {w : World} {a : Option Addr} {len cap N : Nat} {f : α → List Value} {V : α → Prop} {l : List α} (h : RowsAt w a len cap N f V l) (k : Nat) (hk : k < len) :
    ∃ b off x, a = some ⟨b, off, none⟩ ∧ b < w.heap.size ∧ l[k]? = some x ∧ V x ∧ ∀ w', Fr [] w w' → ∀ (c : Nat) (v : Value), (f x)[c]? = some v → w'.cell? ⟨b, off + k * N + c, none⟩ = some v := by
  obtain ⟨h1, h2, h3, hV, h4⟩ := h
  rcases h4 with h4 | ⟨b, off, rfl, hb, hc⟩
  · omega
  · have hkl : k < l.length := by omega
    refine ⟨b, off, l[k], rfl, hb, List.getElem?_eq_getElem hkl, hV _ (List.getElem_mem hkl), fun w' hF c v hv => ?_⟩
    rw [World.cell?_of_block (hF.block b hb (by simp))]
    exact hc k _ (List.getElem?_eq_getElem hkl) c v hv
end Go.Proofs.YtfchbppfbepelaaGreat

/- Slices of structs that came in, with the sizes of what is in them. No program is spoken of here. -/
namespace Go.Proofs.YtfchbppfbepelaaGreat
open Go.ChangeShapes Go.WideShapes Go.ChangeAt Go.RowKit Go.Deep
set_option linter.unusedVariables false
theorem weights_mem_all {H : Type} {P : Program} {e : TypeId} : ∀ {ds : List (DataW H)} {d : DataW H}, d ∈ ds → ∀ n, n ∈ d.weights P e → n ∈ DataW.weightsAll P e ds
  | [], _, h, _, _ => by cases h
  | d0 :: r, d, h, n, hn => by
    simp only [DataW.weightsAll, List.mem_append]
    rcases List.mem_cons.1 h with rfl | h
    · exact Or.inl hn
    · exact Or.inr (weights_mem_all h n hn)
section
variable {H : Type} {enc : TypeId × Value → H} {P : Program} {w : World} {base : Nat} {spare : Nat → Bool} {held : Bool} {α : Type}
theorem rows_ofS {t e : TypeId} {N : Nat} {f : α → List Value} {V : α → Prop} (ht : P.underlying t = some (.slice e)) (ce : P.cellsOf e = N) (hN : 0 < N)
    (dec : ∀ (n : Nat) (cs : List Value) (x : DataW H × List MemPlace), DataW.trod enc P w base spare held n e cs = some x → (∀ k, k ∈ x.1.weights P e → k ≤ reachBytes) → ∃ r, cs = f r ∧ V r)
    {a : Option Addr} {len cap : Nat} {d : DataW H} {ps : List MemPlace} (h : DataW.Trod enc P w base spare held t (.slice a len cap) d ps) (hs : ∀ k, k ∈ d.weights P t → k ≤ reachBytes) :
    ∃ l, RowsAt w a len cap N f V l := by
  obtain ⟨fuel, hf⟩ := h
  rcases open_slice ht hf with ⟨hcs, _⟩ | ⟨x, len', cap', m, n, D, Pl, hcs, _, hl, hm, hmm, hxe, hx⟩
  · simp [Value.cells] at hcs
    obtain ⟨rfl, rfl, rfl⟩ := hcs
    exact ⟨[], rfl, Nat.le_refl _, Nat.zero_le _, by simp, .inl rfl⟩
  · simp [Value.cells] at hcs
    obtain ⟨rfl, rfl, rfl⟩ := hcs
    have hlm : len ≤ m := by rw [hmm]; split <;> omega
    have hds : d = .slice ((List.range len).map D) ((List.range (m - len)).map fun j => D (len + j)) := by
      have := congrArg Prod.fst hxe
      simpa using this
    have hwt : ∀ i, i < len → ∀ k, k ∈ (D i).weights P e → k ≤ reachBytes := fun i hi k hk => by
      refine hs k ?_
      rw [hds]
      simp only [DataW.weights, ht]
      refine List.mem_cons_of_mem _ (List.mem_append_left _ (weights_mem_all ?_ k hk))
      exact List.mem_map.2 ⟨i, List.mem_range.2 hi, rfl⟩
    have each : ∀ i, i < len → ∃ r : α, V r ∧ (f r).length = N ∧ ∀ c v, (f r)[c]? = some v → w.cell? ((x.add (i * N)).add c) = some v := by
      intro i hi
      obtain ⟨cs', hc, ht'⟩ := hx i (by omega)
      rw [ce] at hc
      obtain ⟨_, hcl, hat⟩ := World.cells?_some hc
      obtain ⟨r, rfl, hV⟩ := dec _ _ _ ht' (hwt i hi)
      refine ⟨r, hV, hcl, fun c v hv => ?_⟩
      have hcN : c < N := by have := (List.getElem?_eq_some_iff.1 hv).1; omega
      rw [hat c hcN, hv]
    have hch : ∃ q : Nat → Option α, ∀ i, i < len → ∃ r, q i = some r ∧ V r ∧ (f r).length = N ∧ ∀ c v, (f r)[c]? = some v → w.cell? ((x.add (i * N)).add c) = some v := by
      refine ⟨fun i => if h : i < len then some (each i h).choose else none, fun i hi => ⟨(each i hi).choose, by simp [hi], (each i hi).choose_spec⟩⟩
    obtain ⟨q, hq⟩ := hch
    have hl2 : ∀ k, k ≤ len → ∃ l : List α, l.length = k ∧ ∀ i y, l[i]? = some y → q i = some y ∧ i < len := by
      intro k
      induction k with
      | zero => exact fun _ => ⟨[], rfl, by simp⟩
      | succ k ih =>
        intro hk
        obtain ⟨l, h1, h2⟩ := ih (by omega)
        obtain ⟨r, hr, _⟩ := hq k (by omega)
        refine ⟨l ++ [r], by simp [h1], fun i y hy => ?_⟩
        by_cases hik : i < l.length
        · rw [List.getElem?_append_left hik] at hy
          exact h2 i y hy
        · rw [List.getElem?_append_right (by omega)] at hy
          have hi0 : i - l.length = 0 := by
            have := (List.getElem?_eq_some_iff.1 hy).1
            simp at this; omega
          rw [hi0] at hy
          simp at hy
          have : i = k := by omega
          subst this
          exact ⟨by rw [hr, hy], by omega⟩
    obtain ⟨l, hll, hlq⟩ := hl2 len (Nat.le_refl _)
    have hall : ∀ i y, l[i]? = some y → V y ∧ ∀ c v, (f y)[c]? = some v → w.cell? ((x.add (i * N)).add c) = some v := fun i y hy => by
      obtain ⟨h1, h2⟩ := hlq i y hy
      obtain ⟨r, hr, hV, _, hc⟩ := hq i h2
      rw [h1] at hr
      cases hr
      exact ⟨hV, hc⟩
    refine ⟨l, hll, hl, hm, fun y hy => ?_, ?_⟩
    · obtain ⟨i, hi, hiy⟩ := List.getElem_of_mem hy
      exact (hall i y (by rw [List.getElem?_eq_getElem hi, hiy])).1
    by_cases hz : len = 0
    · exact .inl hz
    · right
      obtain ⟨b, off, spot⟩ := x
      have h0 : ∃ y v, l[0]? = some y ∧ (f y)[0]? = some v := by
        obtain ⟨r, hr, hV, hlen, _⟩ := hq 0 (by omega)
        have h1 : 0 < l.length := by omega
        have h2 := hlq 0 l[0] (List.getElem?_eq_getElem h1)
        rw [hr] at h2
        have h3 : l[0] = r := by have := h2.1; injection this with this; exact this.symm
        exact ⟨r, (f r)[0]'(by omega), by rw [List.getElem?_eq_getElem h1, h3], List.getElem?_eq_getElem _⟩
      obtain ⟨y, v, hy, hv⟩ := h0
      have hc0 := (hall 0 y hy).2 0 v hv
      have hspot : spot = none := by simpa [Addr.add] using World.cell?_spot hc0
      subst hspot
      refine ⟨b, off, rfl, cell_lt (by simpa [add_plain] using hc0), fun i y hy c v hv => ?_⟩
      have := (hall i y hy).2 c v hv
      simpa [add_plain, Nat.add_assoc] using this
theorem weights_first {ts : List TypeId} {ds : List (DataW H)} (h : (DataW.weightsEach P ts ds).all (· ≤ reachBytes) = true) {j : Nat} {t : TypeId} {d : DataW H} (ht : ts[j]? = some t) (hd : ds[j]? = some d) : ∀ k, k ∈ d.weights P t → k ≤ reachBytes := fun k hk => by
  have := List.all_eq_true.1 h _ (DataW.weights_mem_each ht hd k hk)
  simpa using this
theorem weights_str {t : TypeId} {parts : List (DataW H)} {fs : Array Field} (hu : P.underlying t = some (.struct fs)) (h : ∀ k, k ∈ (DataW.agg parts).weights P t → k ≤ reachBytes) {j : Nat} {u : TypeId} {bytes : List UInt8} (ht : (fs.toList.map (·.type))[j]? = some u) (hd : parts[j]? = some (.lit (.string bytes))) : bytes.length ≤ reachBytes :=
  h _ (by simp only [DataW.weights, hu]; exact DataW.weights_mem_each ht hd _ (by simp [DataW.weights]))
end
end Go.Proofs.YtfchbppfbepelaaGreat

