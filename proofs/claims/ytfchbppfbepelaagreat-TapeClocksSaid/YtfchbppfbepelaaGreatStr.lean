/- Strings as lists of bytes: B l; how the walk's words read on them. No program is spoken of here. -/
import Derived.Test.YtfchbppfbepelaaGreatBase
import Derived.WalkLawsBesides
import Derived.WalkSpells
import Derived.Deep.RegionLaw
namespace Go.Proofs.YtfchbppfbepelaaGreat
open Go.RowKit

def B (l : List UInt8) : ByteArray := ⟨l.toArray⟩
@[go_sem] theorem B_size (l : List UInt8) : (B l).size = l.length := by simp [B, ByteArray.size]
@[go_sem] theorem B_append (l m : List UInt8) : B l ++ B m = B (l ++ m) := by unfold B; exact ByteArray.mk_append_mk l m
@[go_sem] theorem mk_append_B (l m : List UInt8) : (⟨l.toArray⟩ : ByteArray) ++ B m = B (l ++ m) := B_append l m
@[go_sem] theorem B_append_mk (l m : List UInt8) : B l ++ (⟨m.toArray⟩ : ByteArray) = B (l ++ m) := B_append l m
@[go_sem] theorem B_extract (l : List UInt8) (a b : Nat) : (B l).extract a b = B ((l.drop a).take (b - a)) := by unfold B; exact ByteArray.extract_mk l a b
@[go_sem] theorem B_toList (l : List UInt8) : (B l).toList = l := by unfold B; exact ByteArray.toList_mk l
@[go_sem] theorem B_data (l : List UInt8) : (B l).data.toList = l := by simp [B]
@[go_sem] theorem B_get (l : List UInt8) (i : Nat) (h : i < (B l).size) : (B l)[i] = l[i]'(by simpa [B_size] using h) := by rfl
theorem B_of (s : ByteArray) : s = B s.data.toList := by simp [B]
theorem B_inj {l m : List UInt8} : B l = B m ↔ l = m := ⟨fun h => by have := congrArg ByteArray.toList h; simpa [B_toList] using this, fun h => h ▸ rfl⟩

theorem rstr {l m : List UInt8} (h : l = m) : Ending.returned (.string (B l)) = .returned (.string (B m)) := by rw [h]
def bytesOf (xs : List Int) : List UInt8 := xs.map fun n => UInt8.ofNat n.toNat
theorem strOfNums_eq (xs : List Int) : strOfNums xs = B (bytesOf xs) := by simp [strOfNums, B, bytesOf]

section
variable {P : Program}
/-- string(b) of a block that is known whole -/
theorem run_str {w : World} {b T cap : Nat} {src dst e : TypeId} (hs : P.underlying src = some (.slice e)) (he : P.underlying e = some (.int .u8)) (hd : P.underlying dst = some .string)
    (xs : List Int) (hB : Blk w b (xs.map (Value.int .u8)).toArray T) (n : Nat) (hn : n = xs.length) :
    (convert src dst (.slice (some ⟨b, 0, none⟩) n cap)).run P w = .ok (.string (B (bytesOf xs))) w := by
  subst hn
  rw [run_convert_bytes_arg w src e hs he b 0 xs.length cap xs rfl (fun i hi => by
    rw [Nat.zero_add]
    exact hB.c i _ (by simp [List.getElem?_eq_getElem hi, List.getD])) dst hd, strOfNums_eq]
/-- string(b) of a slice that the call owns -/
theorem run_str_own {w : World} {base b cap : Nat} {src dst e : TypeId} (hs : P.underlying src = some (.slice e)) (he : P.underlying e = some (.int .u8)) (hd : P.underlying dst = some .string)
    (xs : List Int) (n : Nat) (h : w.ownsRow base e 1 (.slice (some ⟨b, 0, none⟩) n cap) n (xs.map (Value.int .u8))) :
    (convert src dst (.slice (some ⟨b, 0, none⟩) n cap)).run P w = .ok (.string (B (bytesOf xs))) w := by
  have hl : xs.length = n := by simpa using h.1
  rw [run_convert_bytes_arg w src e hs he b 0 n cap xs hl (fun i hi => by
    rw [h.cellAt (0 + i) (by omega), Nat.zero_add]
    simp [List.getElem?_eq_getElem (show i < xs.length by omega), List.getD]) dst hd, strOfNums_eq]
theorem run_str_any {w : World} {base : Nat} {v : Value} {src dst e : TypeId} (hs : P.underlying src = some (.slice e)) (he : P.underlying e = some (.int .u8)) (hd : P.underlying dst = some .string)
    (xs : List Int) (n : Nat) (h : w.ownsRow base e 1 v n (xs.map (Value.int .u8))) :
    (convert src dst v).run P w = .ok (.string (B (bytesOf xs))) w := by
  rcases h.2 with ⟨rfl, rfl⟩ | ⟨g, cap, cur, rfl, _⟩
  · have : xs = [] := List.eq_nil_of_length_eq_zero (by simpa using h.1)
    subst this
    rw [run_convert_bytes_nil w src e hs he 0 0 dst hd]; rfl
  · exact run_str_own hs he hd xs n h
end
theorem u8_toNat (x : Int) (h0 : 0 ≤ x) (h1 : x < 256) : ((UInt8.ofNat x.toNat).toNat : Int) = x := by
  have h : x.toNat < 256 := by omega
  have e : (UInt8.ofNat x.toNat).toNat = x.toNat % 256 := by simp
  omega
theorem byte_bd (b : UInt8) : (b.toNat : Int) < 256 := by have := b.toNat_lt; omega

theorem Fr.grown {S : List Nat} {a w w' : World} {row : Option Nat} (h : Fr S a w) (hg : w.grownBy w' row) (hr : ∀ k, row = some k → a.heap.size ≤ k) : Fr S a w' :=
  ⟨hg.os.trans h.os, hg.tape.trans h.tape, hg.output.trans h.output, Nat.le_trans h.size hg.size,
    fun k hk hn => (hg.block k (Nat.lt_of_lt_of_le hk h.size) (fun e => by have := hr k e.symm; omega)).trans (h.block k hk hn)⟩
/-- the block that an owned row has, if any, is new -/
theorem own_new {w : World} {base : Nat} {e : TypeId} {size n : Nat} {v : Value} {xs : List Value} (h : w.ownsRow base e size v n xs) : ∀ k, v.ownBlock = some k → base ≤ k := fun k hk => (h.lt k hk).1

theorem own_drew {w : World} {base : Nat} {e : TypeId} {size n : Nat} {v : Value} {xs : List Value} (h : w.ownsRow base e size v n xs) : w.drew.ownsRow base e size v n xs := h
/-- append onto a slice that the call owns, as one step of a region that draws its order -/
theorem step_append_own {P : Program} {ops : Array Oper} {o : Oper} {a : Act} {w : World} {K : Act → World → Prop} {Q : Exit → Act → World → Prop} {E : Prop}
    (hg : o.guard = none) (s x : Operand) (t : TypeId) (hop : o.op = Op.call { callee := Callee.builtin Builtin.append, args := #[s, x], argTypes := #[t, t] })
    (base : Nat) (e : TypeId) (i : TypeInfo) (z : Value) (size bytes : Nat) (h1 : P.underlying t = some (.slice e)) (h2 : P.info? e = some i) (h3 : i.zero = some z) (h4 : i.size = size) (h5 : i.bytes = bytes) (h6 : z.cells.size = size) (h7 : 0 < size)
    (v : Value) (n : Nat) (xs : List Value) (hs : a.eval s = v) (hown : w.ownsRow base e size v n xs)
    (ad : Addr) (m c : Nat) (news : List Value) (hx : a.eval x = .slice (some ad) m c) (hn : news.length = m * size) (hc : ∀ j u, news[j]? = some u → w.cell? (ad.add j) = some u) (h1c : ∀ u ∈ news, u.oneCell' = true)
    (b1 : n + m ≤ maxLen) (b2 : (n + m) * bytes ≤ 140737488355328) (hbase : base ≤ w.heap.size)
    (hK : ∀ v' w', w'.ownsRow base e size v' (n + m) (xs ++ news) → w.grownBy w' v.ownBlock → K (a.put o.dst v') w') :
    if Region.wanted o (yielded ops a.tmps) = true then Oper.wp P o a w K Q else E := by
  have hw : Region.wanted o (yielded ops a.tmps) = true := by simp [Region.wanted, hg]
  rw [if_pos hw]
  exact wp_append_own w s x t hop base e i z size bytes h1 h2 h3 h4 h5 h6 h7 v n xs hs hown ad m c news hx hn hc h1c b1 b2 hbase fun v' w' k1 k2 _ => hK v' w' k1 k2
/-- the cells of a block that was just made -/
theorem new_cells (w : World) (C : List Value) (T : TypeId) : ∀ j u, C[j]? = some u → (w.alloc (.cells C.toArray T)).cell? ((⟨w.heap.size, 0, none⟩ : Addr).add j) = some u := by
  intro j u h
  have hp : (⟨w.heap.size, 0, none⟩ : Addr).add j = ⟨w.heap.size, j, none⟩ := by unfold Addr.add; split <;> simp_all
  rw [hp]
  exact (Blk.new w C.toArray T).c j u (by simpa using h)

end Go.Proofs.YtfchbppfbepelaaGreat
