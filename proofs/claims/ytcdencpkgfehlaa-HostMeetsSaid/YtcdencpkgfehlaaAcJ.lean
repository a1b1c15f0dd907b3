/- ac: Live. -/
import Derived.Test.YtcdencpkgfehlaaAcH
import Derived.Test.YtcdencpkgfehlaaAcE
namespace Go.Proofs.Ytcdencpkgfehlaa
open Go.RowKit Go.Maps
set_option linter.unusedVariables false
theorem infoSes : (Try.prog.info? 63).map (fun i => (i.zero, i.size, i.bytes)) = some (some (.agg #[.int .u8 0, .int .u8 0, .int .u8 0, .int .u8 0, .int .u8 0, .int .u8 0, .int .i64 0, .string ⟨#[]⟩, .bool false]), 9, 40) := by kernel_rfl
theorem perm_outS (rest : List Ses) (s : Ses) (hn : (rest.map kv).map (·.1) |>.Nodup) (hs : s ∈ rest) : rest.Perm (s :: rest.filter (fun x => decide ((kv x).1 ≠ (kv s).1))) := by
  induction rest with
  | nil => cases hs
  | cons x l ih =>
    simp only [List.map_cons, List.nodup_cons] at hn
    rcases List.mem_cons.1 hs with rfl | hs'
    · have : l.filter (fun q => decide ((kv q).1 ≠ (kv s).1)) = l := List.filter_eq_self.2 fun y hy => by
        simp only [decide_eq_true_eq]
        exact fun e => hn.1 (List.mem_map.2 ⟨kv y, List.mem_map.2 ⟨y, hy, rfl⟩, e⟩)
      rw [List.filter_cons, if_neg (by simp), this]
    · have hxp : (kv x).1 ≠ (kv s).1 := fun e => hn.1 (List.mem_map.2 ⟨kv s, List.mem_map.2 ⟨s, hs', rfl⟩, e.symm⟩)
      rw [List.filter_cons, if_pos (by simpa using hxp)]
      exact (List.Perm.cons x (ih hn.2 hs')).trans (List.Perm.swap s x _)
/-- sessions that can be read -/
def SesAt (w : World) (A : Option Addr) (L : List Ses) : Prop := ∀ i s, L[i]? = some s → ∃ q, A = some ⟨q, 0, none⟩ ∧ q < w.heap.size ∧ ∀ W, Fr [] w W → ∀ c v, (seL s)[c]? = some v → W.cell? ⟨q, i * 9 + c, none⟩ = some v
theorem SesAt.fr0 {w w' : World} {A : Option Addr} {L : List Ses} (h : SesAt w A L) (hF : Fr [] w w') : SesAt w' A L := fun i s hi => by
  obtain ⟨q, h1, h2, h3⟩ := h i s hi
  exact ⟨q, h1, Nat.lt_of_lt_of_le h2 hF.size, fun W hW => h3 W (hF.trans hW)⟩
theorem SesAt.of_row {w : World} {q : Nat} {L : List Ses} (h : SRow w q L) (hq : q < w.heap.size) : SesAt w (some ⟨q, 0, none⟩) L := fun i s hi => by
  refine ⟨q, rfl, hq, fun W hW c v hc => ?_⟩
  rw [World.cell?_of_block (hW.block q hq (by simp))]
  exact (h i s hi c v hc).1
def sesF (l : List Ses) : List Value := l.flatMap seL
theorem sesF_get (l : List Ses) (i : Nat) (t : Ses) (h : l[i]? = some t) (c : Nat) (hc : c < 9) : (sesF l)[i * 9 + c]? = (seL t)[c]? := by
  induction l generalizing i with
  | nil => simp at h
  | cons u r ih =>
    unfold sesF at *
    rw [List.flatMap_cons]
    cases i with
    | zero =>
      simp at h
      subst h
      rw [List.getElem?_append_left (by show _ < 9; omega)]
      simp
    | succ i =>
      rw [List.getElem?_append_right (by show 9 ≤ _; omega)]
      have : (i + 1) * 9 + c - (seL u).length = i * 9 + c := by show (i + 1) * 9 + c - 9 = _; omega
      rw [this]
      exact ih i (by simpa using h)
theorem SRow.of_own {w : World} {base q cap : Nat} {L : List Ses} (h : w.ownsRow base 63 9 (.slice (some ⟨q, 0, none⟩) L.length cap) L.length (sesF L)) : SRow w q L := fun i k hi c v hc => by
  have hil := (List.getElem?_eq_some_iff.1 hi).1
  have hc9 : c < 9 := by have := (List.getElem?_eq_some_iff.1 hc).1; exact this
  obtain ⟨g, cap', hv, hg, hlt⟩ := h.form (by omega)
  cases hv
  refine ⟨?_, ?_⟩
  · rw [h.cellAt (i * 9 + c) (by omega), sesF_get L i k hi c hc9]; exact hc
  · rcases h.2 with ⟨h1, _⟩ | ⟨g', cp, cur, h1, _, h3, _⟩
    · cases h1
    · cases h1
      exact Blk.fz (b := q) h3 _
def LiveP (w : World) (S : List Ses) (e : Ending) (w' : World) : Prop := ∃ A cap, ∃ L : List Ses, e = .returned (.slice A L.length cap) ∧ L.Perm S ∧ (L.Pairwise fun a b => a.n < b.n) ∧ SesAt w' A L ∧ L.length ≤ cap ∧ cap ≤ maxLen ∧ Fr [] w w'
theorem rising {L S : List Ses} (hp : L.Perm S) (hn : (S.map (·.n)).Nodup) (h : L.Pairwise fun a b => a.n ≤ b.n) : L.Pairwise fun a b => a.n < b.n := by
  have hd : (L.map (·.n)).Nodup := (hp.map (·.n)).nodup_iff.2 hn
  unfold List.Nodup at hd
  rw [List.pairwise_map] at hd
  exact (h.and hd).imp fun ⟨h1, h2⟩ => by omega
section
variable {w : World} {g : Nat} {c : Cn} {S : List Ses} {G : List Idk}
set_option maxRecDepth 100000 in
set_option maxHeartbeats 8000000 in
theorem live_ok (h : CnIs w g c S G) (hl : S.length ≤ 1000) : Calls Try.prog 27 #[.pointer (some ⟨g, 0, none⟩)] w (LiveP w S) := by
  obtain ⟨i0, hi, hz0, hz1, hz2⟩ := info_parts infoSes
  have NO := Lib.hid (cnone_any h.st)
  have d10 : w.cell? ⟨g, 10, none⟩ = some (.map (some c.at_)) := h.st.c 10 _ rfl
  obtain ⟨cc, hrun, hIt⟩ := h.hM.range Try.underlying81
  have hb1 := h.hM.lt
  have H := Lib.hid h
  have HL := Lib.hid hl
  clear h hl
  go_enter Try.func27, Try.ntmps27
  go_wp2_with fail
  refine NO.out.mono ?_
  rintro e w1 ⟨rfl, rfl⟩
  go_wp2_with fail
  obtain ⟨r, hr'⟩ : ∃ r, w1.heap.size = r := ⟨_, rfl⟩
  obtain ⟨V2, hV2⟩ : ∃ V', w1.alloc (.mapIter (some c.at_) cc #[] cc) = V' := ⟨_, rfl⟩
  have hF2 := (Fr.refl [] w1).alloc (.mapIter (some c.at_) cc #[] cc)
  have hrb : r ≠ c.at_ := by omega
  have hrs : r + 1 ≤ (w1.alloc (.mapIter (some c.at_) cc #[] cc)).heap.size := by rw [← hr']; simp
  rw [hr'] at hIt ⊢
  rw [hV2] at hIt hF2 hrs ⊢
  have HAR : Hid (c.at_ < r) := Lib.hid (by omega)
  have HWR : Hid (w1.heap.size ≤ r) := Lib.hid (by omega)
  clear hr' hV2 hrun d10 hb1 NO
  go_loopw [3] (fun ov wr => ∃ (done rest : List Ses), (done ++ rest).Perm S ∧ Iter idE ptrV wr c.at_ r (S.map kv) (rest.map kv) ∧ wr.ownsRow (r + 1) 63 9 ov done.length (sesF done) ∧ Fr [] w1 wr ∧ r + 1 ≤ wr.heap.size) (fun _ wr => wr.rangeLeft c.at_ r)
  case atStart => exact ⟨[], S, by simp, hIt, World.ownsRow_nil _ _ _ _, hF2, hrs⟩
  case round =>
    clear hIt hF2 hrs
    obtain ⟨done, rest, hp, hI, hown, hF, hrs⟩ := hrel
    obtain ⟨A1, c1, rfl⟩ := own_slice hown
    have hdl : done.length ≤ 1000 := by
      have h2 := hp.length_eq
      rw [List.length_append] at h2
      have := HL.out
      omega
    rcases hI.next hrb 0 with ⟨hr0, hnx⟩ | ⟨p, hpr, W, hnx, hI2, hen, hG⟩
    · have hr1 : rest = [] := by simpa using hr0
      subst hr1
      rw [List.append_nil] at hp
      have HP := Lib.hid hp
      have HFr := Lib.hid hF
      have hcp := own_caps hown
      replace hnx : (Instr.next (.pointer (some ⟨r, 0, none⟩)) false 0).run Try.prog wr = .ok (.tuple #[.bool false]) wr := hnx
      by_cases hz : done.length = 0
      · have hd0 : done = [] := List.eq_nil_of_length_eq_zero hz
        subst hd0
        have HZ : Hid (LiveP w1 S (.returned (.slice A1 0 c1)) wr) := Lib.hid ⟨A1, c1, [], rfl, HP.out, List.Pairwise.nil, fun i s hi => by simp at hi, Nat.zero_le _, hcp.2, HFr.out⟩
        clear hp hI hown hF hr0 hcp hz
        go_wp2_with fail
        refine (sortS_none _ _ _).mono ?_
        rintro e w3 ⟨rfl, rfl⟩
        go_wp2_with fail
        go_ret
        exact HZ.out
      · obtain ⟨q, cp', hv, hq0, hq1⟩ := hown.form (by omega)
        have hA1 : A1 = some ⟨q, 0, none⟩ := by injection hv
        subst hA1
        have SO := Lib.hid (sortS_any q c1 done (SRow.of_own hown) hq1 (by omega))
        have HC := Lib.hid hcp
        have HQ : Hid (q < wr.heap.size ∧ w1.heap.size ≤ q) := Lib.hid ⟨hq1, by have := HWR.out; omega⟩
        clear hp hI hown hF hr0 hcp hz hv hq0 hq1
        go_wp2_with fail
        refine SO.out.mono ?_
        rintro e w3 ⟨rfl, ks, hpk, hsr, hrow, hF3, _⟩
        have hlen := hpk.length_eq
        have HZ : Hid (LiveP w1 S (.returned (.slice (some ⟨q, 0, none⟩) done.length c1)) w3) := Lib.hid ⟨_, c1, ks, by rw [hlen], hpk.trans HP.out, rising (hpk.trans HP.out) H.out.nums hsr, SesAt.of_row hrow (Nat.lt_of_lt_of_le HQ.out.1 hF3.size), by rw [hlen]; exact HC.out.1, HC.out.2, HFr.out.fresh1 hF3 HQ.out.2⟩
        clear hpk hsr hrow hF3 hlen SO
        go_wp2_with fail
        go_ret
        exact HZ.out
    · obtain ⟨s, hs, rfl⟩ := List.mem_map.1 hpr
      have hsS : s ∈ S := hp.mem_iff.1 (List.mem_append_right _ hs)
      have hFW := hF.fresh1 hG HWR.out
      have hsB := hFW.blk (H.out.ses s hsS) (by simp)
      have hpm : ((done ++ [s]) ++ rest.filter (fun x => decide ((kv x).1 ≠ (kv s).1))).Perm S := by
        refine List.Perm.trans ?_ hp
        rw [List.append_assoc]
        exact List.Perm.append_left _ (perm_outS rest s hI.nd hs).symm
      have hlt : (rest.filter (fun x => decide ((kv x).1 ≠ (kv s).1))).length < rest.length := by
        have h : rest.length = (rest.filter (fun x => decide ((kv x).1 ≠ (kv s).1))).length + 1 := (perm_outS rest s hI.nd hs).length_eq
        omega
      have hle := hI.left_eq
      rw [List.length_map] at hle
      have hmf : (rest.map kv).filter (fun q => decide (q.1 ≠ (kv s).1)) = (rest.filter (fun x => decide ((kv x).1 ≠ (kv s).1))).map kv := by rw [List.filter_map]; rfl
      rw [hmf] at hI2
      have hownW := own_frS hown hG (fun q cur hq => by
        intro hqr
        simp at hqr
        subst hqr
        obtain ⟨es, cl, since, c0, seen, _, hrr, _⟩ := hI.it
        unfold Blk at hq
        rw [hrr] at hq
        cases hq)
      have hsn : sesF (done ++ [s]) = sesF done ++ seL s := by unfold sesF; rw [List.flatMap_append]; simp
      obtain ⟨⟨a1, a2, a3, a4, a5, a6⟩, sn, su, sd, sp⟩ := s
      have z0 : W.cell? ⟨sp, 0, none⟩ = some (.int .u8 a1) := hsB.c 0 _ rfl
      have z1 : W.cell? ⟨sp, 1, none⟩ = some (.int .u8 a2) := hsB.c 1 _ rfl
      have z2 : W.cell? ⟨sp, 2, none⟩ = some (.int .u8 a3) := hsB.c 2 _ rfl
      have z3 : W.cell? ⟨sp, 3, none⟩ = some (.int .u8 a4) := hsB.c 3 _ rfl
      have z4 : W.cell? ⟨sp, 4, none⟩ = some (.int .u8 a5) := hsB.c 4 _ rfl
      have z5 : W.cell? ⟨sp, 5, none⟩ = some (.int .u8 a6) := hsB.c 5 _ rfl
      have z6 : W.cell? ⟨sp, 6, none⟩ = some (.int .i64 sn) := hsB.c 6 _ rfl
      have z7 : W.cell? ⟨sp, 7, none⟩ = some (.string (B su)) := hsB.c 7 _ rfl
      have z8 : W.cell? ⟨sp, 8, none⟩ = some (.bool sd) := hsB.c 8 _ rfl
      replace hnx : (Instr.next (.pointer (some ⟨r, 0, none⟩)) false 0).run Try.prog wr = .ok (.tuple #[.bool true, .agg #[.int .u8 a1, .int .u8 a2, .int .u8 a3, .int .u8 a4, .int .u8 a5, .int .u8 a6, .int .i64 sn], .pointer (some ⟨sp, 0, none⟩)]) W := hnx
      replace hen : (Instr.entry (.pointer (some ⟨r, 0, none⟩))).run Try.prog W = .ok (.tuple #[.agg #[.int .u8 a1, .int .u8 a2, .int .u8 a3, .int .u8 a4, .int .u8 a5, .int .u8 a6, .int .i64 sn], .pointer (some ⟨sp, 0, none⟩)]) W := hen
      have HPM := Lib.hid hpm
      have HLT := Lib.hid hlt
      have HLE := Lib.hid hle
      have HI2 := Lib.hid hI2
      have HFW := Lib.hid hFW
      have HSN := Lib.hid hsn
      have hws : r + 1 ≤ W.heap.size := Nat.le_trans hrs hG.size
      clear hp hI hown hF hpr hs hsS hsB hpm hlt hle hmf hI2 hG hFW hsn hrs
      go_wp2_with (at_builtin; refine wpList_append_own _ rfl _ _ 58 rfl (r + 1) 63 i0 (.agg #[.int .u8 0, .int .u8 0, .int .u8 0, .int .u8 0, .int .u8 0, .int .u8 0, .int .i64 0, .string ⟨#[]⟩, .bool false]) 9 40 Try.underlying58 hi hz0 hz1 hz2 rfl (by decide) _ done.length _ rfl (hownW.alloc _) ⟨W.heap.size, 0, none⟩ 1 1 [.int .u8 a1, .int .u8 a2, .int .u8 a3, .int .u8 a4, .int .u8 a5, .int .u8 a6, .int .i64 sn, .string (B su), .bool sd] rfl rfl ?d1 ?d2 ?d3 ?d4 ?d5 ?_)
      case d1 => exact new_cells W [.int .u8 a1, .int .u8 a2, .int .u8 a3, .int .u8 a4, .int .u8 a5, .int .u8 a6, .int .i64 sn, .string (B su), .bool sd] 63
      case d2 => simp [Value.oneCell']
      case d3 => unfold maxLen; omega
      case d4 => omega
      case d5 => first | omega | (simp; omega)
      intro v2 w3 hown3 hgr3 _
      have hFa := (Fr.refl [] W).alloc (.cells #[.int .u8 a1, .int .u8 a2, .int .u8 a3, .int .u8 a4, .int .u8 a5, .int .u8 a6, .int .i64 sn, .string (B su), .bool sd] 63 (0, 0))
      have hFg := Fr.of_grown hgr3
      have hob : ∀ k, k ∈ (Value.slice A1 done.length c1).ownBlock.toList → r + 1 ≤ k := fun k hk => own_new hownW k (by simpa using hk)
      have hI3 := (HI2.out.fr hFa (by simp) (by simp)).fr hFg (fun hk => by have := hob _ hk; have := HAR.out; omega) (fun hk => by have := hob _ hk; omega)
      have hF4 := (HFW.out.alloc (.cells #[.int .u8 a1, .int .u8 a2, .int .u8 a3, .int .u8 a4, .int .u8 a5, .int .u8 a6, .int .i64 sn, .string (B su), .bool sd] 63 (0, 0))).grown hgr3 (fun k hk => by have := own_new hownW k hk; have := HWR.out; omega)
      have hI4 := hI3.left_eq
      rw [List.length_map] at hI4
      have hw3 : r + 1 ≤ w3.heap.size := Nat.le_trans hws (Nat.le_trans hFa.size hgr3.size)
      have HLF : Hid (w3.rangeLeft c.at_ r < wr.rangeLeft c.at_ r) := Lib.hid (by rw [hI4, HLE.out]; exact HLT.out)
      have hown4 : w3.ownsRow (r + 1) 63 9 v2 (done ++ [(⟨⟨a1, a2, a3, a4, a5, a6⟩, sn, su, sd, sp⟩ : Ses)]).length (sesF (done ++ [(⟨⟨a1, a2, a3, a4, a5, a6⟩, sn, su, sd, sp⟩ : Ses)])) := by
        rw [HSN.out, List.length_append]
        exact hown3
      have HR := Lib.hid (And.intro hI3 (And.intro hown4 (And.intro hF4 hw3)))
      clear hownW hown3 hgr3 hFa hFg hob hI3 hF4 hI4 hw3 hown4 hws HI2 HFW HLE HLT
      go_wp2_with fail
      go_roundw
      case rel => exact ⟨_, _, HPM.out, HR.out.1, HR.out.2.1, HR.out.2.2.1, HR.out.2.2.2⟩
      case measure => exact HLF.out
end
end Go.Proofs.Ytcdencpkgfehlaa
