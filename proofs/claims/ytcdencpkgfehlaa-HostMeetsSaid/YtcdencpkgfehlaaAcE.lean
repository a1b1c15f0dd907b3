/- ac: grant, where the cookie is good (printed by tools/gen_ace.py). -/
import Derived.Test.YtcdencpkgfehlaaAcD
import Derived.Test.YtcdencpkgfehlaaCookie
import Derived.Test.YtcdencpkgfehlaaMgA
namespace Go.Proofs.Ytcdencpkgfehlaa
open Go.RowKit Go.Maps
set_option linter.unusedVariables false
theorem own_blk {w : World} {base e sz n : Nat} {v : Value} {xs : List Value} (h : w.ownsRow base e sz v n xs) : ∀ k, v.ownBlock = some k → ∃ cur, Blk w k cur e := fun k hk => by
  rcases h.2 with ⟨rfl, _⟩ | ⟨g, cap, cur, rfl, _, h3, _⟩
  · cases hk
  · have : g = k := by simpa [Value.ownBlock] using hk
    subst this
    exact ⟨cur, h3⟩
theorem Fr.of_grown {w w' : World} {row : Option Nat} (hg : w.grownBy w' row) : Fr row.toList w w' :=
  ⟨hg.os, hg.tape, hg.output, hg.size, fun k hk hn => hg.block k hk (fun e => hn (by rw [← e]; simp))⟩
theorem keep_grown {w w' : World} {base e sz n : Nat} {v : Value} {xs : List Value} (ho : w.ownsRow base e sz v n xs) (hF : Fr v.ownBlock.toList w w') {b T : Nat} {cs : Array Value} (h : Blk w b cs T) (hT : T ≠ e) : Blk w' b cs T :=
  hF.blk h (fun hb => by
    have h1 : v.ownBlock = some b := by simpa using hb
    obtain ⟨cur, hc⟩ := own_blk ho b h1
    exact h.ne_type hc hT rfl)
theorem CnIs.frT {w w' : World} {g : Nat} {c : Cn} {S : List Ses} {G : List Idk} {Sx : List Nat} {T : Nat} (h : CnIs w g c S G) (hF : Fr Sx w w') (hS : ∀ q, q ∈ Sx → ∃ cur, Blk w q cur T) (h1 : T ≠ 85) (h2 : T ≠ 63) (h3 : T ≠ 61) : CnIs w' g c S G := by
  have hb : ∀ b cs U, Blk w b cs U → T ≠ U → b ∉ Sx := fun b cs U hB hU hb => by
    obtain ⟨cur, hc⟩ := hS b hb
    exact hc.ne_type hB hU rfl
  exact ⟨hF.blk h.st (hb _ _ _ h.st h1), h.hM.fr hF (fun hb => by obtain ⟨cur, hc⟩ := hS _ hb; exact h.hM.not_blk hc rfl), h.tM.fr hF (fun hb => by obtain ⟨cur, hc⟩ := hS _ hb; exact h.tM.not_blk hc rfl), h.ne,
    fun s hs => hF.blk (h.ses s hs) (hb _ _ _ (h.ses s hs) h2), h.nd, h.num, h.nums, h.last, own_frS h.gn hF (fun q cur hq => hb _ _ _ hq h3)⟩
theorem CnIs.grown {w w' : World} {g : Nat} {c : Cn} {S : List Ses} {G : List Idk} {base T sz n : Nat} {v : Value} {xs : List Value} (h : CnIs w g c S G) (ho : w.ownsRow base T sz v n xs) (hF : Fr v.ownBlock.toList w w') (h1 : T ≠ 85) (h2 : T ≠ 63) (h3 : T ≠ 61) : CnIs w' g c S G :=
  h.frT hF (fun q hq => own_blk ho q (by simpa using hq)) h1 h2 h3
theorem tgF_one (l : List Tg) : ∀ u, u ∈ tgF l → u.oneCell' = true := fun u hu => by
  obtain ⟨t, _, ht⟩ := List.mem_flatMap.1 hu
  simp [tgL] at ht
  rcases ht with rfl | rfl <;> rfl
theorem app_any {P : Program} (w : World) {o : Oper} {a : Act} {K : Act → World → Prop} {Q : Exit → Act → World → Prop} (d : Tmp) (hd : o.dst = some d) (s x : Operand) (t : TypeId)
    (ho : o.op = .call { callee := .builtin .append, args := #[s, x], argTypes := #[t, t] })
    (base : Nat) (e : TypeId) (i : TypeInfo) (z : Value) (size bytes : Nat) (ht : P.underlying t = some (.slice e)) (hi : P.info? e = some i) (hz : i.zero = some z)
    (hsize : i.size = size) (hby : i.bytes = bytes) (hzs : z.cells.size = size) (hsz : 0 < size)
    (v : Value) (n : Nat) (xs : List Value) (hs : a.eval s = v) (hown : w.ownsRow base e size v n xs)
    (B : Nat) (A : Option Addr) (m c : Nat) (news : List Value) (hx : a.eval x = .slice A m c) (hr : Reads w B size A m news) (h1 : ∀ u ∈ news, u.oneCell' = true)
    (h63 : n + m ≤ maxLen) (hbytes : (n + m) * bytes ≤ 140737488355328) (hbase : base ≤ w.heap.size)
    (h : ∀ v' w', w'.ownsRow base e size v' (n + m) (xs ++ news) → w.grownBy w' v.ownBlock → (v'.ownBlock = v.ownBlock ∨ v'.ownBlock = some w.heap.size) → K (a.put (some d) v') w') : o.wp P a w K Q := by
  rw [← hd] at h
  exact wp_append_any w s x t ho base e i z size bytes ht hi hz hsize hby hzs hsz v n xs hs hown B A m c news hx hr h1 h63 hbytes hbase h
theorem own_base {w : World} {base base' e sz n : Nat} {v : Value} {xs : List Value} (h : w.ownsRow base e sz v n xs) (hb : base' ≤ base) : w.ownsRow base' e sz v n xs :=
  ⟨h.1, h.2.imp id fun ⟨g, cap, cur, h1, h2, h3⟩ => ⟨g, cap, cur, h1, Nat.le_trans hb h2, h3⟩⟩
def GrantP (w : World) (g : Nat) (c : Cn) (S : List Ses) (G : List Idk) (to : Mc) (nm sv : List UInt8) (U : List Tg) (e : Ending) (w' : World) : Prop :=
  (∃ s, s ∈ S ∧ Fits to nm s ∧ OneP w to c.m 34915 (discB 101 s.n (tgsB ((257, sv) :: U))) [] e w') ∨
  ((∀ s, s ∈ S → ¬ Fits to nm s) ∧ (c.most ≤ S.length ∨ 2 ≤ ofCard S to) ∧ OneP w to c.m 34915 (discB 101 0 (tgsB ((257, sv) :: (514, []) :: U))) [] e w') ∨
  ((∀ s, s ∈ S → ¬ Fits to nm s) ∧ (S.length : Int) < c.most ∧ ofCard S to < 2 ∧ ∃ p, w.heap.size ≤ p ∧ CnIs w' g { c with last := c.last + 1 } (S ++ [⟨to, c.last + 1, nm, false, p⟩]) G ∧ OneP w to c.m 34915 (discB 101 (c.last + 1) (tgsB ((257, sv) :: U))) [g, c.at_, c.tk] e w')
def ckGood (sec : List UInt8) (m : Mc) (sv ck : List UInt8) (t : Int) : Bool := (sameB ck (md5 (cookL (t / 64 - 1) [m.a, m.b, m.c, m.d, m.e, m.f] sv sec)) || sameB ck (md5 (cookL (t / 64) [m.a, m.b, m.c, m.d, m.e, m.f] sv sec)))

section
variable {w : World} {g : Nat} {c : Cn} {S : List Ses} {G : List Idk}
set_option maxRecDepth 100000 in
set_option maxHeartbeats 16000000 in
theorem grant_ok (to : Mc) (sv : List UInt8) {A : Option Addr} {cap : Nat} {l : List Tg} (t : Int) (ht0 : -9223372036854775808 ≤ t) (ht1 : t ≤ 9223372036854775807) (hT : TgAt w A l) (hl : l.length ≤ 20) (hc : l.length ≤ cap) (hm : cap ≤ maxLen)
    (hto : McOk to) (hck : findN l 260 ≠ 0) (hgd : ckGood c.sec to sv (findS l 260) t = true) (hsz : (tgsB ((257, sv) :: (514, []) :: uniqT l)).length ≤ 1494) (hnm : (findS l 259).length ≤ 2000) (hcl : (findS l 260).length ≤ 2000) (hsec : c.sec.length ≤ 40000)
    (hcon : sv = [] ∨ sv ≠ [] ∧ ∀ W, Fr [] w W → Calls Try.prog 71 #[c.sv, .string (B sv)] W fun e w' => e = .returned (.bool true) ∧ Fr [] W w')
    (h : CnIs w g c S G) (hr : c.last < 60000) (hlS : S.length < 1000) (hmo : c.most ≤ 100000) :
    Calls Try.prog 52 #[.pointer (some ⟨g, 0, none⟩), .agg (mcL to).toArray, .string (B sv), .slice A l.length cap, .int .i64 t] w (GrantP w g c S G to (findS l 259) sv (uniqT l)) := by
  obtain ⟨i0, hi, hz0, hz1, hz2⟩ := info_parts infoTag
  obtain ⟨t1, t2, t3, t4, t5, t6⟩ := to
  have hsvl : sv.length ≤ 1490 := by have := hsz; rw [tgsB, List.flatMap_cons, List.length_append, tgB_len] at this; simp only at this; omega
  have F1 := Lib.hid fun W (hW : Fr [] w W) => find_any 260 (hT.fr0 hW) hl hc hm
  have F2 := Lib.hid fun W (hW : Fr [] w W) => find_any 259 (hT.fr0 hW) hl hc hm
  have UQ := Lib.hid fun W (hW : Fr [] w W) => uniq_any (hT.fr0 hW) hl hc hm
  have SE := Lib.hid fun W (hW : Fr [] w W) => session_ok ⟨t1, t2, t3, t4, t5, t6⟩ (findS l 259) hto hnm (h.fr0 hW) hr hlS hmo
  have CK := Lib.hid fun W => check_any c.sec t1 t2 t3 t4 t5 t6 sv (findS l 260) t W ht0 ht1 hsec (by omega) (by omega)
  unfold ckGood at hgd
  simp only at hgd
  rw [hgd] at CK
  have hnl := findN_le l 260
  obtain ⟨n0, hn0⟩ : ∃ n, findN l 260 = n := ⟨_, rfl⟩
  obtain ⟨ck, hck'⟩ : ∃ x, findS l 260 = x := ⟨_, rfl⟩
  obtain ⟨nm, hnm'⟩ : ∃ x, findS l 259 = x := ⟨_, rfl⟩
  have HFN := Lib.hid hn0
  rw [hn0, hck'] at F1
  rw [hck'] at CK
  rw [hn0] at hck hnl
  rw [hnm'] at F2 SE ⊢
  have hnb : (n0 : Int) ≤ 20 := by omega
  have hnz : ((n0 : Int) == 0) = false := by simpa using hck
  have H := Lib.hid h
  have HTO : Hid (∀ x, x ∈ ((257, sv) :: uniqT l) → TgOk x) := Lib.hid (by
    intro x hx
    rcases List.mem_cons.1 hx with rfl | hx
    · unfold TgOk; simp only; omega
    · unfold uniqT at hx
      split at hx
      · cases hx
      · simp at hx; subst hx; unfold TgOk; simp only; omega)
  have HUL : Hid ((uniqT l).length ≤ 1) := Lib.hid (by unfold uniqT; split <;> simp)
  have HSZ : Hid ((tgsB ((257, sv) :: uniqT l)).length ≤ 1494) := Lib.hid (by
    have := hsz
    unfold tgsB at this ⊢
    simp only [List.flatMap_cons, List.length_append] at this ⊢
    omega)
  have HSZ2 := Lib.hid hsz
  have HX0 : Hid (∀ {Sx : List Nat} (W : World), Fr Sx w W → w.heap.size ≤ W.heap.size) := Lib.hid fun W hW => hW.size
  have hF0 := (Fr.refl [] w).alloc (.cells #[.int .u8 t1, .int .u8 t2, .int .u8 t3, .int .u8 t4, .int .u8 t5, .int .u8 t6] 28 (0, 0))
  have hN0 := Blk.new w #[.int .u8 t1, .int .u8 t2, .int .u8 t3, .int .u8 t4, .int .u8 t5, .int .u8 t6] 28
  have HCON := Lib.hid hcon
  have HLT := Lib.hid hr
  have HTO2 : Hid (∀ x, x ∈ ((257, sv) :: (514, []) :: uniqT l) → TgOk x) := Lib.hid (by
    intro x hx
    rcases List.mem_cons.1 hx with rfl | hx
    · unfold TgOk; simp only; omega
    rcases List.mem_cons.1 hx with rfl | hx
    · unfold TgOk; simp only; omega
    · exact HTO.out x (List.mem_cons_of_mem _ hx))
  unfold mcL at SE ⊢
  simp only at SE ⊢
  clear hT hl hc hm hto hck hgd hsz hnm hcl hsec h hr hlS hmo ht0 ht1 hnl hn0 hck' hnm' hcon
  go_enter Try.func52, Try.ntmps52
  go_wp2_with fail
  refine (F1.out _ hF0).mono ?_
  rintro e w1 ⟨rfl, hF1⟩
  have hbm1 := hF1.blk hN0 (by simp)
  have hFw1 := hF0.trans hF1
  obtain ⟨bm, hbm⟩ : ∃ q, w.heap.size = q := ⟨_, rfl⟩
  rw [hbm] at hbm1 ⊢
  have HBM := Lib.hid hbm
  clear hF0 hN0 hF1 F1 hbm
  go_wp2_with fail
  have HX : Hid (∀ W, (Blk W bm #[.int .u8 t1, .int .u8 t2, .int .u8 t3, .int .u8 t4, .int .u8 t5, .int .u8 t6] 28 ∧ Fr [] w W) → (W.cell? ⟨bm, 0, none⟩ = some (.int .u8 t1) ∧ W.cell? ⟨bm, 1, none⟩ = some (.int .u8 t2) ∧ W.cell? ⟨bm, 2, none⟩ = some (.int .u8 t3) ∧ W.cell? ⟨bm, 3, none⟩ = some (.int .u8 t4) ∧ W.cell? ⟨bm, 4, none⟩ = some (.int .u8 t5) ∧ W.cell? ⟨bm, 5, none⟩ = some (.int .u8 t6) ∧ W.cell? ⟨g, 7, none⟩ = some (.string (B c.sec))) ∧ Blk W bm #[.int .u8 t1, .int .u8 t2, .int .u8 t3, .int .u8 t4, .int .u8 t5, .int .u8 t6] 28 ∧ Fr [] w W) := Lib.hid fun W h => ⟨⟨h.1.c 0 _ rfl, h.1.c 1 _ rfl, h.1.c 2 _ rfl, h.1.c 3 _ rfl, h.1.c 4 _ rfl, h.1.c 5 _ rfl, (h.2.blk H.out.st (by simp)).c 7 _ rfl⟩, h⟩
  have hG0 := HX.out _ ⟨hbm1.drew, hFw1.drew⟩
  clear hbm1 hFw1
  go_region_held3 (fun W => (W.cell? ⟨bm, 0, none⟩ = some (.int .u8 t1) ∧ W.cell? ⟨bm, 1, none⟩ = some (.int .u8 t2) ∧ W.cell? ⟨bm, 2, none⟩ = some (.int .u8 t3) ∧ W.cell? ⟨bm, 3, none⟩ = some (.int .u8 t4) ∧ W.cell? ⟨bm, 4, none⟩ = some (.int .u8 t5) ∧ W.cell? ⟨bm, 5, none⟩ = some (.int .u8 t6) ∧ W.cell? ⟨g, 7, none⟩ = some (.string (B c.sec))) ∧ Blk W bm #[.int .u8 t1, .int .u8 t2, .int .u8 t3, .int .u8 t4, .int .u8 t5, .int .u8 t6] 28 ∧ Fr [] w W)
    (first | exact hG0 | assumption | exact HX.out _ ⟨hFK.blk (And.left (And.right (by assumption))) (by simp), Fr.trans (And.right (And.right (by assumption))) hFK⟩)
    (first | (go_at_call 28; refine (CK.out _).mono ?_; rintro e w2 ⟨rfl, hFK⟩))
  all_goals
    have hb2 : Blk w2 bm #[.int .u8 t1, .int .u8 t2, .int .u8 t3, .int .u8 t4, .int .u8 t5, .int .u8 t6] 28 ∧ Fr [] w w2 := And.right (by assumption)
    obtain ⟨hbm2, hFw2⟩ := hb2
    have hOut0 := World.ownsRow_lit (base := w.heap.size) (e := 54) (size := 2) w2 #[.int .i64 257, .string (B sv)] 1 hFw2.size (by unfold maxLen; omega) rfl
    have hFa := (Fr.refl [] w2).alloc (.cells #[.int .i64 257, .string (B sv)] 54 (0, 0))
    have hbm3 := hFa.blk hbm2 (by simp)
    have hFw3 := hFw2.trans hFa
    clear HX hG0 hFK hbm2 hFw2 hFa CK
    go_wp2_with fail
    obtain ⟨qo, hqo⟩ : ∃ q, w2.heap.size = q := ⟨_, rfl⟩
    obtain ⟨V3, hV3⟩ : ∃ X, w2.alloc (.cells #[.int .i64 257, .string (B sv)] 54 (0, 0)) = X := ⟨_, rfl⟩
    rw [hV3] at hOut0 hbm3 hFw3 ⊢
    have HQO : Hid (qo < V3.heap.size) := Lib.hid (by rw [← hV3, ← hqo]; simp)
    rw [hqo] at hOut0 ⊢
    clear hV3 hqo
    refine (UQ.out _ hFw3).mono ?_
    rintro e w3 ⟨Au, cu, rfl, hUo0, hF3⟩
    have hUo3 := own_base hUo0 hFw3.size
    have hOut3 := own_fr0 hOut0 hF3
    have hbm4 := hF3.blk hbm3 (by simp)
    have hFw4 := hFw3.trans hF3
    have HUQ : Hid (∀ Va Vb : World, Va.ownsRow w.heap.size 54 2 (.slice Au (uniqT l).length cu) (uniqT l).length (tgF (uniqT l)) → Fr [qo] Va Vb → Vb.ownsRow w.heap.size 54 2 (.slice Au (uniqT l).length cu) (uniqT l).length (tgF (uniqT l))) := Lib.hid fun Va Vb h1 h2 => by
      have hq0 : qo < V3.heap.size := HQO.out
      rcases h1.2 with ⟨h3, h4⟩ | ⟨b, cp, cur, h3, h4, h5, h6⟩
      · exact ⟨h1.1, Or.inl ⟨h3, h4⟩⟩
      · have hb := own_new hUo0 b (by rw [h3]; rfl)
        exact ⟨h1.1, Or.inr ⟨b, cp, cur, h3, h4, h2.blk (b := b) h5 (by simp; omega), h6⟩⟩
    clear hUo0 hOut0 hbm3 hFw3 hF3 UQ
    rcases HCON.out with hsv | ⟨hsv, hcc⟩
    · have hie : sv.isEmpty = true := by simp [hsv]
      clear hsv
      go_wp2_with fail
      refine (F2.out _ hFw4).mono ?_
      rintro e w5 ⟨rfl, hF5⟩
      replace hUo3 := own_fr0 hUo3 hF5
      replace hOut3 := own_fr0 hOut3 hF5
      replace hbm4 := hF5.blk hbm4 (by simp)
      replace hFw4 := hFw4.trans hF5
      have z0 := hbm4.c 0 _ rfl
      have z1 := hbm4.c 1 _ rfl
      have z2 := hbm4.c 2 _ rfl
      have z3 := hbm4.c 3 _ rfl
      have z4 := hbm4.c 4 _ rfl
      have z5 := hbm4.c 5 _ rfl
      have SE2 := Lib.hid (SE.out _ hFw4)
      have hC5 := H.out.fr0 hFw4
      have HC5 := Lib.hid hC5
      have HBM4 := Lib.hid hbm4
      have HFW4 := Lib.hid hFw4
      have HU3 := Lib.hid hUo3
      have HO3 := Lib.hid hOut3
      clear hF5 F2 SE hUo3 hOut3 hbm4 hFw4 hC5
      go_wp2_with fail
      refine SE2.out.mono ?_
      rintro e w6 hs
      clear SE2 z0 z1 z2 z3 z4 z5
      cases hs with
      | had sx hs hf w6 hF6 =>
        have hFx := HFW4.out.trans hF6
        have hbm := hF6.blk HBM4.out (by simp)
        have hUo := own_fr0 HU3.out hF6
        have hOut := own_fr0 HO3.out hF6
        have hCn := HC5.out.fr0 hF6
        have hp := hCn.ses sx hs
        obtain ⟨p, hpp⟩ : ∃ p, sx.p = p := ⟨_, rfl⟩
        rw [hpp] at hp ⊢
        obtain ⟨n, hnn⟩ : ∃ n, sx.n = n := ⟨_, rfl⟩
        have HNX := Lib.hid hnn
        have HN0 : Hid (0 ≤ n ∧ n ≤ 65535) := Lib.hid (by have h1 := H.out.num sx hs; have h2 := HLT.out; omega)
        have HIN := Lib.hid hs
        have HFT := Lib.hid hf
        obtain ⟨V, hV⟩ : ∃ V, w6 = V := ⟨_, rfl⟩
        rw [hV] at hFx hbm hUo hOut hCn hp ⊢
        clear hV hF6 hs hf hpp hnn HC5 HBM4 HFW4 HU3 HO3
        go_wp2_with fail
        have HX : Hid (∀ W, (Blk W bm #[.int .u8 t1, .int .u8 t2, .int .u8 t3, .int .u8 t4, .int .u8 t5, .int .u8 t6] 28 ∧ Blk W p (seC sx) 63 ∧ CnIs W g c S G ∧ Fr [] w W) → (fun W => (W.cell? ⟨bm, 0, none⟩ = some (.int .u8 t1) ∧ W.cell? ⟨bm, 1, none⟩ = some (.int .u8 t2) ∧ W.cell? ⟨bm, 2, none⟩ = some (.int .u8 t3) ∧ W.cell? ⟨bm, 3, none⟩ = some (.int .u8 t4) ∧ W.cell? ⟨bm, 4, none⟩ = some (.int .u8 t5) ∧ W.cell? ⟨bm, 5, none⟩ = some (.int .u8 t6) ∧ W.cell? ⟨p, 6, none⟩ = some (.int .i64 n)) ∧ Blk W bm #[.int .u8 t1, .int .u8 t2, .int .u8 t3, .int .u8 t4, .int .u8 t5, .int .u8 t6] 28 ∧ Blk W p (seC sx) 63 ∧ CnIs W g c S G ∧ Fr [] w W) W) := Lib.hid fun W h => ⟨⟨h.1.c 0 _ rfl, h.1.c 1 _ rfl, h.1.c 2 _ rfl, h.1.c 3 _ rfl, h.1.c 4 _ rfl, h.1.c 5 _ rfl, by have h6 := h.2.1.c 6 (.int .i64 sx.n) rfl; rw [HNX.out] at h6; exact h6⟩, h⟩
        refine wp_region_held_drew (S := (fun W => (W.cell? ⟨bm, 0, none⟩ = some (.int .u8 t1) ∧ W.cell? ⟨bm, 1, none⟩ = some (.int .u8 t2) ∧ W.cell? ⟨bm, 2, none⟩ = some (.int .u8 t3) ∧ W.cell? ⟨bm, 3, none⟩ = some (.int .u8 t4) ∧ W.cell? ⟨bm, 4, none⟩ = some (.int .u8 t5) ∧ W.cell? ⟨bm, 5, none⟩ = some (.int .u8 t6) ∧ W.cell? ⟨p, 6, none⟩ = some (.int .i64 n)) ∧ Blk W bm #[.int .u8 t1, .int .u8 t2, .int .u8 t3, .int .u8 t4, .int .u8 t5, .int .u8 t6] 28 ∧ Blk W p (seC sx) 63 ∧ CnIs W g c S G ∧ Fr [] w W)) (by kernel_rfl) ?_ (fun hHeld => ?_)
        · (try dsimp only); exact HX.out _ ⟨hbm.drew, hp.drew, hCn.fr0 (Fr.refl _ _).drew, hFx.drew⟩
        have hUo1 := own_fr0 hUo (Fr.refl _ V).drew
        have hOut1 := own_fr0 hOut (Fr.refl _ V).drew
        obtain ⟨v0, hv⟩ : ∃ X, V.drew = X := ⟨_, rfl⟩
        rw [hv] at hHeld hUo1 hOut1 ⊢
        clear hv hUo hOut hbm hp hCn hFx
        refine take_yes 0 82 rfl rfl (by kernel_rfl) (by kernel_rfl) (by kernel_rfl) (fun _ _ _ h => h) (by rfl) (by assumption) (v := ?_) ?_ ?_
        rotate_left
        · intro w hSw; (try dsimp only at hSw); go_simp; (try with_reducible rfl)
        try simp only [Act.put, List.setIfInBounds_toArray, List.set_cons_zero, List.set_cons_succ]
        refine take_yes 1 83 rfl rfl (by kernel_rfl) (by kernel_rfl) (by kernel_rfl) (fun _ _ _ h => h) (by rfl) (by assumption) (v := ?_) ?_ ?_
        rotate_left
        · intro w hSw; (try dsimp only at hSw); go_simp; (try with_reducible rfl)
        try simp only [Act.put, List.setIfInBounds_toArray, List.set_cons_zero, List.set_cons_succ]
        refine take_yes 2 84 rfl rfl (by kernel_rfl) (by kernel_rfl) (by kernel_rfl) (fun _ _ _ h => h) (by rfl) (by assumption) (v := ?_) ?_ ?_
        rotate_left
        · intro w hSw; (try dsimp only at hSw); go_simp; (try with_reducible rfl)
        try simp only [Act.put, List.setIfInBounds_toArray, List.set_cons_zero, List.set_cons_succ]
        refine take_yes 3 85 rfl rfl (by kernel_rfl) (by kernel_rfl) (by kernel_rfl) (fun _ _ _ h => h) (by rfl) (by assumption) (v := ?_) ?_ ?_
        rotate_left
        · intro w hSw; (try dsimp only at hSw); go_simp; (try with_reducible rfl)
        try simp only [Act.put, List.setIfInBounds_toArray, List.set_cons_zero, List.set_cons_succ]
        refine take_yes 4 86 rfl rfl (by kernel_rfl) (by kernel_rfl) (by kernel_rfl) (fun _ _ _ h => h) (by rfl) (by assumption) (v := ?_) ?_ ?_
        rotate_left
        · intro w hSw; (try dsimp only at hSw); go_simp; (try with_reducible rfl)
        try simp only [Act.put, List.setIfInBounds_toArray, List.set_cons_zero, List.set_cons_succ]
        refine take_yes 5 87 rfl rfl (by kernel_rfl) (by kernel_rfl) (by kernel_rfl) (fun _ _ _ h => h) (by rfl) (by assumption) (v := ?_) ?_ ?_
        rotate_left
        · intro w hSw; (try dsimp only at hSw); go_simp; (try with_reducible rfl)
        try simp only [Act.put, List.setIfInBounds_toArray, List.set_cons_zero, List.set_cons_succ]
        refine take_yes 6 88 rfl rfl (by kernel_rfl) (by kernel_rfl) (by kernel_rfl) (fun _ _ _ h => h) (by rfl) (by assumption) (v := ?_) ?_ ?_
        rotate_left
        · intro w hSw; (try dsimp only at hSw); go_simp; (try with_reducible rfl)
        try simp only [Act.put, List.setIfInBounds_toArray, List.set_cons_zero, List.set_cons_succ]
        refine take_yes 7 89 rfl rfl (by kernel_rfl) (by kernel_rfl) (by kernel_rfl) (fun _ _ _ h => h) (by rfl) (by assumption) (v := ?_) ?_ ?_
        rotate_left
        · intro w hSw; (try dsimp only at hSw); go_simp; (try with_reducible rfl)
        try simp only [Act.put, List.setIfInBounds_toArray, List.set_cons_zero, List.set_cons_succ]
        refine take_yes 8 90 rfl rfl (by kernel_rfl) (by kernel_rfl) (by kernel_rfl) (fun _ _ _ h => h) (by rfl) (by assumption) (v := ?_) ?_ ?_
        rotate_left
        · intro w hSw; (try dsimp only at hSw); go_simp; (try with_reducible rfl)
        try simp only [Act.put, List.setIfInBounds_toArray, List.set_cons_zero, List.set_cons_succ]
        refine wpAnyH_ready (rs := [9]) (by kernel_rfl) (by simp) ?_
        refine AllReadyH.cons (o := _) rfl (fun K hK => ?_) AllReadyH.nil
        rw [if_pos (by rfl)]
        refine app_any _ 91 rfl (.tmp 89) (.tmp 90) 90 rfl w.heap.size 54 i0 (.agg #[.int .i64 0, .string ⟨#[]⟩]) 2 24 Try.underlying90 hi hz0 hz1 hz2 rfl (by decide) _ 1 _ rfl hOut1 _ _ _ _ _ rfl (Reads.of_own hUo1) (tgF_one _) ?_ ?_ ?_ ?_
        · have := HUL.out; unfold maxLen; omega
        · have := HUL.out; omega
        · exact HX0.out _ hHeld.2.2.2.2
        intro va v1 hownA hgrA hrowA
        have hFg := Fr.of_grown hgrA
        have hK1 := keep_grown hOut1 hFg hHeld.2.1 (by decide)
        have hK2 := keep_grown hOut1 hFg hHeld.2.2.1 (by decide)
        have hK3 := CnIs.grown hHeld.2.2.2.1 hOut1 hFg (by decide) (by decide) (by decide)
        have hK4 := hHeld.2.2.2.2.grown hgrA (fun q hq => own_new hOut1 q hq)
        obtain ⟨A1, c1, rfl⟩ := own_slice hownA
        have hcp := own_caps hownA
        clear hFg hgrA hrowA hUo1 hOut1 hHeld
        refine hK.out _ _ ?_ (fun hHeld => ?_)
        · (try dsimp only); exact HX.out _ ⟨hK1, hK2, hK3, hK4⟩
        clear hK K
        try simp only [Act.put, List.setIfInBounds_toArray, List.set_cons_zero, List.set_cons_succ]
        have hlen : 1 + (uniqT l).length = ((257, sv) :: uniqT l).length := by simp; omega
        have hTx := TgAt.of_own (l := (257, sv) :: uniqT l) (by rw [← hlen]; exact hownA)
        have FRx := Lib.hid (cframe_any (c0 := c) ⟨t1, t2, t3, t4, t5, t6⟩ 101 n hTx HTO.out (by simp; have := HUL.out; omega) (by rw [← hlen]; exact hcp.1) hcp.2 HSZ.out (by decide) (by decide) HN0.out.1 HN0.out.2 hK3.st)
        rw [← hlen] at FRx
        unfold mcL at FRx
        simp only at FRx
        have HK3 := Lib.hid hK3
        have HK4 := Lib.hid hK4
        clear hlen hTx hownA hcp hK1 hK2 hK3 hK4
        refine wpAnyH_ready (rs := [10]) (by kernel_rfl) (by simp) ?_
        refine AllReadyH.cons (o := _) rfl (fun K hK => ?_) AllReadyH.nil
        go_simp
        refine FRx.out.mono ?_
        rintro e v2 ⟨q, rfl, hq, hN, hF2⟩
        have hCn2 := HK3.out.fr0 hF2
        have hFw := HK4.out.trans (hF2.mono (S' := []) (by simp))
        have hqw := Nat.le_trans HK4.out.size hq
        (try go_wp2_with fail)
        refine hK.out _ _ ?_ (fun hHeld => ?_)
        · (try dsimp only); exact HX.out _ ⟨hF2.blk hHeld.2.1 (by simp), hF2.blk hHeld.2.2.1 (by simp), hCn2, hFw⟩
        clear hK K
        try simp only [Act.put, List.setIfInBounds_toArray, List.set_cons_zero, List.set_cons_succ]
        refine take_yes 11 10 rfl rfl (by kernel_rfl) (by kernel_rfl) (by kernel_rfl) (fun _ _ _ h => h) (by rfl) (by assumption) (v := ?_) ?_ ?_
        rotate_left
        · intro w hSw; (try dsimp only at hSw); go_simp; (try with_reducible rfl)
        try simp only [Act.put, List.setIfInBounds_toArray, List.set_cons_zero, List.set_cons_succ]
        refine wpAnyH_done (by kernel_rfl) ?_ _
        have HZ : Hid (GrantP w g c S G ⟨t1, t2, t3, t4, t5, t6⟩ nm sv (uniqT l) (.returned (.slice (some ⟨q, 0, none⟩) 1 1)) v2) := Lib.hid (Or.inl ⟨sx, HIN.out, HFT.out, q, rfl, hqw, by rw [HNX.out]; exact hN, hFw⟩)
        clear hq hN hF2 hCn2 hFw hqw
        go_wp2_with fail
        go_ret
        exact HZ.out
      | full hn hr w6 hF6 =>
        have hFx := HFW4.out.trans hF6
        have hbm := hF6.blk HBM4.out (by simp)
        have hUo := own_fr0 HU3.out hF6
        have hOut := own_fr0 HO3.out hF6
        have hCn := (HC5.out.fr0 hF6).st
        have HNF := Lib.hid hn
        have HR1 := Lib.hid hr
        obtain ⟨V, hV⟩ : ∃ V, w6 = V := ⟨_, rfl⟩
        rw [hV] at hFx hbm hUo hOut hCn ⊢
        clear hV hF6 hn hr HC5 HBM4 HFW4 HU3 HO3
        go_wp2_with fail
        have HX : Hid (∀ W, (Blk W bm #[.int .u8 t1, .int .u8 t2, .int .u8 t3, .int .u8 t4, .int .u8 t5, .int .u8 t6] 28 ∧ Blk W g (cnC c) 85 ∧ Fr [] w W) → (fun W => (W.cell? ⟨bm, 0, none⟩ = some (.int .u8 t1) ∧ W.cell? ⟨bm, 1, none⟩ = some (.int .u8 t2) ∧ W.cell? ⟨bm, 2, none⟩ = some (.int .u8 t3) ∧ W.cell? ⟨bm, 3, none⟩ = some (.int .u8 t4) ∧ W.cell? ⟨bm, 4, none⟩ = some (.int .u8 t5) ∧ W.cell? ⟨bm, 5, none⟩ = some (.int .u8 t6)) ∧ Blk W bm #[.int .u8 t1, .int .u8 t2, .int .u8 t3, .int .u8 t4, .int .u8 t5, .int .u8 t6] 28 ∧ Blk W g (cnC c) 85 ∧ Fr [] w W) W) := Lib.hid fun W h => ⟨⟨h.1.c 0 _ rfl, h.1.c 1 _ rfl, h.1.c 2 _ rfl, h.1.c 3 _ rfl, h.1.c 4 _ rfl, h.1.c 5 _ rfl⟩, h⟩
        refine wp_region_held_drew (S := (fun W => (W.cell? ⟨bm, 0, none⟩ = some (.int .u8 t1) ∧ W.cell? ⟨bm, 1, none⟩ = some (.int .u8 t2) ∧ W.cell? ⟨bm, 2, none⟩ = some (.int .u8 t3) ∧ W.cell? ⟨bm, 3, none⟩ = some (.int .u8 t4) ∧ W.cell? ⟨bm, 4, none⟩ = some (.int .u8 t5) ∧ W.cell? ⟨bm, 5, none⟩ = some (.int .u8 t6)) ∧ Blk W bm #[.int .u8 t1, .int .u8 t2, .int .u8 t3, .int .u8 t4, .int .u8 t5, .int .u8 t6] 28 ∧ Blk W g (cnC c) 85 ∧ Fr [] w W)) (by kernel_rfl) ?_ (fun hHeld => ?_)
        · (try dsimp only); exact HX.out _ ⟨hbm.drew, hCn.drew, hFx.drew⟩
        have hUo1 := own_fr0 hUo (Fr.refl _ V).drew
        have hOut1 := own_fr0 hOut (Fr.refl _ V).drew
        obtain ⟨v0, hv⟩ : ∃ X, V.drew = X := ⟨_, rfl⟩
        rw [hv] at hHeld hUo1 hOut1 ⊢
        clear hv hUo hOut hbm hCn hFx
        refine take_yes 0 73 rfl rfl (by kernel_rfl) (by kernel_rfl) (by kernel_rfl) (fun _ _ _ h => h) (by rfl) (by assumption) (v := ?_) ?_ ?_
        rotate_left
        · intro w hSw; (try dsimp only at hSw); go_simp; (try with_reducible rfl)
        try simp only [Act.put, List.setIfInBounds_toArray, List.set_cons_zero, List.set_cons_succ]
        refine take_yes 1 74 rfl rfl (by kernel_rfl) (by kernel_rfl) (by kernel_rfl) (fun _ _ _ h => h) (by rfl) (by assumption) (v := ?_) ?_ ?_
        rotate_left
        · intro w hSw; (try dsimp only at hSw); go_simp; (try with_reducible rfl)
        try simp only [Act.put, List.setIfInBounds_toArray, List.set_cons_zero, List.set_cons_succ]
        refine take_yes 2 75 rfl rfl (by kernel_rfl) (by kernel_rfl) (by kernel_rfl) (fun _ _ _ h => h) (by rfl) (by assumption) (v := ?_) ?_ ?_
        rotate_left
        · intro w hSw; (try dsimp only at hSw); go_simp; (try with_reducible rfl)
        try simp only [Act.put, List.setIfInBounds_toArray, List.set_cons_zero, List.set_cons_succ]
        refine take_yes 3 76 rfl rfl (by kernel_rfl) (by kernel_rfl) (by kernel_rfl) (fun _ _ _ h => h) (by rfl) (by assumption) (v := ?_) ?_ ?_
        rotate_left
        · intro w hSw; (try dsimp only at hSw); go_simp; (try with_reducible rfl)
        try simp only [Act.put, List.setIfInBounds_toArray, List.set_cons_zero, List.set_cons_succ]
        refine take_yes 6 79 rfl rfl (by kernel_rfl) (by kernel_rfl) (by kernel_rfl) (fun _ _ _ h => h) (by rfl) (by assumption) (v := ?_) ?_ ?_
        rotate_left
        · intro w hSw; (try dsimp only at hSw); go_simp; (try with_reducible rfl)
        try simp only [Act.put, List.setIfInBounds_toArray, List.set_cons_zero, List.set_cons_succ]
        refine wpAnyH_ready (rs := [4]) (by kernel_rfl) (by simp) ?_
        refine AllReadyH.cons (o := _) rfl (fun K hK => ?_) AllReadyH.nil
        go_simp
        (try go_wp2_with fail)
        have hFa : Fr [] v0 (v0.alloc (.cells #[.int .i64 514, .string ⟨#[]⟩] 54 (0, 0))) := (Fr.refl _ _).alloc _
        have hOwnX := World.ownsRow_lit (base := w.heap.size) (e := 54) (size := 2) v0 #[.int .i64 514, .string ⟨#[]⟩] 1 (HX0.out _ hHeld.2.2.2) (by unfold maxLen; omega) rfl
        have hUo2 := own_fr0 hUo1 hFa
        have hOut2 := own_fr0 hOut1 hFa
        obtain ⟨v1, hv⟩ : ∃ X, v0.alloc (.cells #[.int .i64 514, .string ⟨#[]⟩] 54 (0, 0)) = X := ⟨_, rfl⟩
        obtain ⟨qx, hqx⟩ : ∃ q, v0.heap.size = q := ⟨_, rfl⟩
        rw [hv] at hFa hUo2 hOut2 hOwnX ⊢
        rw [hqx] at hOwnX ⊢
        clear hv hqx hUo1 hOut1
        refine hK.out _ _ ?_ (fun hHeld1 => ?_)
        · (try dsimp only); exact HX.out _ ⟨hFa.blk hHeld.2.1 (by simp), hFa.blk hHeld.2.2.1 (by simp), hHeld.2.2.2.trans hFa⟩
        clear hK K hFa hHeld
        try simp only [Act.put, List.setIfInBounds_toArray, List.set_cons_zero, List.set_cons_succ]
        refine wpAnyH_ready (rs := [5]) (by kernel_rfl) (by simp) ?_
        refine AllReadyH.cons (o := _) rfl (fun K hK => ?_) AllReadyH.nil
        rw [if_pos (by rfl)]
        refine app_any _ 78 rfl (.tmp 75) (.tmp 77) 90 rfl w.heap.size 54 i0 (.agg #[.int .i64 0, .string ⟨#[]⟩]) 2 24 Try.underlying90 hi hz0 hz1 hz2 rfl (by decide) _ 1 _ rfl hOut2 _ _ _ _ _ rfl (Reads.of_own hOwnX) (by simp [Value.oneCell']) ?_ ?_ ?_ ?_
        · unfold maxLen; omega
        · omega
        · exact HX0.out _ hHeld1.2.2.2
        intro va v2 hownA hgrA hrowA
        have hFg := Fr.of_grown hgrA
        have hK1 := keep_grown hOut2 hFg hHeld1.2.1 (by decide)
        have hK2 := keep_grown hOut2 hFg hHeld1.2.2.1 (by decide)
        have hK4 := hHeld1.2.2.2.grown hgrA (fun q hq => own_new hOut2 q hq)
        have hUo3 : v2.ownsRow w.heap.size 54 2 (.slice Au (uniqT l).length cu) (uniqT l).length (tgF (uniqT l)) := HUQ.out v1 v2 hUo2 hFg
        clear hFg hgrA hrowA hUo2 hOut2 hHeld1 hOwnX
        refine hK.out _ _ ?_ (fun hHeld => ?_)
        · (try dsimp only); exact HX.out _ ⟨hK1, hK2, hK4⟩
        clear hK K
        try simp only [Act.put, List.setIfInBounds_toArray, List.set_cons_zero, List.set_cons_succ]
        refine wpAnyH_ready (rs := [7]) (by kernel_rfl) (by simp) ?_
        refine AllReadyH.cons (o := _) rfl (fun K hK => ?_) AllReadyH.nil
        rw [if_pos (by rfl)]
        refine app_any _ 80 rfl (.tmp 78) (.tmp 79) 90 rfl w.heap.size 54 i0 (.agg #[.int .i64 0, .string ⟨#[]⟩]) 2 24 Try.underlying90 hi hz0 hz1 hz2 rfl (by decide) _ 2 _ rfl hownA _ _ _ _ _ rfl (Reads.of_own hUo3) (tgF_one _) ?_ ?_ ?_ ?_
        · have := HUL.out; unfold maxLen; omega
        · have := HUL.out; omega
        · exact HX0.out _ hK4
        intro vb v3 hownB hgrB hrowB
        have hFg := Fr.of_grown hgrB
        have hK5 := keep_grown hownA hFg hK1 (by decide)
        have hK6 := keep_grown hownA hFg hK2 (by decide)
        have hK7 := hK4.grown hgrB (fun q hq => own_new hownA q hq)
        obtain ⟨A1, c1, rfl⟩ := own_slice hownB
        have hcp := own_caps hownB
        clear hFg hgrB hrowB hownA hUo3 hHeld hK1 hK2 hK4
        refine hK.out _ _ ?_ (fun hHeld => ?_)
        · (try dsimp only); exact HX.out _ ⟨hK5, hK6, hK7⟩
        clear hK K
        try simp only [Act.put, List.setIfInBounds_toArray, List.set_cons_zero, List.set_cons_succ]
        have hlen : 2 + (uniqT l).length = ((257, sv) :: (514, []) :: uniqT l).length := by simp; omega
        have hTx := TgAt.of_own (l := (257, sv) :: (514, []) :: uniqT l) (by rw [← hlen]; exact hownB)
        have FRx := Lib.hid (cframe_any (c0 := c) ⟨t1, t2, t3, t4, t5, t6⟩ 101 0 hTx HTO2.out (by simp; have := HUL.out; omega) (by rw [← hlen]; exact hcp.1) hcp.2 HSZ2.out (by decide) (by decide) (by decide) (by decide) hK6)
        rw [← hlen] at FRx
        unfold mcL at FRx
        simp only at FRx
        have HK7 := Lib.hid hK7
        clear hlen hTx hownB hcp hK5 hK6 hK7
        refine wpAnyH_ready (rs := [8]) (by kernel_rfl) (by simp) ?_
        refine AllReadyH.cons (o := _) rfl (fun K hK => ?_) AllReadyH.nil
        go_simp
        refine FRx.out.mono ?_
        rintro e v4 ⟨q, rfl, hq, hN, hF2⟩
        have hFw := HK7.out.trans hF2
        have hqw := Nat.le_trans HK7.out.size hq
        (try go_wp2_with fail)
        refine hK.out _ _ ?_ (fun hHeld1 => ?_)
        · (try dsimp only); exact HX.out _ ⟨hF2.blk hHeld.2.1 (by simp), hF2.blk hHeld.2.2.1 (by simp), hFw⟩
        clear hK K
        try simp only [Act.put, List.setIfInBounds_toArray, List.set_cons_zero, List.set_cons_succ]
        refine take_yes 9 10 rfl rfl (by kernel_rfl) (by kernel_rfl) (by kernel_rfl) (fun _ _ _ h => h) (by rfl) (by assumption) (v := ?_) ?_ ?_
        rotate_left
        · intro w hSw; (try dsimp only at hSw); go_simp; (try with_reducible rfl)
        try simp only [Act.put, List.setIfInBounds_toArray, List.set_cons_zero, List.set_cons_succ]
        refine wpAnyH_done (by kernel_rfl) ?_ _
        have HZ : Hid (GrantP w g c S G ⟨t1, t2, t3, t4, t5, t6⟩ nm sv (uniqT l) (.returned (.slice (some ⟨q, 0, none⟩) 1 1)) v4) := Lib.hid (Or.inr (Or.inl ⟨HNF.out, HR1.out, q, rfl, hqw, hN, hFw⟩))
        clear hq hN hF2 hFw hqw
        go_wp2_with fail
        go_ret
        exact HZ.out
      | made hn h1 h2 p w6 hp0 hC hF6 =>
        have hno : ∀ q cs U, Blk _ q cs U → U ≠ 85 → q ∉ [g, c.at_, c.tk] := fun q cs U hq hU => by
          have a1 := hq.ne_type HC5.out.st hU
          have a2 := HC5.out.hM.not_blk hq
          have a3 := HC5.out.tM.not_blk hq
          simp; exact ⟨a1, a2, a3⟩
        have hFx := (HFW4.out.mono (S' := [g, c.at_, c.tk]) (by simp)).trans hF6
        have hbm := hF6.blk HBM4.out (hno _ _ _ HBM4.out (by decide))
        have hUo := own_frS HU3.out hF6 (fun q cur hq => hno q cur _ hq (by decide))
        have hOut := own_frS HO3.out hF6 (fun q cur hq => hno q cur _ hq (by decide))
        have hCn := hC
        obtain ⟨sx, hsx⟩ : ∃ sx, (⟨⟨t1, t2, t3, t4, t5, t6⟩, c.last + 1, nm, false, p⟩ : Ses) = sx := ⟨_, rfl⟩
        have hp := hCn.ses ⟨⟨t1, t2, t3, t4, t5, t6⟩, c.last + 1, nm, false, p⟩ (by simp)
        simp only at hp
        rw [hsx] at hp
        obtain ⟨n, hnn⟩ : ∃ n, c.last + 1 = n := ⟨_, rfl⟩
        have HNL := Lib.hid hnn
        have HNX : Hid (sx.n = n) := Lib.hid (by rw [← hsx]; exact hnn)
        have HN0 : Hid (0 ≤ n ∧ n ≤ 65535) := Lib.hid (by have h1 := H.out.last; have h2 := HLT.out; omega)
        have HNF := Lib.hid hn
        have HR1 := Lib.hid h1
        have HR2 := Lib.hid h2
        have HPW : Hid (w.heap.size ≤ p) := Lib.hid (Nat.le_trans HFW4.out.size hp0)
        obtain ⟨V, hV⟩ : ∃ V, w6 = V := ⟨_, rfl⟩
        rw [hV] at hFx hbm hUo hOut hCn hp ⊢
        clear hV hF6 hn h1 h2 hp0 hC hno hsx hnn HC5 HBM4 HFW4 HU3 HO3
        go_wp2_with fail
        have HX : Hid (∀ W, (Blk W bm #[.int .u8 t1, .int .u8 t2, .int .u8 t3, .int .u8 t4, .int .u8 t5, .int .u8 t6] 28 ∧ Blk W p (seC sx) 63 ∧ CnIs W g { c with last := c.last + 1 } (S ++ [⟨⟨t1, t2, t3, t4, t5, t6⟩, c.last + 1, nm, false, p⟩]) G ∧ Fr [g, c.at_, c.tk] w W) → (fun W => (W.cell? ⟨bm, 0, none⟩ = some (.int .u8 t1) ∧ W.cell? ⟨bm, 1, none⟩ = some (.int .u8 t2) ∧ W.cell? ⟨bm, 2, none⟩ = some (.int .u8 t3) ∧ W.cell? ⟨bm, 3, none⟩ = some (.int .u8 t4) ∧ W.cell? ⟨bm, 4, none⟩ = some (.int .u8 t5) ∧ W.cell? ⟨bm, 5, none⟩ = some (.int .u8 t6) ∧ W.cell? ⟨p, 6, none⟩ = some (.int .i64 n)) ∧ Blk W bm #[.int .u8 t1, .int .u8 t2, .int .u8 t3, .int .u8 t4, .int .u8 t5, .int .u8 t6] 28 ∧ Blk W p (seC sx) 63 ∧ CnIs W g { c with last := c.last + 1 } (S ++ [⟨⟨t1, t2, t3, t4, t5, t6⟩, c.last + 1, nm, false, p⟩]) G ∧ Fr [g, c.at_, c.tk] w W) W) := Lib.hid fun W h => ⟨⟨h.1.c 0 _ rfl, h.1.c 1 _ rfl, h.1.c 2 _ rfl, h.1.c 3 _ rfl, h.1.c 4 _ rfl, h.1.c 5 _ rfl, by have h6 := h.2.1.c 6 (.int .i64 sx.n) rfl; rw [HNX.out] at h6; exact h6⟩, h⟩
        refine wp_region_held_drew (S := (fun W => (W.cell? ⟨bm, 0, none⟩ = some (.int .u8 t1) ∧ W.cell? ⟨bm, 1, none⟩ = some (.int .u8 t2) ∧ W.cell? ⟨bm, 2, none⟩ = some (.int .u8 t3) ∧ W.cell? ⟨bm, 3, none⟩ = some (.int .u8 t4) ∧ W.cell? ⟨bm, 4, none⟩ = some (.int .u8 t5) ∧ W.cell? ⟨bm, 5, none⟩ = some (.int .u8 t6) ∧ W.cell? ⟨p, 6, none⟩ = some (.int .i64 n)) ∧ Blk W bm #[.int .u8 t1, .int .u8 t2, .int .u8 t3, .int .u8 t4, .int .u8 t5, .int .u8 t6] 28 ∧ Blk W p (seC sx) 63 ∧ CnIs W g { c with last := c.last + 1 } (S ++ [⟨⟨t1, t2, t3, t4, t5, t6⟩, c.last + 1, nm, false, p⟩]) G ∧ Fr [g, c.at_, c.tk] w W)) (by kernel_rfl) ?_ (fun hHeld => ?_)
        · (try dsimp only); exact HX.out _ ⟨hbm.drew, hp.drew, hCn.fr0 (Fr.refl _ _).drew, hFx.drew⟩
        have hUo1 := own_fr0 hUo (Fr.refl _ V).drew
        have hOut1 := own_fr0 hOut (Fr.refl _ V).drew
        obtain ⟨v0, hv⟩ : ∃ X, V.drew = X := ⟨_, rfl⟩
        rw [hv] at hHeld hUo1 hOut1 ⊢
        clear hv hUo hOut hbm hp hCn hFx
        refine take_yes 0 82 rfl rfl (by kernel_rfl) (by kernel_rfl) (by kernel_rfl) (fun _ _ _ h => h) (by rfl) (by assumption) (v := ?_) ?_ ?_
        rotate_left
        · intro w hSw; (try dsimp only at hSw); go_simp; (try with_reducible rfl)
        try simp only [Act.put, List.setIfInBounds_toArray, List.set_cons_zero, List.set_cons_succ]
        refine take_yes 1 83 rfl rfl (by kernel_rfl) (by kernel_rfl) (by kernel_rfl) (fun _ _ _ h => h) (by rfl) (by assumption) (v := ?_) ?_ ?_
        rotate_left
        · intro w hSw; (try dsimp only at hSw); go_simp; (try with_reducible rfl)
        try simp only [Act.put, List.setIfInBounds_toArray, List.set_cons_zero, List.set_cons_succ]
        refine take_yes 2 84 rfl rfl (by kernel_rfl) (by kernel_rfl) (by kernel_rfl) (fun _ _ _ h => h) (by rfl) (by assumption) (v := ?_) ?_ ?_
        rotate_left
        · intro w hSw; (try dsimp only at hSw); go_simp; (try with_reducible rfl)
        try simp only [Act.put, List.setIfInBounds_toArray, List.set_cons_zero, List.set_cons_succ]
        refine take_yes 3 85 rfl rfl (by kernel_rfl) (by kernel_rfl) (by kernel_rfl) (fun _ _ _ h => h) (by rfl) (by assumption) (v := ?_) ?_ ?_
        rotate_left
        · intro w hSw; (try dsimp only at hSw); go_simp; (try with_reducible rfl)
        try simp only [Act.put, List.setIfInBounds_toArray, List.set_cons_zero, List.set_cons_succ]
        refine take_yes 4 86 rfl rfl (by kernel_rfl) (by kernel_rfl) (by kernel_rfl) (fun _ _ _ h => h) (by rfl) (by assumption) (v := ?_) ?_ ?_
        rotate_left
        · intro w hSw; (try dsimp only at hSw); go_simp; (try with_reducible rfl)
        try simp only [Act.put, List.setIfInBounds_toArray, List.set_cons_zero, List.set_cons_succ]
        refine take_yes 5 87 rfl rfl (by kernel_rfl) (by kernel_rfl) (by kernel_rfl) (fun _ _ _ h => h) (by rfl) (by assumption) (v := ?_) ?_ ?_
        rotate_left
        · intro w hSw; (try dsimp only at hSw); go_simp; (try with_reducible rfl)
        try simp only [Act.put, List.setIfInBounds_toArray, List.set_cons_zero, List.set_cons_succ]
        refine take_yes 6 88 rfl rfl (by kernel_rfl) (by kernel_rfl) (by kernel_rfl) (fun _ _ _ h => h) (by rfl) (by assumption) (v := ?_) ?_ ?_
        rotate_left
        · intro w hSw; (try dsimp only at hSw); go_simp; (try with_reducible rfl)
        try simp only [Act.put, List.setIfInBounds_toArray, List.set_cons_zero, List.set_cons_succ]
        refine take_yes 7 89 rfl rfl (by kernel_rfl) (by kernel_rfl) (by kernel_rfl) (fun _ _ _ h => h) (by rfl) (by assumption) (v := ?_) ?_ ?_
        rotate_left
        · intro w hSw; (try dsimp only at hSw); go_simp; (try with_reducible rfl)
        try simp only [Act.put, List.setIfInBounds_toArray, List.set_cons_zero, List.set_cons_succ]
        refine take_yes 8 90 rfl rfl (by kernel_rfl) (by kernel_rfl) (by kernel_rfl) (fun _ _ _ h => h) (by rfl) (by assumption) (v := ?_) ?_ ?_
        rotate_left
        · intro w hSw; (try dsimp only at hSw); go_simp; (try with_reducible rfl)
        try simp only [Act.put, List.setIfInBounds_toArray, List.set_cons_zero, List.set_cons_succ]
        refine wpAnyH_ready (rs := [9]) (by kernel_rfl) (by simp) ?_
        refine AllReadyH.cons (o := _) rfl (fun K hK => ?_) AllReadyH.nil
        rw [if_pos (by rfl)]
        refine app_any _ 91 rfl (.tmp 89) (.tmp 90) 90 rfl w.heap.size 54 i0 (.agg #[.int .i64 0, .string ⟨#[]⟩]) 2 24 Try.underlying90 hi hz0 hz1 hz2 rfl (by decide) _ 1 _ rfl hOut1 _ _ _ _ _ rfl (Reads.of_own hUo1) (tgF_one _) ?_ ?_ ?_ ?_
        · have := HUL.out; unfold maxLen; omega
        · have := HUL.out; omega
        · exact HX0.out _ hHeld.2.2.2.2
        intro va v1 hownA hgrA hrowA
        have hFg := Fr.of_grown hgrA
        have hK1 := keep_grown hOut1 hFg hHeld.2.1 (by decide)
        have hK2 := keep_grown hOut1 hFg hHeld.2.2.1 (by decide)
        have hK3 := CnIs.grown hHeld.2.2.2.1 hOut1 hFg (by decide) (by decide) (by decide)
        have hK4 := hHeld.2.2.2.2.grown hgrA (fun q hq => own_new hOut1 q hq)
        obtain ⟨A1, c1, rfl⟩ := own_slice hownA
        have hcp := own_caps hownA
        clear hFg hgrA hrowA hUo1 hOut1 hHeld
        refine hK.out _ _ ?_ (fun hHeld => ?_)
        · (try dsimp only); exact HX.out _ ⟨hK1, hK2, hK3, hK4⟩
        clear hK K
        try simp only [Act.put, List.setIfInBounds_toArray, List.set_cons_zero, List.set_cons_succ]
        have hlen : 1 + (uniqT l).length = ((257, sv) :: uniqT l).length := by simp; omega
        have hTx := TgAt.of_own (l := (257, sv) :: uniqT l) (by rw [← hlen]; exact hownA)
        have FRx := Lib.hid (cframe_any (c0 := { c with last := c.last + 1 }) ⟨t1, t2, t3, t4, t5, t6⟩ 101 n hTx HTO.out (by simp; have := HUL.out; omega) (by rw [← hlen]; exact hcp.1) hcp.2 HSZ.out (by decide) (by decide) HN0.out.1 HN0.out.2 hK3.st)
        rw [← hlen] at FRx
        unfold mcL at FRx
        simp only at FRx
        have HK3 := Lib.hid hK3
        have HK4 := Lib.hid hK4
        clear hlen hTx hownA hcp hK1 hK2 hK3 hK4
        refine wpAnyH_ready (rs := [10]) (by kernel_rfl) (by simp) ?_
        refine AllReadyH.cons (o := _) rfl (fun K hK => ?_) AllReadyH.nil
        go_simp
        refine FRx.out.mono ?_
        rintro e v2 ⟨q, rfl, hq, hN, hF2⟩
        have hCn2 := HK3.out.fr0 hF2
        have hFw := HK4.out.trans (hF2.mono (S' := [g, c.at_, c.tk]) (by simp))
        have hqw := Nat.le_trans HK4.out.size hq
        (try go_wp2_with fail)
        refine hK.out _ _ ?_ (fun hHeld => ?_)
        · (try dsimp only); exact HX.out _ ⟨hF2.blk hHeld.2.1 (by simp), hF2.blk hHeld.2.2.1 (by simp), hCn2, hFw⟩
        clear hK K
        try simp only [Act.put, List.setIfInBounds_toArray, List.set_cons_zero, List.set_cons_succ]
        refine take_yes 11 10 rfl rfl (by kernel_rfl) (by kernel_rfl) (by kernel_rfl) (fun _ _ _ h => h) (by rfl) (by assumption) (v := ?_) ?_ ?_
        rotate_left
        · intro w hSw; (try dsimp only at hSw); go_simp; (try with_reducible rfl)
        try simp only [Act.put, List.setIfInBounds_toArray, List.set_cons_zero, List.set_cons_succ]
        refine wpAnyH_done (by kernel_rfl) ?_ _
        have HZ : Hid (GrantP w g c S G ⟨t1, t2, t3, t4, t5, t6⟩ nm sv (uniqT l) (.returned (.slice (some ⟨q, 0, none⟩) 1 1)) v2) := Lib.hid (Or.inr (Or.inr ⟨HNF.out, HR1.out, HR2.out, p, HPW.out, hCn2, q, rfl, hqw, by rw [HNL.out]; exact hN, hFw⟩))
        clear hq hN hF2 hCn2 hFw hqw
        go_wp2_with fail
        go_ret
        exact HZ.out
    · have hie : sv.isEmpty = false := by simpa using hsv
      have d8 := (H.out.fr0 hFw4).st.c 8 _ rfl
      clear hsv
      go_wp2_with fail
      refine (hcc _ hFw4).mono ?_
      rintro e w4 ⟨rfl, hFc⟩
      replace hUo3 := own_fr0 hUo3 hFc
      replace hOut3 := own_fr0 hOut3 hFc
      replace hbm4 := hFc.blk hbm4 (by simp)
      replace hFw4 := hFw4.trans hFc
      clear hFc hcc d8
      go_wp2_with fail
      refine (F2.out _ hFw4).mono ?_
      rintro e w5 ⟨rfl, hF5⟩
      replace hUo3 := own_fr0 hUo3 hF5
      replace hOut3 := own_fr0 hOut3 hF5
      replace hbm4 := hF5.blk hbm4 (by simp)
      replace hFw4 := hFw4.trans hF5
      have z0 := hbm4.c 0 _ rfl
      have z1 := hbm4.c 1 _ rfl
      have z2 := hbm4.c 2 _ rfl
      have z3 := hbm4.c 3 _ rfl
      have z4 := hbm4.c 4 _ rfl
      have z5 := hbm4.c 5 _ rfl
      have SE2 := Lib.hid (SE.out _ hFw4)
      have hC5 := H.out.fr0 hFw4
      have HC5 := Lib.hid hC5
      have HBM4 := Lib.hid hbm4
      have HFW4 := Lib.hid hFw4
      have HU3 := Lib.hid hUo3
      have HO3 := Lib.hid hOut3
      clear hF5 F2 SE hUo3 hOut3 hbm4 hFw4 hC5
      go_wp2_with fail
      refine SE2.out.mono ?_
      rintro e w6 hs
      clear SE2 z0 z1 z2 z3 z4 z5
      cases hs with
      | had sx hs hf w6 hF6 =>
        have hFx := HFW4.out.trans hF6
        have hbm := hF6.blk HBM4.out (by simp)
        have hUo := own_fr0 HU3.out hF6
        have hOut := own_fr0 HO3.out hF6
        have hCn := HC5.out.fr0 hF6
        have hp := hCn.ses sx hs
        obtain ⟨p, hpp⟩ : ∃ p, sx.p = p := ⟨_, rfl⟩
        rw [hpp] at hp ⊢
        obtain ⟨n, hnn⟩ : ∃ n, sx.n = n := ⟨_, rfl⟩
        have HNX := Lib.hid hnn
        have HN0 : Hid (0 ≤ n ∧ n ≤ 65535) := Lib.hid (by have h1 := H.out.num sx hs; have h2 := HLT.out; omega)
        have HIN := Lib.hid hs
        have HFT := Lib.hid hf
        obtain ⟨V, hV⟩ : ∃ V, w6 = V := ⟨_, rfl⟩
        rw [hV] at hFx hbm hUo hOut hCn hp ⊢
        clear hV hF6 hs hf hpp hnn HC5 HBM4 HFW4 HU3 HO3
        go_wp2_with fail
        have HX : Hid (∀ W, (Blk W bm #[.int .u8 t1, .int .u8 t2, .int .u8 t3, .int .u8 t4, .int .u8 t5, .int .u8 t6] 28 ∧ Blk W p (seC sx) 63 ∧ CnIs W g c S G ∧ Fr [] w W) → (fun W => (W.cell? ⟨bm, 0, none⟩ = some (.int .u8 t1) ∧ W.cell? ⟨bm, 1, none⟩ = some (.int .u8 t2) ∧ W.cell? ⟨bm, 2, none⟩ = some (.int .u8 t3) ∧ W.cell? ⟨bm, 3, none⟩ = some (.int .u8 t4) ∧ W.cell? ⟨bm, 4, none⟩ = some (.int .u8 t5) ∧ W.cell? ⟨bm, 5, none⟩ = some (.int .u8 t6) ∧ W.cell? ⟨p, 6, none⟩ = some (.int .i64 n)) ∧ Blk W bm #[.int .u8 t1, .int .u8 t2, .int .u8 t3, .int .u8 t4, .int .u8 t5, .int .u8 t6] 28 ∧ Blk W p (seC sx) 63 ∧ CnIs W g c S G ∧ Fr [] w W) W) := Lib.hid fun W h => ⟨⟨h.1.c 0 _ rfl, h.1.c 1 _ rfl, h.1.c 2 _ rfl, h.1.c 3 _ rfl, h.1.c 4 _ rfl, h.1.c 5 _ rfl, by have h6 := h.2.1.c 6 (.int .i64 sx.n) rfl; rw [HNX.out] at h6; exact h6⟩, h⟩
        refine wp_region_held_drew (S := (fun W => (W.cell? ⟨bm, 0, none⟩ = some (.int .u8 t1) ∧ W.cell? ⟨bm, 1, none⟩ = some (.int .u8 t2) ∧ W.cell? ⟨bm, 2, none⟩ = some (.int .u8 t3) ∧ W.cell? ⟨bm, 3, none⟩ = some (.int .u8 t4) ∧ W.cell? ⟨bm, 4, none⟩ = some (.int .u8 t5) ∧ W.cell? ⟨bm, 5, none⟩ = some (.int .u8 t6) ∧ W.cell? ⟨p, 6, none⟩ = some (.int .i64 n)) ∧ Blk W bm #[.int .u8 t1, .int .u8 t2, .int .u8 t3, .int .u8 t4, .int .u8 t5, .int .u8 t6] 28 ∧ Blk W p (seC sx) 63 ∧ CnIs W g c S G ∧ Fr [] w W)) (by kernel_rfl) ?_ (fun hHeld => ?_)
        · (try dsimp only); exact HX.out _ ⟨hbm.drew, hp.drew, hCn.fr0 (Fr.refl _ _).drew, hFx.drew⟩
        have hUo1 := own_fr0 hUo (Fr.refl _ V).drew
        have hOut1 := own_fr0 hOut (Fr.refl _ V).drew
        obtain ⟨v0, hv⟩ : ∃ X, V.drew = X := ⟨_, rfl⟩
        rw [hv] at hHeld hUo1 hOut1 ⊢
        clear hv hUo hOut hbm hp hCn hFx
        refine take_yes 0 82 rfl rfl (by kernel_rfl) (by kernel_rfl) (by kernel_rfl) (fun _ _ _ h => h) (by rfl) (by assumption) (v := ?_) ?_ ?_
        rotate_left
        · intro w hSw; (try dsimp only at hSw); go_simp; (try with_reducible rfl)
        try simp only [Act.put, List.setIfInBounds_toArray, List.set_cons_zero, List.set_cons_succ]
        refine take_yes 1 83 rfl rfl (by kernel_rfl) (by kernel_rfl) (by kernel_rfl) (fun _ _ _ h => h) (by rfl) (by assumption) (v := ?_) ?_ ?_
        rotate_left
        · intro w hSw; (try dsimp only at hSw); go_simp; (try with_reducible rfl)
        try simp only [Act.put, List.setIfInBounds_toArray, List.set_cons_zero, List.set_cons_succ]
        refine take_yes 2 84 rfl rfl (by kernel_rfl) (by kernel_rfl) (by kernel_rfl) (fun _ _ _ h => h) (by rfl) (by assumption) (v := ?_) ?_ ?_
        rotate_left
        · intro w hSw; (try dsimp only at hSw); go_simp; (try with_reducible rfl)
        try simp only [Act.put, List.setIfInBounds_toArray, List.set_cons_zero, List.set_cons_succ]
        refine take_yes 3 85 rfl rfl (by kernel_rfl) (by kernel_rfl) (by kernel_rfl) (fun _ _ _ h => h) (by rfl) (by assumption) (v := ?_) ?_ ?_
        rotate_left
        · intro w hSw; (try dsimp only at hSw); go_simp; (try with_reducible rfl)
        try simp only [Act.put, List.setIfInBounds_toArray, List.set_cons_zero, List.set_cons_succ]
        refine take_yes 4 86 rfl rfl (by kernel_rfl) (by kernel_rfl) (by kernel_rfl) (fun _ _ _ h => h) (by rfl) (by assumption) (v := ?_) ?_ ?_
        rotate_left
        · intro w hSw; (try dsimp only at hSw); go_simp; (try with_reducible rfl)
        try simp only [Act.put, List.setIfInBounds_toArray, List.set_cons_zero, List.set_cons_succ]
        refine take_yes 5 87 rfl rfl (by kernel_rfl) (by kernel_rfl) (by kernel_rfl) (fun _ _ _ h => h) (by rfl) (by assumption) (v := ?_) ?_ ?_
        rotate_left
        · intro w hSw; (try dsimp only at hSw); go_simp; (try with_reducible rfl)
        try simp only [Act.put, List.setIfInBounds_toArray, List.set_cons_zero, List.set_cons_succ]
        refine take_yes 6 88 rfl rfl (by kernel_rfl) (by kernel_rfl) (by kernel_rfl) (fun _ _ _ h => h) (by rfl) (by assumption) (v := ?_) ?_ ?_
        rotate_left
        · intro w hSw; (try dsimp only at hSw); go_simp; (try with_reducible rfl)
        try simp only [Act.put, List.setIfInBounds_toArray, List.set_cons_zero, List.set_cons_succ]
        refine take_yes 7 89 rfl rfl (by kernel_rfl) (by kernel_rfl) (by kernel_rfl) (fun _ _ _ h => h) (by rfl) (by assumption) (v := ?_) ?_ ?_
        rotate_left
        · intro w hSw; (try dsimp only at hSw); go_simp; (try with_reducible rfl)
        try simp only [Act.put, List.setIfInBounds_toArray, List.set_cons_zero, List.set_cons_succ]
        refine take_yes 8 90 rfl rfl (by kernel_rfl) (by kernel_rfl) (by kernel_rfl) (fun _ _ _ h => h) (by rfl) (by assumption) (v := ?_) ?_ ?_
        rotate_left
        · intro w hSw; (try dsimp only at hSw); go_simp; (try with_reducible rfl)
        try simp only [Act.put, List.setIfInBounds_toArray, List.set_cons_zero, List.set_cons_succ]
        refine wpAnyH_ready (rs := [9]) (by kernel_rfl) (by simp) ?_
        refine AllReadyH.cons (o := _) rfl (fun K hK => ?_) AllReadyH.nil
        rw [if_pos (by rfl)]
        refine app_any _ 91 rfl (.tmp 89) (.tmp 90) 90 rfl w.heap.size 54 i0 (.agg #[.int .i64 0, .string ⟨#[]⟩]) 2 24 Try.underlying90 hi hz0 hz1 hz2 rfl (by decide) _ 1 _ rfl hOut1 _ _ _ _ _ rfl (Reads.of_own hUo1) (tgF_one _) ?_ ?_ ?_ ?_
        · have := HUL.out; unfold maxLen; omega
        · have := HUL.out; omega
        · exact HX0.out _ hHeld.2.2.2.2
        intro va v1 hownA hgrA hrowA
        have hFg := Fr.of_grown hgrA
        have hK1 := keep_grown hOut1 hFg hHeld.2.1 (by decide)
        have hK2 := keep_grown hOut1 hFg hHeld.2.2.1 (by decide)
        have hK3 := CnIs.grown hHeld.2.2.2.1 hOut1 hFg (by decide) (by decide) (by decide)
        have hK4 := hHeld.2.2.2.2.grown hgrA (fun q hq => own_new hOut1 q hq)
        obtain ⟨A1, c1, rfl⟩ := own_slice hownA
        have hcp := own_caps hownA
        clear hFg hgrA hrowA hUo1 hOut1 hHeld
        refine hK.out _ _ ?_ (fun hHeld => ?_)
        · (try dsimp only); exact HX.out _ ⟨hK1, hK2, hK3, hK4⟩
        clear hK K
        try simp only [Act.put, List.setIfInBounds_toArray, List.set_cons_zero, List.set_cons_succ]
        have hlen : 1 + (uniqT l).length = ((257, sv) :: uniqT l).length := by simp; omega
        have hTx := TgAt.of_own (l := (257, sv) :: uniqT l) (by rw [← hlen]; exact hownA)
        have FRx := Lib.hid (cframe_any (c0 := c) ⟨t1, t2, t3, t4, t5, t6⟩ 101 n hTx HTO.out (by simp; have := HUL.out; omega) (by rw [← hlen]; exact hcp.1) hcp.2 HSZ.out (by decide) (by decide) HN0.out.1 HN0.out.2 hK3.st)
        rw [← hlen] at FRx
        unfold mcL at FRx
        simp only at FRx
        have HK3 := Lib.hid hK3
        have HK4 := Lib.hid hK4
        clear hlen hTx hownA hcp hK1 hK2 hK3 hK4
        refine wpAnyH_ready (rs := [10]) (by kernel_rfl) (by simp) ?_
        refine AllReadyH.cons (o := _) rfl (fun K hK => ?_) AllReadyH.nil
        go_simp
        refine FRx.out.mono ?_
        rintro e v2 ⟨q, rfl, hq, hN, hF2⟩
        have hCn2 := HK3.out.fr0 hF2
        have hFw := HK4.out.trans (hF2.mono (S' := []) (by simp))
        have hqw := Nat.le_trans HK4.out.size hq
        (try go_wp2_with fail)
        refine hK.out _ _ ?_ (fun hHeld => ?_)
        · (try dsimp only); exact HX.out _ ⟨hF2.blk hHeld.2.1 (by simp), hF2.blk hHeld.2.2.1 (by simp), hCn2, hFw⟩
        clear hK K
        try simp only [Act.put, List.setIfInBounds_toArray, List.set_cons_zero, List.set_cons_succ]
        refine take_yes 11 10 rfl rfl (by kernel_rfl) (by kernel_rfl) (by kernel_rfl) (fun _ _ _ h => h) (by rfl) (by assumption) (v := ?_) ?_ ?_
        rotate_left
        · intro w hSw; (try dsimp only at hSw); go_simp; (try with_reducible rfl)
        try simp only [Act.put, List.setIfInBounds_toArray, List.set_cons_zero, List.set_cons_succ]
        refine wpAnyH_done (by kernel_rfl) ?_ _
        have HZ : Hid (GrantP w g c S G ⟨t1, t2, t3, t4, t5, t6⟩ nm sv (uniqT l) (.returned (.slice (some ⟨q, 0, none⟩) 1 1)) v2) := Lib.hid (Or.inl ⟨sx, HIN.out, HFT.out, q, rfl, hqw, by rw [HNX.out]; exact hN, hFw⟩)
        clear hq hN hF2 hCn2 hFw hqw
        go_wp2_with fail
        go_ret
        exact HZ.out
      | full hn hr w6 hF6 =>
        have hFx := HFW4.out.trans hF6
        have hbm := hF6.blk HBM4.out (by simp)
        have hUo := own_fr0 HU3.out hF6
        have hOut := own_fr0 HO3.out hF6
        have hCn := (HC5.out.fr0 hF6).st
        have HNF := Lib.hid hn
        have HR1 := Lib.hid hr
        obtain ⟨V, hV⟩ : ∃ V, w6 = V := ⟨_, rfl⟩
        rw [hV] at hFx hbm hUo hOut hCn ⊢
        clear hV hF6 hn hr HC5 HBM4 HFW4 HU3 HO3
        go_wp2_with fail
        have HX : Hid (∀ W, (Blk W bm #[.int .u8 t1, .int .u8 t2, .int .u8 t3, .int .u8 t4, .int .u8 t5, .int .u8 t6] 28 ∧ Blk W g (cnC c) 85 ∧ Fr [] w W) → (fun W => (W.cell? ⟨bm, 0, none⟩ = some (.int .u8 t1) ∧ W.cell? ⟨bm, 1, none⟩ = some (.int .u8 t2) ∧ W.cell? ⟨bm, 2, none⟩ = some (.int .u8 t3) ∧ W.cell? ⟨bm, 3, none⟩ = some (.int .u8 t4) ∧ W.cell? ⟨bm, 4, none⟩ = some (.int .u8 t5) ∧ W.cell? ⟨bm, 5, none⟩ = some (.int .u8 t6)) ∧ Blk W bm #[.int .u8 t1, .int .u8 t2, .int .u8 t3, .int .u8 t4, .int .u8 t5, .int .u8 t6] 28 ∧ Blk W g (cnC c) 85 ∧ Fr [] w W) W) := Lib.hid fun W h => ⟨⟨h.1.c 0 _ rfl, h.1.c 1 _ rfl, h.1.c 2 _ rfl, h.1.c 3 _ rfl, h.1.c 4 _ rfl, h.1.c 5 _ rfl⟩, h⟩
        refine wp_region_held_drew (S := (fun W => (W.cell? ⟨bm, 0, none⟩ = some (.int .u8 t1) ∧ W.cell? ⟨bm, 1, none⟩ = some (.int .u8 t2) ∧ W.cell? ⟨bm, 2, none⟩ = some (.int .u8 t3) ∧ W.cell? ⟨bm, 3, none⟩ = some (.int .u8 t4) ∧ W.cell? ⟨bm, 4, none⟩ = some (.int .u8 t5) ∧ W.cell? ⟨bm, 5, none⟩ = some (.int .u8 t6)) ∧ Blk W bm #[.int .u8 t1, .int .u8 t2, .int .u8 t3, .int .u8 t4, .int .u8 t5, .int .u8 t6] 28 ∧ Blk W g (cnC c) 85 ∧ Fr [] w W)) (by kernel_rfl) ?_ (fun hHeld => ?_)
        · (try dsimp only); exact HX.out _ ⟨hbm.drew, hCn.drew, hFx.drew⟩
        have hUo1 := own_fr0 hUo (Fr.refl _ V).drew
        have hOut1 := own_fr0 hOut (Fr.refl _ V).drew
        obtain ⟨v0, hv⟩ : ∃ X, V.drew = X := ⟨_, rfl⟩
        rw [hv] at hHeld hUo1 hOut1 ⊢
        clear hv hUo hOut hbm hCn hFx
        refine take_yes 0 73 rfl rfl (by kernel_rfl) (by kernel_rfl) (by kernel_rfl) (fun _ _ _ h => h) (by rfl) (by assumption) (v := ?_) ?_ ?_
        rotate_left
        · intro w hSw; (try dsimp only at hSw); go_simp; (try with_reducible rfl)
        try simp only [Act.put, List.setIfInBounds_toArray, List.set_cons_zero, List.set_cons_succ]
        refine take_yes 1 74 rfl rfl (by kernel_rfl) (by kernel_rfl) (by kernel_rfl) (fun _ _ _ h => h) (by rfl) (by assumption) (v := ?_) ?_ ?_
        rotate_left
        · intro w hSw; (try dsimp only at hSw); go_simp; (try with_reducible rfl)
        try simp only [Act.put, List.setIfInBounds_toArray, List.set_cons_zero, List.set_cons_succ]
        refine take_yes 2 75 rfl rfl (by kernel_rfl) (by kernel_rfl) (by kernel_rfl) (fun _ _ _ h => h) (by rfl) (by assumption) (v := ?_) ?_ ?_
        rotate_left
        · intro w hSw; (try dsimp only at hSw); go_simp; (try with_reducible rfl)
        try simp only [Act.put, List.setIfInBounds_toArray, List.set_cons_zero, List.set_cons_succ]
        refine take_yes 3 76 rfl rfl (by kernel_rfl) (by kernel_rfl) (by kernel_rfl) (fun _ _ _ h => h) (by rfl) (by assumption) (v := ?_) ?_ ?_
        rotate_left
        · intro w hSw; (try dsimp only at hSw); go_simp; (try with_reducible rfl)
        try simp only [Act.put, List.setIfInBounds_toArray, List.set_cons_zero, List.set_cons_succ]
        refine take_yes 6 79 rfl rfl (by kernel_rfl) (by kernel_rfl) (by kernel_rfl) (fun _ _ _ h => h) (by rfl) (by assumption) (v := ?_) ?_ ?_
        rotate_left
        · intro w hSw; (try dsimp only at hSw); go_simp; (try with_reducible rfl)
        try simp only [Act.put, List.setIfInBounds_toArray, List.set_cons_zero, List.set_cons_succ]
        refine wpAnyH_ready (rs := [4]) (by kernel_rfl) (by simp) ?_
        refine AllReadyH.cons (o := _) rfl (fun K hK => ?_) AllReadyH.nil
        go_simp
        (try go_wp2_with fail)
        have hFa : Fr [] v0 (v0.alloc (.cells #[.int .i64 514, .string ⟨#[]⟩] 54 (0, 0))) := (Fr.refl _ _).alloc _
        have hOwnX := World.ownsRow_lit (base := w.heap.size) (e := 54) (size := 2) v0 #[.int .i64 514, .string ⟨#[]⟩] 1 (HX0.out _ hHeld.2.2.2) (by unfold maxLen; omega) rfl
        have hUo2 := own_fr0 hUo1 hFa
        have hOut2 := own_fr0 hOut1 hFa
        obtain ⟨v1, hv⟩ : ∃ X, v0.alloc (.cells #[.int .i64 514, .string ⟨#[]⟩] 54 (0, 0)) = X := ⟨_, rfl⟩
        obtain ⟨qx, hqx⟩ : ∃ q, v0.heap.size = q := ⟨_, rfl⟩
        rw [hv] at hFa hUo2 hOut2 hOwnX ⊢
        rw [hqx] at hOwnX ⊢
        clear hv hqx hUo1 hOut1
        refine hK.out _ _ ?_ (fun hHeld1 => ?_)
        · (try dsimp only); exact HX.out _ ⟨hFa.blk hHeld.2.1 (by simp), hFa.blk hHeld.2.2.1 (by simp), hHeld.2.2.2.trans hFa⟩
        clear hK K hFa hHeld
        try simp only [Act.put, List.setIfInBounds_toArray, List.set_cons_zero, List.set_cons_succ]
        refine wpAnyH_ready (rs := [5]) (by kernel_rfl) (by simp) ?_
        refine AllReadyH.cons (o := _) rfl (fun K hK => ?_) AllReadyH.nil
        rw [if_pos (by rfl)]
        refine app_any _ 78 rfl (.tmp 75) (.tmp 77) 90 rfl w.heap.size 54 i0 (.agg #[.int .i64 0, .string ⟨#[]⟩]) 2 24 Try.underlying90 hi hz0 hz1 hz2 rfl (by decide) _ 1 _ rfl hOut2 _ _ _ _ _ rfl (Reads.of_own hOwnX) (by simp [Value.oneCell']) ?_ ?_ ?_ ?_
        · unfold maxLen; omega
        · omega
        · exact HX0.out _ hHeld1.2.2.2
        intro va v2 hownA hgrA hrowA
        have hFg := Fr.of_grown hgrA
        have hK1 := keep_grown hOut2 hFg hHeld1.2.1 (by decide)
        have hK2 := keep_grown hOut2 hFg hHeld1.2.2.1 (by decide)
        have hK4 := hHeld1.2.2.2.grown hgrA (fun q hq => own_new hOut2 q hq)
        have hUo3 : v2.ownsRow w.heap.size 54 2 (.slice Au (uniqT l).length cu) (uniqT l).length (tgF (uniqT l)) := HUQ.out v1 v2 hUo2 hFg
        clear hFg hgrA hrowA hUo2 hOut2 hHeld1 hOwnX
        refine hK.out _ _ ?_ (fun hHeld => ?_)
        · (try dsimp only); exact HX.out _ ⟨hK1, hK2, hK4⟩
        clear hK K
        try simp only [Act.put, List.setIfInBounds_toArray, List.set_cons_zero, List.set_cons_succ]
        refine wpAnyH_ready (rs := [7]) (by kernel_rfl) (by simp) ?_
        refine AllReadyH.cons (o := _) rfl (fun K hK => ?_) AllReadyH.nil
        rw [if_pos (by rfl)]
        refine app_any _ 80 rfl (.tmp 78) (.tmp 79) 90 rfl w.heap.size 54 i0 (.agg #[.int .i64 0, .string ⟨#[]⟩]) 2 24 Try.underlying90 hi hz0 hz1 hz2 rfl (by decide) _ 2 _ rfl hownA _ _ _ _ _ rfl (Reads.of_own hUo3) (tgF_one _) ?_ ?_ ?_ ?_
        · have := HUL.out; unfold maxLen; omega
        · have := HUL.out; omega
        · exact HX0.out _ hK4
        intro vb v3 hownB hgrB hrowB
        have hFg := Fr.of_grown hgrB
        have hK5 := keep_grown hownA hFg hK1 (by decide)
        have hK6 := keep_grown hownA hFg hK2 (by decide)
        have hK7 := hK4.grown hgrB (fun q hq => own_new hownA q hq)
        obtain ⟨A1, c1, rfl⟩ := own_slice hownB
        have hcp := own_caps hownB
        clear hFg hgrB hrowB hownA hUo3 hHeld hK1 hK2 hK4
        refine hK.out _ _ ?_ (fun hHeld => ?_)
        · (try dsimp only); exact HX.out _ ⟨hK5, hK6, hK7⟩
        clear hK K
        try simp only [Act.put, List.setIfInBounds_toArray, List.set_cons_zero, List.set_cons_succ]
        have hlen : 2 + (uniqT l).length = ((257, sv) :: (514, []) :: uniqT l).length := by simp; omega
        have hTx := TgAt.of_own (l := (257, sv) :: (514, []) :: uniqT l) (by rw [← hlen]; exact hownB)
        have FRx := Lib.hid (cframe_any (c0 := c) ⟨t1, t2, t3, t4, t5, t6⟩ 101 0 hTx HTO2.out (by simp; have := HUL.out; omega) (by rw [← hlen]; exact hcp.1) hcp.2 HSZ2.out (by decide) (by decide) (by decide) (by decide) hK6)
        rw [← hlen] at FRx
        unfold mcL at FRx
        simp only at FRx
        have HK7 := Lib.hid hK7
        clear hlen hTx hownB hcp hK5 hK6 hK7
        refine wpAnyH_ready (rs := [8]) (by kernel_rfl) (by simp) ?_
        refine AllReadyH.cons (o := _) rfl (fun K hK => ?_) AllReadyH.nil
        go_simp
        refine FRx.out.mono ?_
        rintro e v4 ⟨q, rfl, hq, hN, hF2⟩
        have hFw := HK7.out.trans hF2
        have hqw := Nat.le_trans HK7.out.size hq
        (try go_wp2_with fail)
        refine hK.out _ _ ?_ (fun hHeld1 => ?_)
        · (try dsimp only); exact HX.out _ ⟨hF2.blk hHeld.2.1 (by simp), hF2.blk hHeld.2.2.1 (by simp), hFw⟩
        clear hK K
        try simp only [Act.put, List.setIfInBounds_toArray, List.set_cons_zero, List.set_cons_succ]
        refine take_yes 9 10 rfl rfl (by kernel_rfl) (by kernel_rfl) (by kernel_rfl) (fun _ _ _ h => h) (by rfl) (by assumption) (v := ?_) ?_ ?_
        rotate_left
        · intro w hSw; (try dsimp only at hSw); go_simp; (try with_reducible rfl)
        try simp only [Act.put, List.setIfInBounds_toArray, List.set_cons_zero, List.set_cons_succ]
        refine wpAnyH_done (by kernel_rfl) ?_ _
        have HZ : Hid (GrantP w g c S G ⟨t1, t2, t3, t4, t5, t6⟩ nm sv (uniqT l) (.returned (.slice (some ⟨q, 0, none⟩) 1 1)) v4) := Lib.hid (Or.inr (Or.inl ⟨HNF.out, HR1.out, q, rfl, hqw, hN, hFw⟩))
        clear hq hN hF2 hFw hqw
        go_wp2_with fail
        go_ret
        exact HZ.out
      | made hn h1 h2 p w6 hp0 hC hF6 =>
        have hno : ∀ q cs U, Blk _ q cs U → U ≠ 85 → q ∉ [g, c.at_, c.tk] := fun q cs U hq hU => by
          have a1 := hq.ne_type HC5.out.st hU
          have a2 := HC5.out.hM.not_blk hq
          have a3 := HC5.out.tM.not_blk hq
          simp; exact ⟨a1, a2, a3⟩
        have hFx := (HFW4.out.mono (S' := [g, c.at_, c.tk]) (by simp)).trans hF6
        have hbm := hF6.blk HBM4.out (hno _ _ _ HBM4.out (by decide))
        have hUo := own_frS HU3.out hF6 (fun q cur hq => hno q cur _ hq (by decide))
        have hOut := own_frS HO3.out hF6 (fun q cur hq => hno q cur _ hq (by decide))
        have hCn := hC
        obtain ⟨sx, hsx⟩ : ∃ sx, (⟨⟨t1, t2, t3, t4, t5, t6⟩, c.last + 1, nm, false, p⟩ : Ses) = sx := ⟨_, rfl⟩
        have hp := hCn.ses ⟨⟨t1, t2, t3, t4, t5, t6⟩, c.last + 1, nm, false, p⟩ (by simp)
        simp only at hp
        rw [hsx] at hp
        obtain ⟨n, hnn⟩ : ∃ n, c.last + 1 = n := ⟨_, rfl⟩
        have HNL := Lib.hid hnn
        have HNX : Hid (sx.n = n) := Lib.hid (by rw [← hsx]; exact hnn)
        have HN0 : Hid (0 ≤ n ∧ n ≤ 65535) := Lib.hid (by have h1 := H.out.last; have h2 := HLT.out; omega)
        have HNF := Lib.hid hn
        have HR1 := Lib.hid h1
        have HR2 := Lib.hid h2
        have HPW : Hid (w.heap.size ≤ p) := Lib.hid (Nat.le_trans HFW4.out.size hp0)
        obtain ⟨V, hV⟩ : ∃ V, w6 = V := ⟨_, rfl⟩
        rw [hV] at hFx hbm hUo hOut hCn hp ⊢
        clear hV hF6 hn h1 h2 hp0 hC hno hsx hnn HC5 HBM4 HFW4 HU3 HO3
        go_wp2_with fail
        have HX : Hid (∀ W, (Blk W bm #[.int .u8 t1, .int .u8 t2, .int .u8 t3, .int .u8 t4, .int .u8 t5, .int .u8 t6] 28 ∧ Blk W p (seC sx) 63 ∧ CnIs W g { c with last := c.last + 1 } (S ++ [⟨⟨t1, t2, t3, t4, t5, t6⟩, c.last + 1, nm, false, p⟩]) G ∧ Fr [g, c.at_, c.tk] w W) → (fun W => (W.cell? ⟨bm, 0, none⟩ = some (.int .u8 t1) ∧ W.cell? ⟨bm, 1, none⟩ = some (.int .u8 t2) ∧ W.cell? ⟨bm, 2, none⟩ = some (.int .u8 t3) ∧ W.cell? ⟨bm, 3, none⟩ = some (.int .u8 t4) ∧ W.cell? ⟨bm, 4, none⟩ = some (.int .u8 t5) ∧ W.cell? ⟨bm, 5, none⟩ = some (.int .u8 t6) ∧ W.cell? ⟨p, 6, none⟩ = some (.int .i64 n)) ∧ Blk W bm #[.int .u8 t1, .int .u8 t2, .int .u8 t3, .int .u8 t4, .int .u8 t5, .int .u8 t6] 28 ∧ Blk W p (seC sx) 63 ∧ CnIs W g { c with last := c.last + 1 } (S ++ [⟨⟨t1, t2, t3, t4, t5, t6⟩, c.last + 1, nm, false, p⟩]) G ∧ Fr [g, c.at_, c.tk] w W) W) := Lib.hid fun W h => ⟨⟨h.1.c 0 _ rfl, h.1.c 1 _ rfl, h.1.c 2 _ rfl, h.1.c 3 _ rfl, h.1.c 4 _ rfl, h.1.c 5 _ rfl, by have h6 := h.2.1.c 6 (.int .i64 sx.n) rfl; rw [HNX.out] at h6; exact h6⟩, h⟩
        refine wp_region_held_drew (S := (fun W => (W.cell? ⟨bm, 0, none⟩ = some (.int .u8 t1) ∧ W.cell? ⟨bm, 1, none⟩ = some (.int .u8 t2) ∧ W.cell? ⟨bm, 2, none⟩ = some (.int .u8 t3) ∧ W.cell? ⟨bm, 3, none⟩ = some (.int .u8 t4) ∧ W.cell? ⟨bm, 4, none⟩ = some (.int .u8 t5) ∧ W.cell? ⟨bm, 5, none⟩ = some (.int .u8 t6) ∧ W.cell? ⟨p, 6, none⟩ = some (.int .i64 n)) ∧ Blk W bm #[.int .u8 t1, .int .u8 t2, .int .u8 t3, .int .u8 t4, .int .u8 t5, .int .u8 t6] 28 ∧ Blk W p (seC sx) 63 ∧ CnIs W g { c with last := c.last + 1 } (S ++ [⟨⟨t1, t2, t3, t4, t5, t6⟩, c.last + 1, nm, false, p⟩]) G ∧ Fr [g, c.at_, c.tk] w W)) (by kernel_rfl) ?_ (fun hHeld => ?_)
        · (try dsimp only); exact HX.out _ ⟨hbm.drew, hp.drew, hCn.fr0 (Fr.refl _ _).drew, hFx.drew⟩
        have hUo1 := own_fr0 hUo (Fr.refl _ V).drew
        have hOut1 := own_fr0 hOut (Fr.refl _ V).drew
        obtain ⟨v0, hv⟩ : ∃ X, V.drew = X := ⟨_, rfl⟩
        rw [hv] at hHeld hUo1 hOut1 ⊢
        clear hv hUo hOut hbm hp hCn hFx
        refine take_yes 0 82 rfl rfl (by kernel_rfl) (by kernel_rfl) (by kernel_rfl) (fun _ _ _ h => h) (by rfl) (by assumption) (v := ?_) ?_ ?_
        rotate_left
        · intro w hSw; (try dsimp only at hSw); go_simp; (try with_reducible rfl)
        try simp only [Act.put, List.setIfInBounds_toArray, List.set_cons_zero, List.set_cons_succ]
        refine take_yes 1 83 rfl rfl (by kernel_rfl) (by kernel_rfl) (by kernel_rfl) (fun _ _ _ h => h) (by rfl) (by assumption) (v := ?_) ?_ ?_
        rotate_left
        · intro w hSw; (try dsimp only at hSw); go_simp; (try with_reducible rfl)
        try simp only [Act.put, List.setIfInBounds_toArray, List.set_cons_zero, List.set_cons_succ]
        refine take_yes 2 84 rfl rfl (by kernel_rfl) (by kernel_rfl) (by kernel_rfl) (fun _ _ _ h => h) (by rfl) (by assumption) (v := ?_) ?_ ?_
        rotate_left
        · intro w hSw; (try dsimp only at hSw); go_simp; (try with_reducible rfl)
        try simp only [Act.put, List.setIfInBounds_toArray, List.set_cons_zero, List.set_cons_succ]
        refine take_yes 3 85 rfl rfl (by kernel_rfl) (by kernel_rfl) (by kernel_rfl) (fun _ _ _ h => h) (by rfl) (by assumption) (v := ?_) ?_ ?_
        rotate_left
        · intro w hSw; (try dsimp only at hSw); go_simp; (try with_reducible rfl)
        try simp only [Act.put, List.setIfInBounds_toArray, List.set_cons_zero, List.set_cons_succ]
        refine take_yes 4 86 rfl rfl (by kernel_rfl) (by kernel_rfl) (by kernel_rfl) (fun _ _ _ h => h) (by rfl) (by assumption) (v := ?_) ?_ ?_
        rotate_left
        · intro w hSw; (try dsimp only at hSw); go_simp; (try with_reducible rfl)
        try simp only [Act.put, List.setIfInBounds_toArray, List.set_cons_zero, List.set_cons_succ]
        refine take_yes 5 87 rfl rfl (by kernel_rfl) (by kernel_rfl) (by kernel_rfl) (fun _ _ _ h => h) (by rfl) (by assumption) (v := ?_) ?_ ?_
        rotate_left
        · intro w hSw; (try dsimp only at hSw); go_simp; (try with_reducible rfl)
        try simp only [Act.put, List.setIfInBounds_toArray, List.set_cons_zero, List.set_cons_succ]
        refine take_yes 6 88 rfl rfl (by kernel_rfl) (by kernel_rfl) (by kernel_rfl) (fun _ _ _ h => h) (by rfl) (by assumption) (v := ?_) ?_ ?_
        rotate_left
        · intro w hSw; (try dsimp only at hSw); go_simp; (try with_reducible rfl)
        try simp only [Act.put, List.setIfInBounds_toArray, List.set_cons_zero, List.set_cons_succ]
        refine take_yes 7 89 rfl rfl (by kernel_rfl) (by kernel_rfl) (by kernel_rfl) (fun _ _ _ h => h) (by rfl) (by assumption) (v := ?_) ?_ ?_
        rotate_left
        · intro w hSw; (try dsimp only at hSw); go_simp; (try with_reducible rfl)
        try simp only [Act.put, List.setIfInBounds_toArray, List.set_cons_zero, List.set_cons_succ]
        refine take_yes 8 90 rfl rfl (by kernel_rfl) (by kernel_rfl) (by kernel_rfl) (fun _ _ _ h => h) (by rfl) (by assumption) (v := ?_) ?_ ?_
        rotate_left
        · intro w hSw; (try dsimp only at hSw); go_simp; (try with_reducible rfl)
        try simp only [Act.put, List.setIfInBounds_toArray, List.set_cons_zero, List.set_cons_succ]
        refine wpAnyH_ready (rs := [9]) (by kernel_rfl) (by simp) ?_
        refine AllReadyH.cons (o := _) rfl (fun K hK => ?_) AllReadyH.nil
        rw [if_pos (by rfl)]
        refine app_any _ 91 rfl (.tmp 89) (.tmp 90) 90 rfl w.heap.size 54 i0 (.agg #[.int .i64 0, .string ⟨#[]⟩]) 2 24 Try.underlying90 hi hz0 hz1 hz2 rfl (by decide) _ 1 _ rfl hOut1 _ _ _ _ _ rfl (Reads.of_own hUo1) (tgF_one _) ?_ ?_ ?_ ?_
        · have := HUL.out; unfold maxLen; omega
        · have := HUL.out; omega
        · exact HX0.out _ hHeld.2.2.2.2
        intro va v1 hownA hgrA hrowA
        have hFg := Fr.of_grown hgrA
        have hK1 := keep_grown hOut1 hFg hHeld.2.1 (by decide)
        have hK2 := keep_grown hOut1 hFg hHeld.2.2.1 (by decide)
        have hK3 := CnIs.grown hHeld.2.2.2.1 hOut1 hFg (by decide) (by decide) (by decide)
        have hK4 := hHeld.2.2.2.2.grown hgrA (fun q hq => own_new hOut1 q hq)
        obtain ⟨A1, c1, rfl⟩ := own_slice hownA
        have hcp := own_caps hownA
        clear hFg hgrA hrowA hUo1 hOut1 hHeld
        refine hK.out _ _ ?_ (fun hHeld => ?_)
        · (try dsimp only); exact HX.out _ ⟨hK1, hK2, hK3, hK4⟩
        clear hK K
        try simp only [Act.put, List.setIfInBounds_toArray, List.set_cons_zero, List.set_cons_succ]
        have hlen : 1 + (uniqT l).length = ((257, sv) :: uniqT l).length := by simp; omega
        have hTx := TgAt.of_own (l := (257, sv) :: uniqT l) (by rw [← hlen]; exact hownA)
        have FRx := Lib.hid (cframe_any (c0 := { c with last := c.last + 1 }) ⟨t1, t2, t3, t4, t5, t6⟩ 101 n hTx HTO.out (by simp; have := HUL.out; omega) (by rw [← hlen]; exact hcp.1) hcp.2 HSZ.out (by decide) (by decide) HN0.out.1 HN0.out.2 hK3.st)
        rw [← hlen] at FRx
        unfold mcL at FRx
        simp only at FRx
        have HK3 := Lib.hid hK3
        have HK4 := Lib.hid hK4
        clear hlen hTx hownA hcp hK1 hK2 hK3 hK4
        refine wpAnyH_ready (rs := [10]) (by kernel_rfl) (by simp) ?_
        refine AllReadyH.cons (o := _) rfl (fun K hK => ?_) AllReadyH.nil
        go_simp
        refine FRx.out.mono ?_
        rintro e v2 ⟨q, rfl, hq, hN, hF2⟩
        have hCn2 := HK3.out.fr0 hF2
        have hFw := HK4.out.trans (hF2.mono (S' := [g, c.at_, c.tk]) (by simp))
        have hqw := Nat.le_trans HK4.out.size hq
        (try go_wp2_with fail)
        refine hK.out _ _ ?_ (fun hHeld => ?_)
        · (try dsimp only); exact HX.out _ ⟨hF2.blk hHeld.2.1 (by simp), hF2.blk hHeld.2.2.1 (by simp), hCn2, hFw⟩
        clear hK K
        try simp only [Act.put, List.setIfInBounds_toArray, List.set_cons_zero, List.set_cons_succ]
        refine take_yes 11 10 rfl rfl (by kernel_rfl) (by kernel_rfl) (by kernel_rfl) (fun _ _ _ h => h) (by rfl) (by assumption) (v := ?_) ?_ ?_
        rotate_left
        · intro w hSw; (try dsimp only at hSw); go_simp; (try with_reducible rfl)
        try simp only [Act.put, List.setIfInBounds_toArray, List.set_cons_zero, List.set_cons_succ]
        refine wpAnyH_done (by kernel_rfl) ?_ _
        have HZ : Hid (GrantP w g c S G ⟨t1, t2, t3, t4, t5, t6⟩ nm sv (uniqT l) (.returned (.slice (some ⟨q, 0, none⟩) 1 1)) v2) := Lib.hid (Or.inr (Or.inr ⟨HNF.out, HR1.out, HR2.out, p, HPW.out, hCn2, q, rfl, hqw, by rw [HNL.out]; exact hN, hFw⟩))
        clear hq hN hF2 hCn2 hFw hqw
        go_wp2_with fail
        go_ret
        exact HZ.out
end
end Go.Proofs.Ytcdencpkgfehlaa