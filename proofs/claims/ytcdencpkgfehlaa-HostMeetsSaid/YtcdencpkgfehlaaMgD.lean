/- Several texts in one: HmE, HmF. -/
import Derived.Test.YtcdencpkgfehlaaHmB
import Derived.Test.YtcdencpkgfehlaaHmD
import Derived.Test.YtcdencpkgfehlaaAcJ
import Derived.Test.YtcdencpkgfehlaaAcU
import Derived.Test.YtcdencpkgfehlaaAcL
import Derived.Test.YtcdencpkgfehlaaPHo4
import Derived.Test.YtcdencpkgfehlaaPHo6
import Derived.Test.YtcdencpkgfehlaaHostW
import Derived.Test.YtcdencpkgfehlaaEqEth
/- HostMeets: what is called, in the states in which it is called. -/
namespace Go.Proofs.Ytcdencpkgfehlaa
open Go.RowKit Go.Maps
set_option linter.unusedVariables false
def cnM (sv : Value) (xa xb : Nat) (last : Int) (gone : Value) : Cn := ⟨mtK, [97, 99], [115], sv, 5, xa, xb, last, gone⟩
/-- the concentrator, before anyone asked -/
structure CM (w : World) (g xa xb : Nat) (A : Option Addr) (cap : Nat) (os : List (List UInt8)) : Prop where
  is : CnIs w g (cnM (.slice A os.length cap) xa xb 0 (.slice none 0 0)) [] []
  sv : w.ownsRow 0 9 1 (.slice A os.length cap) os.length (rowF strF os)
def ckM (sv : List UInt8) (t : Int) : List UInt8 := md5 (cookL (t / 64) [1, 0, 0, 0, 0, 0] sv [115])
theorem ckM_len (sv : List UInt8) (t : Int) : (ckM sv t).length = 16 := md5_length _
section
variable {w w' : World} {g xa xb : Nat} {A : Option Addr} {cap : Nat} {os : List (List UInt8)} {sv un : List UInt8}
theorem CM.frT {Sx : List Nat} {T : Nat} (h : CM w g xa xb A cap os) (hF : Fr Sx w w') (hS : ∀ q, q ∈ Sx → ∃ cur, Blk w q cur T) (h1 : T ≠ 85) (h2 : T ≠ 63) (h3 : T ≠ 61) (h4 : T ≠ 9) : CM w' g xa xb A cap os :=
  ⟨h.is.frT hF hS h1 h2 h3, rown_frS h.sv hF fun q hq hx => by
    obtain ⟨c1, hc1⟩ := rown_blk h.sv q hq
    obtain ⟨c2, hc2⟩ := hS q hx
    exact (hc1.neT hc2 (fun e => h4 e.symm)) rfl⟩
theorem CM.fr0 (h : CM w g xa xb A cap os) (hF : Fr [] w w') : CM w' g xa xb A cap os := h.frT hF (T := 92) (fun q hq => by cases hq) (by decide) (by decide) (by decide) (by decide)
theorem CM.at_ (h : CM w g xa xb A cap os) : RAt w A 1 strF os := RAt.of_own strF_len h.sv
theorem few_split {l : List Tg} (h : Few l) : (∀ x, x ∈ l → TgOk x ∧ x.2.length ≤ 1494) ∧ l.length ≤ 20 ∧ (tgsB l).length ≤ 1494 := ⟨h.ok, by have := h.1; omega, h.size⟩
theorem ask0_257 (sv un : List UInt8) : findN (askL sv un none) 257 = 1 ∧ findS (askL sv un none) 257 = sv := by
  rw [ask_0, fN_cons, fS_cons, if_pos rfl, if_pos rfl, unT_N _ _ (by omega)]
  exact ⟨rfl, rfl⟩
theorem ask1_257 (sv un ck : List UInt8) : findN (askL sv un (some ck)) 257 = 1 ∧ findS (askL sv un (some ck)) 257 = sv ∧ findN (askL sv un (some ck)) 260 ≠ 0 ∧ findS (askL sv un (some ck)) 260 = ck ∧ findS (askL sv un (some ck)) 259 = un := by
  rw [ask_1]
  refine ⟨?_, ?_, ?_, ?_, ?_⟩
  · rw [fN_cons, fN_cons, unT_N _ _ (by omega)]; rfl
  · rw [fS_cons]; rfl
  · rw [fN_cons, fN_cons]; simp
  · rw [fS_cons, if_neg (by simp only; omega), fS_cons, if_pos rfl]
  · rw [fS_cons, if_neg (by simp only; omega), fS_cons, if_neg (by simp only; omega), unT_S]
/-- asked: it offers -/
theorem mt_padi (t : Int) (ht0 : -9223372036854775808 ≤ t) (ht1 : t ≤ 9223372036854775807) (h1 : sv.length ≤ 40) (h2 : un.length ≤ 40) (h4 : os.length ≤ 8) (h5 : ∀ s, s ∈ os → s.length ≤ 40) (hin : sv = [] ∨ sv ∈ os) (h : CM w g xa xb A cap os) :
    Calls Try.prog 24 #[.pointer (some ⟨g, 0, none⟩), .agg (ethC mcF mtM 34915 (discB 9 0 (tgsB (askL sv un none)))), .int .i64 t] w
      (OneP w mtM mtK 34915 (discB 7 0 (tgsB (offL [97, 99] sv os (ckM sv t) (askL sv un none)))) []) := by
  obtain ⟨a1, a2, a3⟩ := few_split (few_ask0 h1 h2)
  obtain ⟨f1, f2⟩ := ask0_257 sv un
  have hcap := rown_caps h.sv
  refine (take_padi (c := cnM (.slice A os.length cap) xa xb 0 (.slice none 0 0)) (S := []) (G := []) (fun v w' => OneP w mtM mtK 34915 (discB 7 0 (tgsB (offL [97, 99] sv os (ckM sv t) (askL sv un none)))) [] (.returned v) w') mtM (askL sv un none) t (show mtM ≠ mtK by decide) a1 a2 a3 f1 ?_ h.is).mono ?_
  · intro W A2 cap2 k1 k2 k3 hW
    rw [f2]
    refine (offer_any (c := cnM (.slice A os.length cap) xa xb 0 (.slice none 0 0)) mtM sv t ht0 ht1 k1 a2 k2 k3 (h.fr0 hW).at_ h4 hcap.1 hcap.2 hin h1 rfl (by show ([115] : List UInt8).length ≤ 40000; simp) (few_off (nm := [97, 99]) (by simp) h1 h2 (ckM_len sv t) h4 h5).size (h.is.fr0 hW)).mono ?_
    rintro e w' ⟨q, rfl, hq, hN, hF⟩
    exact ⟨_, rfl, q, rfl, Nat.le_trans hW.size hq, hN, hW.trans hF⟩
  · rintro e w' ⟨v, rfl, hR⟩
    exact hR
/-- asked for what it has not: it says nothing -/
theorem mt_padi_no (t : Int) (h1 : sv.length ≤ 40) (h2 : un.length ≤ 40) (h4 : os.length ≤ 8) (hin : ¬ (sv = [] ∨ sv ∈ os)) (h : CM w g xa xb A cap os) :
    Calls Try.prog 24 #[.pointer (some ⟨g, 0, none⟩), .agg (ethC mcF mtM 34915 (discB 9 0 (tgsB (askL sv un none)))), .int .i64 t] w
      fun e w' => e = .returned (.slice none 0 0) ∧ Fr [] w w' := by
  obtain ⟨a1, a2, a3⟩ := few_split (few_ask0 h1 h2)
  obtain ⟨f1, f2⟩ := ask0_257 sv un
  have hcap := rown_caps h.sv
  refine (take_padi (c := cnM (.slice A os.length cap) xa xb 0 (.slice none 0 0)) (S := []) (G := []) (fun v w' => v = .slice none 0 0 ∧ Fr [] w w') mtM (askL sv un none) t (show mtM ≠ mtK by decide) a1 a2 a3 f1 ?_ h.is).mono ?_
  · intro W A2 cap2 k1 k2 k3 hW
    rw [f2]
    refine (offer_no (c := cnM (.slice A os.length cap) xa xb 0 (.slice none 0 0)) mtM sv t (h.fr0 hW).at_ h4 hcap.1 hcap.2 (fun e => hin (Or.inl e)) (fun e => hin (Or.inr e)) rfl (h.is.fr0 hW)).mono ?_
    rintro e w' ⟨rfl, hF⟩
    exact ⟨_, rfl, rfl, hW.trans hF⟩
  · rintro e w' ⟨v, rfl, rfl, hF⟩
    exact ⟨rfl, hF⟩
/-- the concentrator, with one who came -/
structure CMs (w : World) (g xa xb : Nat) (A : Option Addr) (cap : Nat) (os : List (List UInt8)) (un : List UInt8) (p : Nat) : Prop where
  is : CnIs w g (cnM (.slice A os.length cap) xa xb 1 (.slice none 0 0)) [⟨mtM, 1, un, false, p⟩] []
theorem CMs.frT {p : Nat} {Sx : List Nat} {T : Nat} (h : CMs w g xa xb A cap os un p) (hF : Fr Sx w w') (hS : ∀ q, q ∈ Sx → ∃ cur, Blk w q cur T) (h1 : T ≠ 85) (h2 : T ≠ 63) (h3 : T ≠ 61) : CMs w' g xa xb A cap os un p := ⟨h.is.frT hF hS h1 h2 h3⟩
theorem CMs.fr0 {p : Nat} (h : CMs w g xa xb A cap os un p) (hF : Fr [] w w') : CMs w' g xa xb A cap os un p := ⟨h.is.fr0 hF⟩
/-- a request: it grants -/
theorem mt_padr (t : Int) (ht0 : -9223372036854775808 ≤ t) (ht1 : t ≤ 9223372036854775807) (h1 : sv.length ≤ 40) (h2 : un.length ≤ 40) (h4 : os.length ≤ 8) (hin : sv = [] ∨ sv ∈ os) (h : CM w g xa xb A cap os) :
    Calls Try.prog 24 #[.pointer (some ⟨g, 0, none⟩), .agg (ethC mtK mtM 34915 (discB 25 0 (tgsB (askL sv un (some (ckM sv t)))))), .int .i64 t] w
      fun e w' => (∃ p, w.heap.size ≤ p ∧ CMs w' g xa xb A cap os un p) ∧ OneP w mtM mtK 34915 (discB 101 1 (tgsB ((257, sv) :: unT un))) [g, xa, xb] e w' := by
  obtain ⟨a1, a2, a3⟩ := few_split (few_ask1 h1 h2 (ckM_len sv t))
  obtain ⟨f1, f2, f3, f4, f5⟩ := ask1_257 sv un (ckM sv t)
  have hcap := rown_caps h.sv
  refine (take_padr (c := cnM (.slice A os.length cap) xa xb 0 (.slice none 0 0)) (S := []) (G := []) (fun v w' => (∃ p, w.heap.size ≤ p ∧ CMs w' g xa xb A cap os un p) ∧ OneP w mtM mtK 34915 (discB 101 1 (tgsB ((257, sv) :: unT un))) [g, xa, xb] (.returned v) w') mtM (askL sv un (some (ckM sv t))) t (show mtM ≠ mtK by decide) a1 a2 a3 f1 ?_ h.is).mono ?_
  · intro W A2 cap2 k1 k2 k3 hW
    rw [f2]
    have hu := few_un h2
    have hgr := grant_ok (w := W) (c := cnM (.slice A os.length cap) xa xb 0 (.slice none 0 0)) (S := []) (G := []) mtM sv t ht0 ht1 k1 a2 k2 k3 (by unfold McOk mtM b8; decide) f3 (by
      rw [f4]
      unfold ckGood
      have e1 : md5 (cookL (t / 64) [mtM.a, mtM.b, mtM.c, mtM.d, mtM.e, mtM.f] sv (cnM (.slice A os.length cap) xa xb 0 (.slice none 0 0)).sec) = ckM sv t := rfl
      rw [e1]
      have : sameB (ckM sv t) (ckM sv t) = true := by simp [sameB]
      rw [this, Bool.or_true]) (by
        rw [ask1_uniq]
        refine Few.size ⟨by simp; omega, fun x hx => ?_⟩
        rcases List.mem_cons.1 hx with rfl | hx
        · exact ⟨by unfold TgOk; simp only; omega, h1⟩
        rcases List.mem_cons.1 hx with rfl | hx
        · exact ⟨by unfold TgOk; simp only; omega, by simp⟩
        · exact hu.2 x hx) (by rw [f5]; omega) (by rw [f4, ckM_len]; omega) (by show ([115] : List UInt8).length ≤ 40000; simp) (by
          by_cases hsv : sv = []
          · exact Or.inl hsv
          · refine Or.inr ⟨hsv, fun W2 hW2 => ?_⟩
            have hT := hin.resolve_left hsv
            refine (hasS_any sv (h.fr0 (hW.trans hW2)).at_ (by omega) hcap.1 hcap.2).mono ?_
            rintro e w' ⟨rfl, hF⟩
            rw [decide_eq_true hT]
            exact ⟨rfl, hF⟩) (h.is.fr0 hW) (by show (0 : Int) < 60000; omega) (by simp) (by show (5 : Int) ≤ 100000; omega)
    refine hgr.mono ?_
    rintro e w' hG
    rcases hG with ⟨s, hs, _⟩ | ⟨_, hf, _⟩ | ⟨_, _, _, p, hp, hCn, hO⟩
    · cases hs
    · unfold cnM ofCard at hf; simp at hf
    · obtain ⟨q, rfl, hq, hN, hF⟩ := hO
      rw [f5] at hCn
      rw [ask1_uniq] at hN
      exact ⟨_, rfl, ⟨p, Nat.le_trans hW.size hp, ⟨hCn⟩⟩, q, rfl, Nat.le_trans hW.size hq, hN, (hW.mono (by simp)).trans hF⟩
  · rintro e w' ⟨v, rfl, hR⟩
    exact hR
/-- it goes -/
theorem mt_padt {p : Nat} (t : Int) (h : CMs w g xa xb A cap os un p) :
    Calls Try.prog 24 #[.pointer (some ⟨g, 0, none⟩), .agg (ethC mtK mtM 34915 (discB 167 1 (tgsB []))), .int .i64 t] w
      fun e w' => e = .returned (.slice none 0 0) ∧ (∃ va, CnIs w' g (cnM (.slice A os.length cap) xa xb 1 va) [] [(mtM, 1)]) ∧ Fr [g, xa, xb] w w' := by
  refine take_padt (c := cnM (.slice A os.length cap) xa xb 1 (.slice none 0 0)) (S := [⟨mtM, 1, un, false, p⟩]) (G := []) (fun w' => (∃ va, CnIs w' g (cnM (.slice A os.length cap) xa xb 1 va) [] [(mtM, 1)]) ∧ Fr [g, xa, xb] w w') mtM 1 [] t (show mtM ≠ mtK by decide) (by simp) (by simp) (by simp [tgsB]) (by omega) (by omega) (fun W hW => ?_) h.is
  refine (drop_yes (c := cnM (.slice A os.length cap) xa xb 1 (.slice none 0 0)) (S := [⟨mtM, 1, un, false, p⟩]) (G := []) ⟨mtM, 1, un, false, p⟩ (by simp) ⟨(show McOk mtM by unfold McOk mtM b8; decide), (show In64 1 by unfold In64; omega)⟩ (by simp) (h.is.fr0 hW)).mono ?_
  rintro e w' ⟨va, hev, hC, hva, hF⟩
  refine ⟨⟨_, hev⟩, ⟨va, ?_⟩, (hW.mono (by simp)).trans hF⟩
  have e1 : dropS [(⟨mtM, 1, un, false, p⟩ : Ses)] ((⟨mtM, 1, un, false, p⟩ : Ses).m, (⟨mtM, 1, un, false, p⟩ : Ses).n) = [] := by simp [dropS]
  rw [e1] at hC
  exact hC
/-- who is there: nobody -/
theorem mt_live0 {c : Cn} {G : List Idk} (h : CnIs w g c [] G) : Calls Try.prog 27 #[.pointer (some ⟨g, 0, none⟩)] w fun e w' => ∃ A cap, e = .returned (.slice A 0 cap) ∧ Fr [] w w' := by
  refine (live_ok h (by simp)).mono ?_
  rintro e w' ⟨A, cap, L, rfl, hp, _, _, _, _, hF⟩
  obtain rfl : L = [] := List.Perm.eq_nil hp
  exact ⟨A, cap, rfl, hF⟩
/-- who is there: one -/
theorem mt_live1 {c : Cn} {G : List Idk} {s : Ses} (h : CnIs w g c [s] G) : Calls Try.prog 27 #[.pointer (some ⟨g, 0, none⟩)] w fun e w' => ∃ q cap, e = .returned (.slice (some ⟨q, 0, none⟩) 1 cap) ∧ q < w'.heap.size ∧ (∀ W, Fr [] w' W → ∀ c v, (seL s)[c]? = some v → W.cell? ⟨q, c, none⟩ = some v) ∧ Fr [] w w' := by
  refine (live_ok h (by simp)).mono ?_
  rintro e w' ⟨A, cap, L, rfl, hp, _, hA, _, _, hF⟩
  obtain rfl : L = [s] := List.Perm.eq_singleton hp
  obtain ⟨q, rfl, hq, hc⟩ := hA 0 s rfl
  exact ⟨q, cap, rfl, hq, fun W hW c v hv => by have := hc W hW c v hv; simpa using this, hF⟩
/-- who went: one -/
theorem mt_gone1 {c : Cn} {id : Idk} (h : CnIs w g c [] [id]) : Calls Try.prog 33 #[.pointer (some ⟨g, 0, none⟩)] w fun e w' => (∃ A cap, e = .returned (.slice A 1 cap)) ∧ Fr [g] w w' := by
  refine (gone_ok h).mono ?_
  rintro e w' ⟨rfl, _, ho, hF⟩
  obtain ⟨A, cap, hv⟩ := own_slice ho
  rw [hv]
  exact ⟨⟨A, cap, rfl⟩, hF⟩
/-- the host, asked by its state -/
theorem mt_htake {gh : Nat} (p : Ps) (f : Et) (hi : HI p) (hd : f.d.length ≤ 3000) (h : PhIs w gh p) :
    Calls Try.prog 19 #[.pointer (some ⟨gh, 0, none⟩), .agg (etC f)] w (POut w gh (pTake p (etT f)).2 (pTake p (etT f)).1) := by
  obtain ⟨ck, hB, hc⟩ := h
  exact ptake_any f p.2 hi hd hB hc
theorem mt_hstart {gh : Nat} (p : Ps) (hi : HI p) (h : PhIs w gh p) : Calls Try.prog 15 #[.pointer (some ⟨gh, 0, none⟩)] w (POut w gh (pStart p).2 (pStart p).1) := by
  obtain ⟨ck, hB, hc⟩ := h
  exact pstart_any p.2 hi hB hc
theorem mt_hstop {gh : Nat} (p : Ps) (hi : HI p) (h : PhIs w gh p) : Calls Try.prog 18 #[.pointer (some ⟨gh, 0, none⟩)] w (POut w gh (pStop p).2 (pStop p).1) := by
  obtain ⟨ck, hB, hc⟩ := h
  exact pstop_any p.2 hi hB
theorem mt_hstate {gh : Nat} (p : Ps) (hw : p.1.wt ≠ 0) (h : PhIs w gh p) : Calls Try.prog 16 #[.pointer (some ⟨gh, 0, none⟩)] w fun e w' => e = .returned (.tuple #[.int .i64 p.1.st, .agg (mcL p.1.k).toArray, .int .i64 p.1.ss]) ∧ Fr [] w w' := by
  obtain ⟨ck, hB, hc⟩ := h
  exact hstate_any hw hB
/-- one frame, as what was told -/
theorem OutP.one_cells {S : List Nat} {f : Eth} {e : Ending} (h : OutP w [f] S e w') : ∃ q cap, e = .returned (.slice (some ⟨q, 0, none⟩) 1 cap) ∧ w.heap.size ≤ q ∧ (∃ cs, Blk w' q cs 35) ∧ (∀ c v, (ethF f)[c]? = some v → w'.cell? ⟨q, c, none⟩ = some v) ∧ w'.ownsRow w.heap.size 35 14 (.slice (some ⟨q, 0, none⟩) 1 cap) 1 (ethF f) ∧ Fr S w w' := by
  obtain ⟨A, cap, rfl, ho, hF⟩ := h
  have hr := RAt.of_own (f := ethF) (fun _ => rfl) (l := [f]) ho
  obtain ⟨q, rfl, hq, hc⟩ := hr 0 f rfl
  have hb := rown_blk ho q rfl
  have hlo : w.heap.size ≤ q := by
    obtain ⟨g, cap', hv, hg, _⟩ := ho.form (by simp)
    cases hv
    exact hg
  rw [rowF_one] at ho
  exact ⟨q, cap, rfl, hlo, hb, fun c v hv => by have := hc w' (Fr.refl _ _) c v hv; simpa using this, ho, hF⟩
end
end Go.Proofs.Ytcdencpkgfehlaa

/- HostMeets: each call, on one state of host and concentrator. -/
namespace Go.Proofs.Ytcdencpkgfehlaa
open Go.RowKit Go.Maps
set_option linter.unusedVariables false
def md1 (sv un : List UInt8) : List UInt8 := discB 9 0 (tgsB (askL sv un none))
def md2 (sv un : List UInt8) (os : List (List UInt8)) (t : Int) : List UInt8 := discB 7 0 (tgsB (offL [97, 99] sv os (ckM sv t) (askL sv un none)))
def md3 (sv un : List UInt8) (t : Int) : List UInt8 := discB 25 0 (tgsB (askL sv un (some (ckM sv t))))
def md4 (sv un : List UInt8) : List UInt8 := discB 101 1 (tgsB ((257, sv) :: unT un))
def mdz : List UInt8 := discB 167 1 (tgsB [])
theorem disc_len (c ss : Int) (d : List UInt8) : (discB c ss d).length = d.length + 6 := by rw [disc_cons]; simp [be_length]; omega
/-- one frame in memory -/
def FA (w : World) (q cap : Nat) (f : Eth) : Prop := w.ownsRow 0 35 14 (.slice (some ⟨q, 0, none⟩) 1 cap) 1 (ethF f)
theorem FA.c {w : World} {q cap : Nat} {f : Eth} (h : FA w q cap f) (c : Nat) (v : Value) (hc : (ethF f)[c]? = some v) : w.cell? ⟨q, c, none⟩ = some v := by
  have hr := RAt.of_own (f := ethF) (fun _ => rfl) (l := [f]) (by rw [rowF_one]; exact h)
  obtain ⟨q', e, hq, hcell⟩ := hr 0 f rfl
  cases e
  have := hcell w (Fr.refl _ _) c v hc
  simpa using this
theorem FA.of {w : World} {base : Nat} {v : Value} {f : Eth} (h : w.ownsRow base 35 14 v 1 (ethF f)) : ∃ q cap, v = .slice (some ⟨q, 0, none⟩) 1 cap ∧ FA w q cap f := by
  obtain ⟨q, cap, hv, hg, _⟩ := h.form (by simp)
  subst hv
  exact ⟨q, cap, rfl, own_base h (Nat.zero_le _)⟩
theorem FA.fr0 {w w' : World} {q cap : Nat} {f : Eth} (h : FA w q cap f) (hF : Fr [] w w') : FA w' q cap f := rown_frS h hF (fun _ _ hq => by cases hq)
/-- the concentrator: asked by nobody; one came; she went -/
def CX (g xa xb : Nat) (A : Option Addr) (cap : Nat) (os : List (List UInt8)) (un : List UInt8) (k : Nat) (w : World) : Prop :=
  if k = 0 then CM w g xa xb A cap os else if k = 1 then ∃ p, CMs w g xa xb A cap os un p else ∃ va, CnIs w g (cnM (.slice A os.length cap) xa xb 1 va) [] [(mtM, 1)]
section
variable {w0 w w' : World} {g xa xb gh bm bk : Nat} {A : Option Addr} {cap : Nat} {os : List (List UInt8)} {sv un : List UInt8} {k : Nat} {p p' : Ps}
theorem CX.cn (h : CX g xa xb A cap os un k w) : ∃ c S G, CnIs w g c S G ∧ c.at_ = xa ∧ c.tk = xb := by
  unfold CX at h
  split at h
  · exact ⟨_, _, _, h.is, rfl, rfl⟩
  split at h
  · obtain ⟨p, h⟩ := h
    exact ⟨_, _, _, h.is, rfl, rfl⟩
  · obtain ⟨va, h⟩ := h
    exact ⟨_, _, _, h, rfl, rfl⟩
theorem CX.frT {Sx : List Nat} {T : Nat} (h : CX g xa xb A cap os un k w) (hF : Fr Sx w w') (hS : ∀ q, q ∈ Sx → ∃ cur, Blk w q cur T) (h1 : T ≠ 85) (h2 : T ≠ 63) (h3 : T ≠ 61) (h4 : T ≠ 9) : CX g xa xb A cap os un k w' := by
  unfold CX at h ⊢
  split
  · rename_i e; rw [if_pos e] at h; exact h.frT hF hS h1 h2 h3 h4
  rename_i e
  rw [if_neg e] at h
  split
  · rename_i e; rw [if_pos e] at h
    obtain ⟨p, h⟩ := h
    exact ⟨p, h.frT hF hS h1 h2 h3⟩
  · rename_i e; rw [if_neg e] at h
    obtain ⟨va, h⟩ := h
    exact ⟨va, h.frT hF hS h1 h2 h3⟩
/-- both, and the two cards -/
structure MS (w0 : World) (g xa xb gh bm bk : Nat) (A : Option Addr) (cap : Nat) (os : List (List UInt8)) (un : List UInt8) (k : Nat) (p : Ps) (w : World) : Prop where
  fr : Fr [] w0 w
  cx : CX g xa xb A cap os un k w
  ph : PhIs w gh p
  m : Blk w bm #[.int .u8 1, .int .u8 0, .int .u8 0, .int .u8 0, .int .u8 0, .int .u8 0] 28
  k9 : Blk w bk #[.int .u8 9, .int .u8 0, .int .u8 0, .int .u8 0, .int .u8 0, .int .u8 0] 28
  hg : w0.heap.size ≤ g
  hxa : w0.heap.size ≤ xa
  hxb : w0.heap.size ≤ xb
  hgh : w0.heap.size ≤ gh
theorem MS.fr0 (h : MS w0 g xa xb gh bm bk A cap os un k p w) (hF : Fr [] w w') : MS w0 g xa xb gh bm bk A cap os un k p w' :=
  ⟨h.fr.trans hF, h.cx.frT hF (T := 92) (fun q hq => by cases hq) (by decide) (by decide) (by decide) (by decide), h.ph.fr0 hF, hF.blk h.m (by simp), hF.blk h.k9 (by simp), h.hg, h.hxa, h.hxb, h.hgh⟩
theorem MS.host (h : MS w0 g xa xb gh bm bk A cap os un k p w) (hF : Fr [gh] w w') (hp : PhIs w' gh p') : MS w0 g xa xb gh bm bk A cap os un k p' w' := by
  obtain ⟨ck, hB, _⟩ := h.ph
  exact ⟨h.fr.fresh1 hF h.hgh, h.cx.frT hF (T := 92) (fun q hq => by simp at hq; subst hq; exact ⟨_, hB⟩) (by decide) (by decide) (by decide) (by decide), hp,
    hF.blk h.m (fun hq => h.m.ne_type hB (by decide) (List.mem_singleton.1 hq)), hF.blk h.k9 (fun hq => h.k9.ne_type hB (by decide) (List.mem_singleton.1 hq)), h.hg, h.hxa, h.hxb, h.hgh⟩
theorem MS.conc {k' : Nat} (h : MS w0 g xa xb gh bm bk A cap os un k p w) (hF : Fr [g, xa, xb] w w') (hc : CX g xa xb A cap os un k' w') : MS w0 g xa xb gh bm bk A cap os un k' p w' := by
  obtain ⟨c, S, G, hC, e1, e2⟩ := h.cx.cn
  have hno : ∀ {b T : Nat} {cs : Array Value}, Blk w b cs T → T ≠ 85 → b ∉ [g, xa, xb] := fun {b T cs} hB hT hq => by
    simp only [List.mem_cons, List.not_mem_nil, or_false] at hq
    rcases hq with rfl | rfl | rfl
    · exact hB.ne_type hC.st hT rfl
    · exact hC.hM.not_blk hB e1.symm
    · exact hC.tM.not_blk hB e2.symm
  refine ⟨h.fr.sub hF (fun x hx => ?_), hc, h.ph.fr hF (fun q hq cur T hcur => ?_), hF.blk h.m (hno h.m (by decide)), hF.blk h.k9 (hno h.k9 (by decide)), h.hg, h.hxa, h.hxb, h.hgh⟩
  · simp only [List.mem_cons, List.not_mem_nil, or_false] at hx
    rcases hx with rfl | rfl | rfl
    · exact Or.inr h.hg
    · exact Or.inr h.hxa
    · exact Or.inr h.hxb
  · have : T = 85 := by
      by_cases hT : T = 85
      · exact hT
      · exact absurd hq (hno hcur hT)
    subst this
    exact ⟨by decide, by decide⟩
theorem MS.c0 (h : MS w0 g xa xb gh bm bk A cap os un 0 p w) : CM w g xa xb A cap os := by
  have := h.cx
  unfold CX at this
  simpa using this
theorem MS.c1 (h : MS w0 g xa xb gh bm bk A cap os un 1 p w) : ∃ x, CMs w g xa xb A cap os un x := by
  have := h.cx
  unfold CX at this
  simpa using this
theorem MS.c2 (h : MS w0 g xa xb gh bm bk A cap os un 2 p w) : ∃ va, CnIs w g (cnM (.slice A os.length cap) xa xb 1 va) [] [(mtM, 1)] := by
  have := h.cx
  unfold CX at this
  simpa using this
theorem CX.mk1 (h : ∃ x, CMs w g xa xb A cap os un x) : CX g xa xb A cap os un 1 w := by
  unfold CX
  simpa using h
theorem CX.mk2 (h : ∃ va, CnIs w g (cnM (.slice A os.length cap) xa xb 1 va) [] [(mtM, 1)]) : CX g xa xb A cap os un 2 w := by
  unfold CX
  simpa using h
theorem CX.mk0 (h : CM w g xa xb A cap os) : CX g xa xb A cap os un 0 w := by
  unfold CX
  simpa using h
theorem MS.start (h1 : sv.length ≤ 40) (h2 : un.length ≤ 40) (h : MS w0 g xa xb gh bm bk A cap os un k (mt0 sv un) w) :
    Calls Try.prog 15 #[.pointer (some ⟨gh, 0, none⟩)] w fun e w' => ∃ q c, e = .returned (.slice (some ⟨q, 0, none⟩) 1 c) ∧ FA w' q c (mcF, mtM, 34915, md1 sv un) ∧ MS w0 g xa xb gh bm bk A cap os un k (mt1 sv un) w' := by
  refine (mt_hstart (mt0 sv un) (mt_hi0 h1 h2) h.ph).mono ?_
  rintro e w' ⟨hO, hP⟩
  rw [mt_start h1 h2] at hO hP
  obtain ⟨q, c, rfl, _, _, _, hown, hF⟩ := hO.one_cells
  exact ⟨q, c, rfl, own_base hown (Nat.zero_le _), h.host hF hP⟩
theorem MS.padi (t : Int) (ht0 : -9223372036854775808 ≤ t) (ht1 : t ≤ 9223372036854775807) (h1 : sv.length ≤ 40) (h2 : un.length ≤ 40) (h4 : os.length ≤ 8) (h5 : ∀ s, s ∈ os → s.length ≤ 40) (hin : sv = [] ∨ sv ∈ os) (h : MS w0 g xa xb gh bm bk A cap os un 0 p w) :
    Calls Try.prog 24 #[.pointer (some ⟨g, 0, none⟩), .agg (ethC mcF mtM 34915 (md1 sv un)), .int .i64 t] w fun e w' => ∃ q c, e = .returned (.slice (some ⟨q, 0, none⟩) 1 c) ∧ FA w' q c (mtM, mtK, 34915, md2 sv un os t) ∧ MS w0 g xa xb gh bm bk A cap os un 0 p w' := by
  refine (mt_padi t ht0 ht1 h1 h2 h4 h5 hin h.c0).mono ?_
  intro e w' hO
  obtain ⟨q, c, rfl, _, _, _, hown, hF⟩ := (OutP.one hO).one_cells
  exact ⟨q, c, rfl, own_base hown (Nat.zero_le _), h.fr0 hF⟩
theorem MS.padi_no (t : Int) (h1 : sv.length ≤ 40) (h2 : un.length ≤ 40) (h4 : os.length ≤ 8) (hin : ¬ (sv = [] ∨ sv ∈ os)) (h : MS w0 g xa xb gh bm bk A cap os un 0 p w) :
    Calls Try.prog 24 #[.pointer (some ⟨g, 0, none⟩), .agg (ethC mcF mtM 34915 (md1 sv un)), .int .i64 t] w fun e w' => e = .returned (.slice none 0 0) ∧ MS w0 g xa xb gh bm bk A cap os un 0 p w' := by
  refine (mt_padi_no t h1 h2 h4 hin h.c0).mono ?_
  rintro e w' ⟨rfl, hF⟩
  exact ⟨rfl, h.fr0 hF⟩
theorem MS.offer (t : Int) (h1 : sv.length ≤ 40) (h2 : un.length ≤ 40) (h4 : os.length ≤ 8) (h5 : ∀ s, s ∈ os → s.length ≤ 40) (h : MS w0 g xa xb gh bm bk A cap os un k (mt1 sv un) w) :
    Calls Try.prog 19 #[.pointer (some ⟨gh, 0, none⟩), .agg (ethC mtM mtK 34915 (md2 sv un os t))] w fun e w' => ∃ q c, e = .returned (.slice (some ⟨q, 0, none⟩) 1 c) ∧ FA w' q c (mtK, mtM, 34915, md3 sv un t) ∧ MS w0 g xa xb gh bm bk A cap os un k (mt2 sv un (ckM sv t)) w' := by
  have hf := (few_off (nm := [97, 99]) (by simp) h1 h2 (ckM_len sv t) h4 h5).size
  refine (mt_htake (mt1 sv un) ⟨mtM, mtK, 34915, md2 sv un os t⟩ (mt_hi1 h1 h2) (by show (md2 sv un os t).length ≤ 3000; unfold md2; rw [disc_len]; omega) h.ph).mono ?_
  rintro e w' ⟨hO, hP⟩
  have he : pTake (mt1 sv un) (etT ⟨mtM, mtK, 34915, md2 sv un os t⟩) = _ := mt_offer (os := os) h1 h2 (ckM_len sv t) h4 h5
  rw [he] at hO hP
  obtain ⟨q, c, rfl, _, _, _, hown, hF⟩ := hO.one_cells
  exact ⟨q, c, rfl, own_base hown (Nat.zero_le _), h.host hF hP⟩
theorem MS.padr (t : Int) (ht0 : -9223372036854775808 ≤ t) (ht1 : t ≤ 9223372036854775807) (h1 : sv.length ≤ 40) (h2 : un.length ≤ 40) (h4 : os.length ≤ 8) (hin : sv = [] ∨ sv ∈ os) (h : MS w0 g xa xb gh bm bk A cap os un 0 p w) :
    Calls Try.prog 24 #[.pointer (some ⟨g, 0, none⟩), .agg (ethC mtK mtM 34915 (md3 sv un t)), .int .i64 t] w fun e w' => ∃ q c, e = .returned (.slice (some ⟨q, 0, none⟩) 1 c) ∧ FA w' q c (mtM, mtK, 34915, md4 sv un) ∧ MS w0 g xa xb gh bm bk A cap os un 1 p w' := by
  refine (mt_padr t ht0 ht1 h1 h2 h4 hin h.c0).mono ?_
  rintro e w' ⟨⟨x, _, hx⟩, hO⟩
  obtain ⟨q, c, rfl, _, _, _, hown, hF⟩ := (OutP.one hO).one_cells
  exact ⟨q, c, rfl, own_base hown (Nat.zero_le _), h.conc hF (CX.mk1 ⟨x, hx⟩)⟩
theorem MS.grant (t : Int) (h1 : sv.length ≤ 40) (h2 : un.length ≤ 40) (h : MS w0 g xa xb gh bm bk A cap os un k (mt2 sv un (ckM sv t)) w) :
    Calls Try.prog 19 #[.pointer (some ⟨gh, 0, none⟩), .agg (ethC mtM mtK 34915 (md4 sv un))] w fun e w' => ∃ B c, e = .returned (.slice B 0 c) ∧ w'.ownsRow 0 35 14 (.slice B 0 c) 0 [] ∧ MS w0 g xa xb gh bm bk A cap os un k (mt3 sv un (ckM sv t)) w' := by
  have hf := (few_pads h1 h2).size
  refine (mt_htake (mt2 sv un (ckM sv t)) ⟨mtM, mtK, 34915, md4 sv un⟩ (mt_hi2 h1 h2 (ckM_len sv t)) (by show (md4 sv un).length ≤ 3000; unfold md4; rw [disc_len]; omega) h.ph).mono ?_
  rintro e w' ⟨hO, hP⟩
  have he : pTake (mt2 sv un (ckM sv t)) (etT ⟨mtM, mtK, 34915, md4 sv un⟩) = _ := mt_grant h1 h2
  rw [he] at hO hP
  obtain ⟨B, c, rfl, hown, hF⟩ := hO
  exact ⟨B, c, rfl, own_base hown (Nat.zero_le _), h.host hF hP⟩
theorem MS.stop (t : Int) (h1 : sv.length ≤ 40) (h2 : un.length ≤ 40) (h : MS w0 g xa xb gh bm bk A cap os un k (mt3 sv un (ckM sv t)) w) :
    Calls Try.prog 18 #[.pointer (some ⟨gh, 0, none⟩)] w fun e w' => ∃ q c, e = .returned (.slice (some ⟨q, 0, none⟩) 1 c) ∧ FA w' q c (mtK, mtM, 34915, mdz) ∧ MS w0 g xa xb gh bm bk A cap os un k (mt4 sv un) w' := by
  refine (mt_hstop (mt3 sv un (ckM sv t)) (mt_hi3 h1 h2 (ckM_len sv t)) h.ph).mono ?_
  rintro e w' ⟨hO, hP⟩
  rw [mt_stop] at hO hP
  obtain ⟨q, c, rfl, _, _, _, hown, hF⟩ := hO.one_cells
  exact ⟨q, c, rfl, own_base hown (Nat.zero_le _), h.host hF hP⟩
theorem MS.padt (t : Int) (h : MS w0 g xa xb gh bm bk A cap os un 1 p w) :
    Calls Try.prog 24 #[.pointer (some ⟨g, 0, none⟩), .agg (ethC mtK mtM 34915 mdz), .int .i64 t] w fun e w' => e = .returned (.slice none 0 0) ∧ MS w0 g xa xb gh bm bk A cap os un 2 p w' := by
  obtain ⟨x, hx⟩ := h.c1
  refine (mt_padt t hx).mono ?_
  rintro e w' ⟨rfl, hC, hF⟩
  exact ⟨rfl, h.conc hF (CX.mk2 hC)⟩
theorem MS.state (hw : p.1.wt ≠ 0) (h : MS w0 g xa xb gh bm bk A cap os un k p w) :
    Calls Try.prog 16 #[.pointer (some ⟨gh, 0, none⟩)] w fun e w' => e = .returned (.tuple #[.int .i64 p.1.st, .agg (mcL p.1.k).toArray, .int .i64 p.1.ss]) ∧ MS w0 g xa xb gh bm bk A cap os un k p w' := by
  refine (mt_hstate p hw h.ph).mono ?_
  rintro e w' ⟨rfl, hF⟩
  exact ⟨rfl, h.fr0 hF⟩
theorem MS.live0 (hk : k = 0 ∨ k = 2) (h : MS w0 g xa xb gh bm bk A cap os un k p w) :
    Calls Try.prog 27 #[.pointer (some ⟨g, 0, none⟩)] w fun e w' => ∃ B c, e = .returned (.slice B 0 c) ∧ MS w0 g xa xb gh bm bk A cap os un k p w' := by
  have hE : ∃ c G, CnIs w g c [] G := by
    rcases hk with rfl | rfl
    · exact ⟨_, _, h.c0.is⟩
    · obtain ⟨va, hx⟩ := h.c2
      exact ⟨_, _, hx⟩
  obtain ⟨c, G, hC⟩ := hE
  refine (mt_live0 hC).mono ?_
  rintro e w' ⟨B, c', rfl, hF⟩
  exact ⟨B, c', rfl, h.fr0 hF⟩
theorem MS.live1F (h : MS w0 g xa xb gh bm bk A cap os un 1 p w) :
    Calls Try.prog 27 #[.pointer (some ⟨g, 0, none⟩)] w fun e w' => ∃ q c, e = .returned (.slice (some ⟨q, 0, none⟩) 1 c) ∧ (∀ W, Fr [] w' W → (W.cell? ⟨q, 0, none⟩ = some (.int .u8 1) ∧ W.cell? ⟨q, 1, none⟩ = some (.int .u8 0) ∧ W.cell? ⟨q, 2, none⟩ = some (.int .u8 0) ∧ W.cell? ⟨q, 3, none⟩ = some (.int .u8 0) ∧ W.cell? ⟨q, 4, none⟩ = some (.int .u8 0) ∧ W.cell? ⟨q, 5, none⟩ = some (.int .u8 0) ∧ W.cell? ⟨q, 6, none⟩ = some (.int .i64 1))) ∧ Fr [] w w' ∧ MS w0 g xa xb gh bm bk A cap os un 1 p w' := by
  obtain ⟨x, hx⟩ := h.c1
  refine (mt_live1 hx.is).mono ?_
  rintro e w' ⟨q, c, rfl, _, hc, hF⟩
  exact ⟨q, c, rfl, fun W hW => ⟨hc W hW 0 _ rfl, hc W hW 1 _ rfl, hc W hW 2 _ rfl, hc W hW 3 _ rfl, hc W hW 4 _ rfl, hc W hW 5 _ rfl, hc W hW 6 _ rfl⟩, hF, h.fr0 hF⟩
theorem MS.gone1 (h : MS w0 g xa xb gh bm bk A cap os un 2 p w) :
    Calls Try.prog 33 #[.pointer (some ⟨g, 0, none⟩)] w fun e w' => ∃ B c, e = .returned (.slice B 1 c) ∧ Fr [] w0 w' := by
  obtain ⟨va, hx⟩ := h.c2
  refine (mt_gone1 hx).mono ?_
  rintro e w' ⟨⟨B, c, rfl⟩, hF⟩
  exact ⟨B, c, rfl, h.fr.fresh1 hF h.hg⟩
end
end Go.Proofs.Ytcdencpkgfehlaa

