/- tollgatelaw7.asked: a packet of a host. -/
import Derived.Test.YtcdencpkgfehlaaAcF
namespace Go.Proofs.Ytcdencpkgfehlaa
open Go.RowKit Go.Maps
set_option linter.unusedVariables false
section
variable {w : World}
set_option maxRecDepth 100000 in
set_option maxHeartbeats 4000000 in
theorem asked_ok (host dst : Mc) (cd ss : Int) {A : Option Addr} {cap : Nat} {l : List Tg} (hT : TgAt w A l) (hok : ∀ t, t ∈ l → TgOk t) (hl : l.length ≤ 20) (hc : l.length ≤ cap) (hm : cap ≤ maxLen) (hs : (tgsB l).length ≤ 1494) (c0 : 0 ≤ cd) (c1 : cd ≤ 255) (s0 : 0 ≤ ss) (s1 : ss ≤ 65535) :
    Calls Try.prog 25 #[.agg (mcL host).toArray, .agg (mcL dst).toArray, .int .i64 cd, .int .i64 ss, .slice A l.length cap] w fun e w' => e = .returned (.agg (ethC dst host 34915 (discB cd ss (tgsB l)))) ∧ Fr [] w w' := by
  have P1 := Lib.hid fun W (hW : Fr [] w W) => puttags_ok (hT.fr0 hW) hok hl hc hm hs
  have P2 := Lib.hid fun W => tput_ok (w := W) cd ss (tgsB l) c0 c1 s0 s1 hs
  obtain ⟨D, hD⟩ : ∃ D, discB cd ss (tgsB l) = D := ⟨_, rfl⟩
  obtain ⟨E, hE⟩ : ∃ E, tgsB l = E := ⟨_, rfl⟩
  rw [hD] at P2 ⊢
  rw [hE] at P1 P2
  obtain ⟨h1, h2, h3, h4, h5, h6⟩ := host
  obtain ⟨k1, k2, k3, k4, k5, k6⟩ := dst
  unfold mcL ethC
  simp only
  have hFa := (Fr.refl [] w).alloc (.cells #[.int .u8 h1, .int .u8 h2, .int .u8 h3, .int .u8 h4, .int .u8 h5, .int .u8 h6] 28 (0, 0))
  have hNa := (Blk.new w #[.int .u8 h1, .int .u8 h2, .int .u8 h3, .int .u8 h4, .int .u8 h5, .int .u8 h6] 28)
  obtain ⟨qa, hqa⟩ : ∃ q, w.heap.size = q := ⟨_, rfl⟩
  obtain ⟨W1, hW1⟩ : ∃ W, w.alloc (.cells #[.int .u8 h1, .int .u8 h2, .int .u8 h3, .int .u8 h4, .int .u8 h5, .int .u8 h6] 28 (0, 0)) = W := ⟨_, rfl⟩
  rw [hW1] at hFa hNa
  rw [hqa] at hNa
  have hFb := hFa.alloc (.cells #[.int .u8 k1, .int .u8 k2, .int .u8 k3, .int .u8 k4, .int .u8 k5, .int .u8 k6] 28 (0, 0))
  have hNb := Blk.new W1 #[.int .u8 k1, .int .u8 k2, .int .u8 k3, .int .u8 k4, .int .u8 k5, .int .u8 k6] 28
  have hNa2 := hNa.alloc (.cells #[.int .u8 k1, .int .u8 k2, .int .u8 k3, .int .u8 k4, .int .u8 k5, .int .u8 k6] 28 (0, 0))
  obtain ⟨qb, hqb⟩ : ∃ q, W1.heap.size = q := ⟨_, rfl⟩
  obtain ⟨W2, hW2⟩ : ∃ W, W1.alloc (.cells #[.int .u8 k1, .int .u8 k2, .int .u8 k3, .int .u8 k4, .int .u8 k5, .int .u8 k6] 28 (0, 0)) = W := ⟨_, rfl⟩
  rw [hW2] at hFb hNb hNa2
  rw [hqb] at hNb
  have hFc := hFb.alloc (.cells #[.int .u8 0, .int .u8 0, .int .u8 0, .int .u8 0, .int .u8 0, .int .u8 0, .int .u8 0, .int .u8 0, .int .u8 0, .int .u8 0, .int .u8 0, .int .u8 0, .int .i64 0, .string ⟨#[]⟩] 35 (0, 0))
  have hNc := Blk.new W2 #[.int .u8 0, .int .u8 0, .int .u8 0, .int .u8 0, .int .u8 0, .int .u8 0, .int .u8 0, .int .u8 0, .int .u8 0, .int .u8 0, .int .u8 0, .int .u8 0, .int .i64 0, .string ⟨#[]⟩] 35
  have hFx := (Fr.refl [] W2).alloc (.cells #[.int .u8 0, .int .u8 0, .int .u8 0, .int .u8 0, .int .u8 0, .int .u8 0, .int .u8 0, .int .u8 0, .int .u8 0, .int .u8 0, .int .u8 0, .int .u8 0, .int .i64 0, .string ⟨#[]⟩] 35 (0, 0))
  have hNa3 := hFx.blk hNa2 (by simp)
  have hNb3 := hFx.blk hNb (by simp)
  have hsz2 := hFb.size
  clear hFa hNa hFb hNb hNa2 hT hok hl hc hm hs hD hE c0 c1 s0 s1 hFx
  go_enter Try.func25, Try.ntmps25
  go_wp2_with fail
  refine (P1.out _ hFc).mono ?_
  rintro e w1 ⟨rfl, hG1⟩
  obtain ⟨qc, hqc⟩ : ∃ q, W2.heap.size = q := ⟨_, rfl⟩
  rw [hqc] at hNc ⊢
  have HWC : Hid (w.heap.size ≤ qc) := Lib.hid (by rw [← hqc]; exact hsz2)
  have hF1 := hFc.trans hG1
  have a1 := hG1.blk hNa3 (by simp)
  have b1 := hG1.blk hNb3 (by simp)
  have c1 := hG1.blk hNc (by simp)
  clear hFc hG1 hNa3 hNb3 hNc hqc hW1 hW2 hqa hqb
  go_wp2_with fail
  refine (P2.out _).mono ?_
  rintro e w2 ⟨rfl, hG2⟩
  have hF2 := hF1.trans hG2
  have a2 := hG2.blk a1 (by simp)
  have b2 := hG2.blk b1 (by simp)
  have c2 := hG2.blk c1 (by simp)
  have x0 := a2.c 0 _ rfl
  have x1 := a2.c 1 _ rfl
  have x2 := a2.c 2 _ rfl
  have x3 := a2.c 3 _ rfl
  have x4 := a2.c 4 _ rfl
  have x5 := a2.c 5 _ rfl
  have y0 := b2.c 0 _ rfl
  have y1 := b2.c 1 _ rfl
  have y2 := b2.c 2 _ rfl
  have y3 := b2.c 3 _ rfl
  have y4 := b2.c 4 _ rfl
  have y5 := b2.c 5 _ rfl
  have HC2 := Lib.hid c2
  have HF2 := Lib.hid hF2
  clear P1 P2 hF1 hG2 a1 b1 c1 hF2 a2 b2 c2
  go_wp2_with (refine wpList_store_blk rfl 35 _ _ rfl qc 35 _ #[.int .u8 k1, .int .u8 k2, .int .u8 k3, .int .u8 k4, .int .u8 k5, .int .u8 k6, .int .u8 h1, .int .u8 h2, .int .u8 h3, .int .u8 h4, .int .u8 h5, .int .u8 h6, .int .i64 34915, .string (B D)] HC2.out rfl rfl rfl (by kernel_rfl) (by simp [Value.oneCell']) ?_)
  intro w3 hw3 hN3
  have hF3 : Fr [] w w3 := by
    rw [hw3.out]
    exact HF2.out.setCells qc 0 _ (Or.inl HWC.out)
  clear hw3 HC2 HF2
  go_wp2_with fail
  exact ret_cell1 10 35 rfl qc 35 _ _ hN3 rfl Try.underlying35 rfl (by kernel_rfl) rfl ⟨rfl, hF3⟩
end
end Go.Proofs.Ytcdencpkgfehlaa
