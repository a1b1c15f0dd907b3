/- the book: Apart, where each of its calls keeps what it is said to keep (printed by tools/gen_apany.py). -/
import Derived.Test.YtfchbppfbepelaaGreatMgA
namespace Go.Proofs.YtfchbppfbepelaaGreat
open Go.RowKit
set_option linter.unusedVariables false
/-- what the calls of Apart keep -/
structure ApH (b : Nat) (R0 : World → Prop) (R1 : Nat → World → Prop) (R2 : List Value → World → Prop) (A : Nat → Option Addr) (n c : Nat → Nat) : Prop where
  sTexts : ∀ {w}, R0 w → Calls Tryz.prog 111 #[.pointer (some ⟨b, 0, none⟩)] w fun e w' => e = .returned (.bool true) ∧ R0 w'
  sInts : ∀ {w}, R0 w → Calls Tryz.prog 112 #[.pointer (some ⟨b, 0, none⟩)] w fun e w' => e = .returned (.bool true) ∧ R0 w'
  sEthers : ∀ {w}, R0 w → Calls Tryz.prog 113 #[.pointer (some ⟨b, 0, none⟩)] w fun e w' => e = .returned (.bool true) ∧ R0 w'
  sTags : ∀ {w}, R0 w → Calls Tryz.prog 114 #[.pointer (some ⟨b, 0, none⟩)] w fun e w' => e = .returned (.bool true) ∧ R0 w'
  sOptions : ∀ {w}, R0 w → Calls Tryz.prog 115 #[.pointer (some ⟨b, 0, none⟩)] w fun e w' => e = .returned (.bool true) ∧ R0 w'
  sPackets : ∀ {w}, R0 w → Calls Tryz.prog 116 #[.pointer (some ⟨b, 0, none⟩)] w fun e w' => e = .returned (.bool true) ∧ R0 w'
  sAvps : ∀ {w}, R0 w → Calls Tryz.prog 117 #[.pointer (some ⟨b, 0, none⟩)] w fun e w' => e = .returned (.bool true) ∧ R0 w'
  sCtls : ∀ {w}, R0 w → Calls Tryz.prog 118 #[.pointer (some ⟨b, 0, none⟩)] w fun e w' => e = .returned (.bool true) ∧ R0 w'
  sKeys : ∀ {w}, R0 w → Calls Tryz.prog 119 #[.pointer (some ⟨b, 0, none⟩)] w fun e w' => e = .returned (.bool true) ∧ R0 w'
  sSessions : ∀ {w}, R0 w → Calls Tryz.prog 120 #[.pointer (some ⟨b, 0, none⟩)] w fun e w' => e = .returned (.bool true) ∧ R0 w'
  sIds : ∀ {w}, R0 w → Calls Tryz.prog 121 #[.pointer (some ⟨b, 0, none⟩)] w fun e w' => e = .returned (.bool true) ∧ R0 w'
  sGrams : ∀ {w}, R0 w → Calls Tryz.prog 122 #[.pointer (some ⟨b, 0, none⟩)] w fun e w' => e = .returned (.bool true) ∧ R0 w'
  sSays : ∀ {w}, R0 w → Calls Tryz.prog 123 #[.pointer (some ⟨b, 0, none⟩)] w fun e w' => e = .returned (.bool true) ∧ R0 w'
  sItems : ∀ {w}, R0 w → Calls Tryz.prog 124 #[.pointer (some ⟨b, 0, none⟩)] w fun e w' => e = .returned (.bool true) ∧ R0 w'
  sLines : ∀ {w}, R0 w → Calls Tryz.prog 125 #[.pointer (some ⟨b, 0, none⟩)] w fun e w' => e = .returned (.bool true) ∧ R0 w'
  sSeats : ∀ {w}, R0 w → Calls Tryz.prog 126 #[.pointer (some ⟨b, 0, none⟩)] w fun e w' => e = .returned (.bool true) ∧ R0 w'
  sEvents : ∀ {w}, R0 w → Calls Tryz.prog 127 #[.pointer (some ⟨b, 0, none⟩)] w fun e w' => e = .returned (.bool true) ∧ R0 w'
  sSteps : ∀ {w}, R0 w → Calls Tryz.prog 128 #[.pointer (some ⟨b, 0, none⟩)] w fun e w' => e = .returned (.bool true) ∧ R0 w'
  t1 : ∀ {w}, R0 w → R1 0 w
  pPackets : ∀ {w}, R1 0 w → Calls Tryz.prog 129 #[.pointer (some ⟨b, 0, none⟩)] w fun e w' => e = .returned (.tuple #[]) ∧ R1 1 w'
  pCtls : ∀ {w}, R1 1 w → Calls Tryz.prog 130 #[.pointer (some ⟨b, 0, none⟩)] w fun e w' => e = .returned (.tuple #[]) ∧ R1 2 w'
  pSays : ∀ {w}, R1 2 w → Calls Tryz.prog 131 #[.pointer (some ⟨b, 0, none⟩)] w fun e w' => e = .returned (.tuple #[]) ∧ R1 3 w'
  pSteps : ∀ {w}, R1 3 w → Calls Tryz.prog 132 #[.pointer (some ⟨b, 0, none⟩)] w fun e w' => e = .returned (.tuple #[]) ∧ R1 4 w'
  pTexts : ∀ {w}, R1 4 w → Calls Tryz.prog 133 #[.pointer (some ⟨b, 0, none⟩)] w fun e w' => e = .returned (.tuple #[]) ∧ R1 5 w'
  pInts : ∀ {w}, R1 5 w → Calls Tryz.prog 134 #[.pointer (some ⟨b, 0, none⟩)] w fun e w' => e = .returned (.tuple #[]) ∧ R1 6 w'
  pEthers : ∀ {w}, R1 6 w → Calls Tryz.prog 135 #[.pointer (some ⟨b, 0, none⟩)] w fun e w' => e = .returned (.tuple #[]) ∧ R1 7 w'
  pTags : ∀ {w}, R1 7 w → Calls Tryz.prog 136 #[.pointer (some ⟨b, 0, none⟩)] w fun e w' => e = .returned (.tuple #[]) ∧ R1 8 w'
  pOptions : ∀ {w}, R1 8 w → Calls Tryz.prog 137 #[.pointer (some ⟨b, 0, none⟩)] w fun e w' => e = .returned (.tuple #[]) ∧ R1 9 w'
  pAvps : ∀ {w}, R1 9 w → Calls Tryz.prog 138 #[.pointer (some ⟨b, 0, none⟩)] w fun e w' => e = .returned (.tuple #[]) ∧ R1 10 w'
  pKeys : ∀ {w}, R1 10 w → Calls Tryz.prog 139 #[.pointer (some ⟨b, 0, none⟩)] w fun e w' => e = .returned (.tuple #[]) ∧ R1 11 w'
  pSessions : ∀ {w}, R1 11 w → Calls Tryz.prog 140 #[.pointer (some ⟨b, 0, none⟩)] w fun e w' => e = .returned (.tuple #[]) ∧ R1 12 w'
  pIds : ∀ {w}, R1 12 w → Calls Tryz.prog 141 #[.pointer (some ⟨b, 0, none⟩)] w fun e w' => e = .returned (.tuple #[]) ∧ R1 13 w'
  pGrams : ∀ {w}, R1 13 w → Calls Tryz.prog 142 #[.pointer (some ⟨b, 0, none⟩)] w fun e w' => e = .returned (.tuple #[]) ∧ R1 14 w'
  pItems : ∀ {w}, R1 14 w → Calls Tryz.prog 143 #[.pointer (some ⟨b, 0, none⟩)] w fun e w' => e = .returned (.tuple #[]) ∧ R1 15 w'
  pLines : ∀ {w}, R1 15 w → Calls Tryz.prog 144 #[.pointer (some ⟨b, 0, none⟩)] w fun e w' => e = .returned (.tuple #[]) ∧ R1 16 w'
  pSeats : ∀ {w}, R1 16 w → Calls Tryz.prog 145 #[.pointer (some ⟨b, 0, none⟩)] w fun e w' => e = .returned (.tuple #[]) ∧ R1 17 w'
  pEvents : ∀ {w}, R1 17 w → Calls Tryz.prog 146 #[.pointer (some ⟨b, 0, none⟩)] w fun e w' => e = .returned (.tuple #[]) ∧ R1 18 w'
  t2 : ∀ {w}, R1 18 w → R2 [] w
  gTexts : ∀ {w }, R2 [] w → Calls Tryz.prog 147 #[.pointer (some ⟨b, 0, none⟩)] w fun e w' => ∃ g0, e = .returned g0 ∧ R2 [g0] w'
  gInts : ∀ {w g0}, R2 [g0] w → Calls Tryz.prog 148 #[.pointer (some ⟨b, 0, none⟩)] w fun e w' => ∃ g1, e = .returned g1 ∧ R2 [g0, g1] w'
  gEthers : ∀ {w g0 g1}, R2 [g0, g1] w → Calls Tryz.prog 149 #[.pointer (some ⟨b, 0, none⟩)] w fun e w' => ∃ g2, e = .returned g2 ∧ R2 [g0, g1, g2] w'
  gTags : ∀ {w g0 g1 g2}, R2 [g0, g1, g2] w → Calls Tryz.prog 150 #[.pointer (some ⟨b, 0, none⟩)] w fun e w' => ∃ g3, e = .returned g3 ∧ R2 [g0, g1, g2, g3] w'
  gOptions : ∀ {w g0 g1 g2 g3}, R2 [g0, g1, g2, g3] w → Calls Tryz.prog 151 #[.pointer (some ⟨b, 0, none⟩)] w fun e w' => ∃ g4, e = .returned g4 ∧ R2 [g0, g1, g2, g3, g4] w'
  gPackets : ∀ {w g0 g1 g2 g3 g4}, R2 [g0, g1, g2, g3, g4] w → Calls Tryz.prog 152 #[.pointer (some ⟨b, 0, none⟩)] w fun e w' => ∃ g5, e = .returned g5 ∧ R2 [g0, g1, g2, g3, g4, g5] w'
  gAvps : ∀ {w g0 g1 g2 g3 g4 g5}, R2 [g0, g1, g2, g3, g4, g5] w → Calls Tryz.prog 153 #[.pointer (some ⟨b, 0, none⟩)] w fun e w' => ∃ g6, e = .returned g6 ∧ R2 [g0, g1, g2, g3, g4, g5, g6] w'
  gCtls : ∀ {w g0 g1 g2 g3 g4 g5 g6}, R2 [g0, g1, g2, g3, g4, g5, g6] w → Calls Tryz.prog 154 #[.pointer (some ⟨b, 0, none⟩)] w fun e w' => ∃ g7, e = .returned g7 ∧ R2 [g0, g1, g2, g3, g4, g5, g6, g7] w'
  gKeys : ∀ {w g0 g1 g2 g3 g4 g5 g6 g7}, R2 [g0, g1, g2, g3, g4, g5, g6, g7] w → Calls Tryz.prog 155 #[.pointer (some ⟨b, 0, none⟩)] w fun e w' => ∃ g8, e = .returned g8 ∧ R2 [g0, g1, g2, g3, g4, g5, g6, g7, g8] w'
  gSessions : ∀ {w g0 g1 g2 g3 g4 g5 g6 g7 g8}, R2 [g0, g1, g2, g3, g4, g5, g6, g7, g8] w → Calls Tryz.prog 156 #[.pointer (some ⟨b, 0, none⟩)] w fun e w' => ∃ g9, e = .returned g9 ∧ R2 [g0, g1, g2, g3, g4, g5, g6, g7, g8, g9] w'
  gIds : ∀ {w g0 g1 g2 g3 g4 g5 g6 g7 g8 g9}, R2 [g0, g1, g2, g3, g4, g5, g6, g7, g8, g9] w → Calls Tryz.prog 157 #[.pointer (some ⟨b, 0, none⟩)] w fun e w' => ∃ g10, e = .returned g10 ∧ R2 [g0, g1, g2, g3, g4, g5, g6, g7, g8, g9, g10] w'
  gGrams : ∀ {w g0 g1 g2 g3 g4 g5 g6 g7 g8 g9 g10}, R2 [g0, g1, g2, g3, g4, g5, g6, g7, g8, g9, g10] w → Calls Tryz.prog 158 #[.pointer (some ⟨b, 0, none⟩)] w fun e w' => ∃ g11, e = .returned g11 ∧ R2 [g0, g1, g2, g3, g4, g5, g6, g7, g8, g9, g10, g11] w'
  gSays : ∀ {w g0 g1 g2 g3 g4 g5 g6 g7 g8 g9 g10 g11}, R2 [g0, g1, g2, g3, g4, g5, g6, g7, g8, g9, g10, g11] w → Calls Tryz.prog 159 #[.pointer (some ⟨b, 0, none⟩)] w fun e w' => ∃ g12, e = .returned g12 ∧ R2 [g0, g1, g2, g3, g4, g5, g6, g7, g8, g9, g10, g11, g12] w'
  gItems : ∀ {w g0 g1 g2 g3 g4 g5 g6 g7 g8 g9 g10 g11 g12}, R2 [g0, g1, g2, g3, g4, g5, g6, g7, g8, g9, g10, g11, g12] w → Calls Tryz.prog 160 #[.pointer (some ⟨b, 0, none⟩)] w fun e w' => ∃ g13, e = .returned g13 ∧ R2 [g0, g1, g2, g3, g4, g5, g6, g7, g8, g9, g10, g11, g12, g13] w'
  gLines : ∀ {w g0 g1 g2 g3 g4 g5 g6 g7 g8 g9 g10 g11 g12 g13}, R2 [g0, g1, g2, g3, g4, g5, g6, g7, g8, g9, g10, g11, g12, g13] w → Calls Tryz.prog 161 #[.pointer (some ⟨b, 0, none⟩)] w fun e w' => ∃ g14, e = .returned g14 ∧ R2 [g0, g1, g2, g3, g4, g5, g6, g7, g8, g9, g10, g11, g12, g13, g14] w'
  gSeats : ∀ {w g0 g1 g2 g3 g4 g5 g6 g7 g8 g9 g10 g11 g12 g13 g14}, R2 [g0, g1, g2, g3, g4, g5, g6, g7, g8, g9, g10, g11, g12, g13, g14] w → Calls Tryz.prog 162 #[.pointer (some ⟨b, 0, none⟩)] w fun e w' => ∃ g15, e = .returned g15 ∧ R2 [g0, g1, g2, g3, g4, g5, g6, g7, g8, g9, g10, g11, g12, g13, g14, g15] w'
  gEvents : ∀ {w g0 g1 g2 g3 g4 g5 g6 g7 g8 g9 g10 g11 g12 g13 g14 g15}, R2 [g0, g1, g2, g3, g4, g5, g6, g7, g8, g9, g10, g11, g12, g13, g14, g15] w → Calls Tryz.prog 163 #[.pointer (some ⟨b, 0, none⟩)] w fun e w' => ∃ g16, e = .returned g16 ∧ R2 [g0, g1, g2, g3, g4, g5, g6, g7, g8, g9, g10, g11, g12, g13, g14, g15, g16] w'
  gSteps : ∀ {w g0 g1 g2 g3 g4 g5 g6 g7 g8 g9 g10 g11 g12 g13 g14 g15 g16}, R2 [g0, g1, g2, g3, g4, g5, g6, g7, g8, g9, g10, g11, g12, g13, g14, g15, g16] w → Calls Tryz.prog 164 #[.pointer (some ⟨b, 0, none⟩)] w fun e w' => ∃ g17, e = .returned g17 ∧ R2 [g0, g1, g2, g3, g4, g5, g6, g7, g8, g9, g10, g11, g12, g13, g14, g15, g16, g17] w'
  mTexts : ∀ {w g0 g1 g2 g3 g4 g5 g6 g7 g8 g9 g10 g11 g12 g13 g14 g15 g16 g17}, R2 [g0, g1, g2, g3, g4, g5, g6, g7, g8, g9, g10, g11, g12, g13, g14, g15, g16, g17] w → Calls Tryz.prog 165 #[g0] w fun e w' => e = .returned (.bool true) ∧ R2 [g0, g1, g2, g3, g4, g5, g6, g7, g8, g9, g10, g11, g12, g13, g14, g15, g16, g17] w'
  nTexts : ∀ {w g0 g1 g2 g3 g4 g5 g6 g7 g8 g9 g10 g11 g12 g13 g14 g15 g16 g17}, R2 [g0, g1, g2, g3, g4, g5, g6, g7, g8, g9, g10, g11, g12, g13, g14, g15, g16, g17] w → Calls Tryz.prog 165 #[.slice (A 0) (n 0) (c 0)] w fun e w' => e = .returned (.bool true) ∧ R2 [g0, g1, g2, g3, g4, g5, g6, g7, g8, g9, g10, g11, g12, g13, g14, g15, g16, g17] w'
  xTexts : ∀ {w g0 g1 g2 g3 g4 g5 g6 g7 g8 g9 g10 g11 g12 g13 g14 g15 g16 g17}, R2 [g0, g1, g2, g3, g4, g5, g6, g7, g8, g9, g10, g11, g12, g13, g14, g15, g16, g17] w → w.cell? ⟨b, 0, none⟩ = some (.slice (A 0) (n 0) (c 0))
  mInts : ∀ {w g0 g1 g2 g3 g4 g5 g6 g7 g8 g9 g10 g11 g12 g13 g14 g15 g16 g17}, R2 [g0, g1, g2, g3, g4, g5, g6, g7, g8, g9, g10, g11, g12, g13, g14, g15, g16, g17] w → Calls Tryz.prog 166 #[g1] w fun e w' => e = .returned (.bool true) ∧ R2 [g0, g1, g2, g3, g4, g5, g6, g7, g8, g9, g10, g11, g12, g13, g14, g15, g16, g17] w'
  nInts : ∀ {w g0 g1 g2 g3 g4 g5 g6 g7 g8 g9 g10 g11 g12 g13 g14 g15 g16 g17}, R2 [g0, g1, g2, g3, g4, g5, g6, g7, g8, g9, g10, g11, g12, g13, g14, g15, g16, g17] w → Calls Tryz.prog 166 #[.slice (A 1) (n 1) (c 1)] w fun e w' => e = .returned (.bool true) ∧ R2 [g0, g1, g2, g3, g4, g5, g6, g7, g8, g9, g10, g11, g12, g13, g14, g15, g16, g17] w'
  xInts : ∀ {w g0 g1 g2 g3 g4 g5 g6 g7 g8 g9 g10 g11 g12 g13 g14 g15 g16 g17}, R2 [g0, g1, g2, g3, g4, g5, g6, g7, g8, g9, g10, g11, g12, g13, g14, g15, g16, g17] w → w.cell? ⟨b, 2, none⟩ = some (.slice (A 1) (n 1) (c 1))
  mEthers : ∀ {w g0 g1 g2 g3 g4 g5 g6 g7 g8 g9 g10 g11 g12 g13 g14 g15 g16 g17}, R2 [g0, g1, g2, g3, g4, g5, g6, g7, g8, g9, g10, g11, g12, g13, g14, g15, g16, g17] w → Calls Tryz.prog 167 #[g2] w fun e w' => e = .returned (.bool true) ∧ R2 [g0, g1, g2, g3, g4, g5, g6, g7, g8, g9, g10, g11, g12, g13, g14, g15, g16, g17] w'
  nEthers : ∀ {w g0 g1 g2 g3 g4 g5 g6 g7 g8 g9 g10 g11 g12 g13 g14 g15 g16 g17}, R2 [g0, g1, g2, g3, g4, g5, g6, g7, g8, g9, g10, g11, g12, g13, g14, g15, g16, g17] w → Calls Tryz.prog 167 #[.slice (A 2) (n 2) (c 2)] w fun e w' => e = .returned (.bool true) ∧ R2 [g0, g1, g2, g3, g4, g5, g6, g7, g8, g9, g10, g11, g12, g13, g14, g15, g16, g17] w'
  xEthers : ∀ {w g0 g1 g2 g3 g4 g5 g6 g7 g8 g9 g10 g11 g12 g13 g14 g15 g16 g17}, R2 [g0, g1, g2, g3, g4, g5, g6, g7, g8, g9, g10, g11, g12, g13, g14, g15, g16, g17] w → w.cell? ⟨b, 4, none⟩ = some (.slice (A 2) (n 2) (c 2))
  mTags : ∀ {w g0 g1 g2 g3 g4 g5 g6 g7 g8 g9 g10 g11 g12 g13 g14 g15 g16 g17}, R2 [g0, g1, g2, g3, g4, g5, g6, g7, g8, g9, g10, g11, g12, g13, g14, g15, g16, g17] w → Calls Tryz.prog 168 #[g3] w fun e w' => e = .returned (.bool true) ∧ R2 [g0, g1, g2, g3, g4, g5, g6, g7, g8, g9, g10, g11, g12, g13, g14, g15, g16, g17] w'
  nTags : ∀ {w g0 g1 g2 g3 g4 g5 g6 g7 g8 g9 g10 g11 g12 g13 g14 g15 g16 g17}, R2 [g0, g1, g2, g3, g4, g5, g6, g7, g8, g9, g10, g11, g12, g13, g14, g15, g16, g17] w → Calls Tryz.prog 168 #[.slice (A 3) (n 3) (c 3)] w fun e w' => e = .returned (.bool true) ∧ R2 [g0, g1, g2, g3, g4, g5, g6, g7, g8, g9, g10, g11, g12, g13, g14, g15, g16, g17] w'
  xTags : ∀ {w g0 g1 g2 g3 g4 g5 g6 g7 g8 g9 g10 g11 g12 g13 g14 g15 g16 g17}, R2 [g0, g1, g2, g3, g4, g5, g6, g7, g8, g9, g10, g11, g12, g13, g14, g15, g16, g17] w → w.cell? ⟨b, 6, none⟩ = some (.slice (A 3) (n 3) (c 3))
  mOptions : ∀ {w g0 g1 g2 g3 g4 g5 g6 g7 g8 g9 g10 g11 g12 g13 g14 g15 g16 g17}, R2 [g0, g1, g2, g3, g4, g5, g6, g7, g8, g9, g10, g11, g12, g13, g14, g15, g16, g17] w → Calls Tryz.prog 169 #[g4] w fun e w' => e = .returned (.bool true) ∧ R2 [g0, g1, g2, g3, g4, g5, g6, g7, g8, g9, g10, g11, g12, g13, g14, g15, g16, g17] w'
  nOptions : ∀ {w g0 g1 g2 g3 g4 g5 g6 g7 g8 g9 g10 g11 g12 g13 g14 g15 g16 g17}, R2 [g0, g1, g2, g3, g4, g5, g6, g7, g8, g9, g10, g11, g12, g13, g14, g15, g16, g17] w → Calls Tryz.prog 169 #[.slice (A 4) (n 4) (c 4)] w fun e w' => e = .returned (.bool true) ∧ R2 [g0, g1, g2, g3, g4, g5, g6, g7, g8, g9, g10, g11, g12, g13, g14, g15, g16, g17] w'
  xOptions : ∀ {w g0 g1 g2 g3 g4 g5 g6 g7 g8 g9 g10 g11 g12 g13 g14 g15 g16 g17}, R2 [g0, g1, g2, g3, g4, g5, g6, g7, g8, g9, g10, g11, g12, g13, g14, g15, g16, g17] w → w.cell? ⟨b, 8, none⟩ = some (.slice (A 4) (n 4) (c 4))
  mPackets : ∀ {w g0 g1 g2 g3 g4 g5 g6 g7 g8 g9 g10 g11 g12 g13 g14 g15 g16 g17}, R2 [g0, g1, g2, g3, g4, g5, g6, g7, g8, g9, g10, g11, g12, g13, g14, g15, g16, g17] w → Calls Tryz.prog 170 #[g5] w fun e w' => e = .returned (.bool true) ∧ R2 [g0, g1, g2, g3, g4, g5, g6, g7, g8, g9, g10, g11, g12, g13, g14, g15, g16, g17] w'
  nPackets : ∀ {w g0 g1 g2 g3 g4 g5 g6 g7 g8 g9 g10 g11 g12 g13 g14 g15 g16 g17}, R2 [g0, g1, g2, g3, g4, g5, g6, g7, g8, g9, g10, g11, g12, g13, g14, g15, g16, g17] w → Calls Tryz.prog 170 #[.slice (A 5) (n 5) (c 5)] w fun e w' => e = .returned (.bool true) ∧ R2 [g0, g1, g2, g3, g4, g5, g6, g7, g8, g9, g10, g11, g12, g13, g14, g15, g16, g17] w'
  xPackets : ∀ {w g0 g1 g2 g3 g4 g5 g6 g7 g8 g9 g10 g11 g12 g13 g14 g15 g16 g17}, R2 [g0, g1, g2, g3, g4, g5, g6, g7, g8, g9, g10, g11, g12, g13, g14, g15, g16, g17] w → w.cell? ⟨b, 10, none⟩ = some (.slice (A 5) (n 5) (c 5))
  mAvps : ∀ {w g0 g1 g2 g3 g4 g5 g6 g7 g8 g9 g10 g11 g12 g13 g14 g15 g16 g17}, R2 [g0, g1, g2, g3, g4, g5, g6, g7, g8, g9, g10, g11, g12, g13, g14, g15, g16, g17] w → Calls Tryz.prog 171 #[g6] w fun e w' => e = .returned (.bool true) ∧ R2 [g0, g1, g2, g3, g4, g5, g6, g7, g8, g9, g10, g11, g12, g13, g14, g15, g16, g17] w'
  nAvps : ∀ {w g0 g1 g2 g3 g4 g5 g6 g7 g8 g9 g10 g11 g12 g13 g14 g15 g16 g17}, R2 [g0, g1, g2, g3, g4, g5, g6, g7, g8, g9, g10, g11, g12, g13, g14, g15, g16, g17] w → Calls Tryz.prog 171 #[.slice (A 6) (n 6) (c 6)] w fun e w' => e = .returned (.bool true) ∧ R2 [g0, g1, g2, g3, g4, g5, g6, g7, g8, g9, g10, g11, g12, g13, g14, g15, g16, g17] w'
  xAvps : ∀ {w g0 g1 g2 g3 g4 g5 g6 g7 g8 g9 g10 g11 g12 g13 g14 g15 g16 g17}, R2 [g0, g1, g2, g3, g4, g5, g6, g7, g8, g9, g10, g11, g12, g13, g14, g15, g16, g17] w → w.cell? ⟨b, 12, none⟩ = some (.slice (A 6) (n 6) (c 6))
  mCtls : ∀ {w g0 g1 g2 g3 g4 g5 g6 g7 g8 g9 g10 g11 g12 g13 g14 g15 g16 g17}, R2 [g0, g1, g2, g3, g4, g5, g6, g7, g8, g9, g10, g11, g12, g13, g14, g15, g16, g17] w → Calls Tryz.prog 172 #[g7] w fun e w' => e = .returned (.bool true) ∧ R2 [g0, g1, g2, g3, g4, g5, g6, g7, g8, g9, g10, g11, g12, g13, g14, g15, g16, g17] w'
  nCtls : ∀ {w g0 g1 g2 g3 g4 g5 g6 g7 g8 g9 g10 g11 g12 g13 g14 g15 g16 g17}, R2 [g0, g1, g2, g3, g4, g5, g6, g7, g8, g9, g10, g11, g12, g13, g14, g15, g16, g17] w → Calls Tryz.prog 172 #[.slice (A 7) (n 7) (c 7)] w fun e w' => e = .returned (.bool true) ∧ R2 [g0, g1, g2, g3, g4, g5, g6, g7, g8, g9, g10, g11, g12, g13, g14, g15, g16, g17] w'
  xCtls : ∀ {w g0 g1 g2 g3 g4 g5 g6 g7 g8 g9 g10 g11 g12 g13 g14 g15 g16 g17}, R2 [g0, g1, g2, g3, g4, g5, g6, g7, g8, g9, g10, g11, g12, g13, g14, g15, g16, g17] w → w.cell? ⟨b, 14, none⟩ = some (.slice (A 7) (n 7) (c 7))
  mKeys : ∀ {w g0 g1 g2 g3 g4 g5 g6 g7 g8 g9 g10 g11 g12 g13 g14 g15 g16 g17}, R2 [g0, g1, g2, g3, g4, g5, g6, g7, g8, g9, g10, g11, g12, g13, g14, g15, g16, g17] w → Calls Tryz.prog 173 #[g8] w fun e w' => e = .returned (.bool true) ∧ R2 [g0, g1, g2, g3, g4, g5, g6, g7, g8, g9, g10, g11, g12, g13, g14, g15, g16, g17] w'
  nKeys : ∀ {w g0 g1 g2 g3 g4 g5 g6 g7 g8 g9 g10 g11 g12 g13 g14 g15 g16 g17}, R2 [g0, g1, g2, g3, g4, g5, g6, g7, g8, g9, g10, g11, g12, g13, g14, g15, g16, g17] w → Calls Tryz.prog 173 #[.slice (A 8) (n 8) (c 8)] w fun e w' => e = .returned (.bool true) ∧ R2 [g0, g1, g2, g3, g4, g5, g6, g7, g8, g9, g10, g11, g12, g13, g14, g15, g16, g17] w'
  xKeys : ∀ {w g0 g1 g2 g3 g4 g5 g6 g7 g8 g9 g10 g11 g12 g13 g14 g15 g16 g17}, R2 [g0, g1, g2, g3, g4, g5, g6, g7, g8, g9, g10, g11, g12, g13, g14, g15, g16, g17] w → w.cell? ⟨b, 16, none⟩ = some (.slice (A 8) (n 8) (c 8))
  mSessions : ∀ {w g0 g1 g2 g3 g4 g5 g6 g7 g8 g9 g10 g11 g12 g13 g14 g15 g16 g17}, R2 [g0, g1, g2, g3, g4, g5, g6, g7, g8, g9, g10, g11, g12, g13, g14, g15, g16, g17] w → Calls Tryz.prog 174 #[g9] w fun e w' => e = .returned (.bool true) ∧ R2 [g0, g1, g2, g3, g4, g5, g6, g7, g8, g9, g10, g11, g12, g13, g14, g15, g16, g17] w'
  nSessions : ∀ {w g0 g1 g2 g3 g4 g5 g6 g7 g8 g9 g10 g11 g12 g13 g14 g15 g16 g17}, R2 [g0, g1, g2, g3, g4, g5, g6, g7, g8, g9, g10, g11, g12, g13, g14, g15, g16, g17] w → Calls Tryz.prog 174 #[.slice (A 9) (n 9) (c 9)] w fun e w' => e = .returned (.bool true) ∧ R2 [g0, g1, g2, g3, g4, g5, g6, g7, g8, g9, g10, g11, g12, g13, g14, g15, g16, g17] w'
  xSessions : ∀ {w g0 g1 g2 g3 g4 g5 g6 g7 g8 g9 g10 g11 g12 g13 g14 g15 g16 g17}, R2 [g0, g1, g2, g3, g4, g5, g6, g7, g8, g9, g10, g11, g12, g13, g14, g15, g16, g17] w → w.cell? ⟨b, 18, none⟩ = some (.slice (A 9) (n 9) (c 9))
  mIds : ∀ {w g0 g1 g2 g3 g4 g5 g6 g7 g8 g9 g10 g11 g12 g13 g14 g15 g16 g17}, R2 [g0, g1, g2, g3, g4, g5, g6, g7, g8, g9, g10, g11, g12, g13, g14, g15, g16, g17] w → Calls Tryz.prog 175 #[g10] w fun e w' => e = .returned (.bool true) ∧ R2 [g0, g1, g2, g3, g4, g5, g6, g7, g8, g9, g10, g11, g12, g13, g14, g15, g16, g17] w'
  nIds : ∀ {w g0 g1 g2 g3 g4 g5 g6 g7 g8 g9 g10 g11 g12 g13 g14 g15 g16 g17}, R2 [g0, g1, g2, g3, g4, g5, g6, g7, g8, g9, g10, g11, g12, g13, g14, g15, g16, g17] w → Calls Tryz.prog 175 #[.slice (A 10) (n 10) (c 10)] w fun e w' => e = .returned (.bool true) ∧ R2 [g0, g1, g2, g3, g4, g5, g6, g7, g8, g9, g10, g11, g12, g13, g14, g15, g16, g17] w'
  xIds : ∀ {w g0 g1 g2 g3 g4 g5 g6 g7 g8 g9 g10 g11 g12 g13 g14 g15 g16 g17}, R2 [g0, g1, g2, g3, g4, g5, g6, g7, g8, g9, g10, g11, g12, g13, g14, g15, g16, g17] w → w.cell? ⟨b, 20, none⟩ = some (.slice (A 10) (n 10) (c 10))
  mGrams : ∀ {w g0 g1 g2 g3 g4 g5 g6 g7 g8 g9 g10 g11 g12 g13 g14 g15 g16 g17}, R2 [g0, g1, g2, g3, g4, g5, g6, g7, g8, g9, g10, g11, g12, g13, g14, g15, g16, g17] w → Calls Tryz.prog 176 #[g11] w fun e w' => e = .returned (.bool true) ∧ R2 [g0, g1, g2, g3, g4, g5, g6, g7, g8, g9, g10, g11, g12, g13, g14, g15, g16, g17] w'
  nGrams : ∀ {w g0 g1 g2 g3 g4 g5 g6 g7 g8 g9 g10 g11 g12 g13 g14 g15 g16 g17}, R2 [g0, g1, g2, g3, g4, g5, g6, g7, g8, g9, g10, g11, g12, g13, g14, g15, g16, g17] w → Calls Tryz.prog 176 #[.slice (A 11) (n 11) (c 11)] w fun e w' => e = .returned (.bool true) ∧ R2 [g0, g1, g2, g3, g4, g5, g6, g7, g8, g9, g10, g11, g12, g13, g14, g15, g16, g17] w'
  xGrams : ∀ {w g0 g1 g2 g3 g4 g5 g6 g7 g8 g9 g10 g11 g12 g13 g14 g15 g16 g17}, R2 [g0, g1, g2, g3, g4, g5, g6, g7, g8, g9, g10, g11, g12, g13, g14, g15, g16, g17] w → w.cell? ⟨b, 22, none⟩ = some (.slice (A 11) (n 11) (c 11))
  mSays : ∀ {w g0 g1 g2 g3 g4 g5 g6 g7 g8 g9 g10 g11 g12 g13 g14 g15 g16 g17}, R2 [g0, g1, g2, g3, g4, g5, g6, g7, g8, g9, g10, g11, g12, g13, g14, g15, g16, g17] w → Calls Tryz.prog 177 #[g12] w fun e w' => e = .returned (.bool true) ∧ R2 [g0, g1, g2, g3, g4, g5, g6, g7, g8, g9, g10, g11, g12, g13, g14, g15, g16, g17] w'
  nSays : ∀ {w g0 g1 g2 g3 g4 g5 g6 g7 g8 g9 g10 g11 g12 g13 g14 g15 g16 g17}, R2 [g0, g1, g2, g3, g4, g5, g6, g7, g8, g9, g10, g11, g12, g13, g14, g15, g16, g17] w → Calls Tryz.prog 177 #[.slice (A 12) (n 12) (c 12)] w fun e w' => e = .returned (.bool true) ∧ R2 [g0, g1, g2, g3, g4, g5, g6, g7, g8, g9, g10, g11, g12, g13, g14, g15, g16, g17] w'
  xSays : ∀ {w g0 g1 g2 g3 g4 g5 g6 g7 g8 g9 g10 g11 g12 g13 g14 g15 g16 g17}, R2 [g0, g1, g2, g3, g4, g5, g6, g7, g8, g9, g10, g11, g12, g13, g14, g15, g16, g17] w → w.cell? ⟨b, 24, none⟩ = some (.slice (A 12) (n 12) (c 12))
  mItems : ∀ {w g0 g1 g2 g3 g4 g5 g6 g7 g8 g9 g10 g11 g12 g13 g14 g15 g16 g17}, R2 [g0, g1, g2, g3, g4, g5, g6, g7, g8, g9, g10, g11, g12, g13, g14, g15, g16, g17] w → Calls Tryz.prog 178 #[g13] w fun e w' => e = .returned (.bool true) ∧ R2 [g0, g1, g2, g3, g4, g5, g6, g7, g8, g9, g10, g11, g12, g13, g14, g15, g16, g17] w'
  nItems : ∀ {w g0 g1 g2 g3 g4 g5 g6 g7 g8 g9 g10 g11 g12 g13 g14 g15 g16 g17}, R2 [g0, g1, g2, g3, g4, g5, g6, g7, g8, g9, g10, g11, g12, g13, g14, g15, g16, g17] w → Calls Tryz.prog 178 #[.slice (A 13) (n 13) (c 13)] w fun e w' => e = .returned (.bool true) ∧ R2 [g0, g1, g2, g3, g4, g5, g6, g7, g8, g9, g10, g11, g12, g13, g14, g15, g16, g17] w'
  xItems : ∀ {w g0 g1 g2 g3 g4 g5 g6 g7 g8 g9 g10 g11 g12 g13 g14 g15 g16 g17}, R2 [g0, g1, g2, g3, g4, g5, g6, g7, g8, g9, g10, g11, g12, g13, g14, g15, g16, g17] w → w.cell? ⟨b, 26, none⟩ = some (.slice (A 13) (n 13) (c 13))
  mLines : ∀ {w g0 g1 g2 g3 g4 g5 g6 g7 g8 g9 g10 g11 g12 g13 g14 g15 g16 g17}, R2 [g0, g1, g2, g3, g4, g5, g6, g7, g8, g9, g10, g11, g12, g13, g14, g15, g16, g17] w → Calls Tryz.prog 179 #[g14] w fun e w' => e = .returned (.bool true) ∧ R2 [g0, g1, g2, g3, g4, g5, g6, g7, g8, g9, g10, g11, g12, g13, g14, g15, g16, g17] w'
  nLines : ∀ {w g0 g1 g2 g3 g4 g5 g6 g7 g8 g9 g10 g11 g12 g13 g14 g15 g16 g17}, R2 [g0, g1, g2, g3, g4, g5, g6, g7, g8, g9, g10, g11, g12, g13, g14, g15, g16, g17] w → Calls Tryz.prog 179 #[.slice (A 14) (n 14) (c 14)] w fun e w' => e = .returned (.bool true) ∧ R2 [g0, g1, g2, g3, g4, g5, g6, g7, g8, g9, g10, g11, g12, g13, g14, g15, g16, g17] w'
  xLines : ∀ {w g0 g1 g2 g3 g4 g5 g6 g7 g8 g9 g10 g11 g12 g13 g14 g15 g16 g17}, R2 [g0, g1, g2, g3, g4, g5, g6, g7, g8, g9, g10, g11, g12, g13, g14, g15, g16, g17] w → w.cell? ⟨b, 28, none⟩ = some (.slice (A 14) (n 14) (c 14))
  mSeats : ∀ {w g0 g1 g2 g3 g4 g5 g6 g7 g8 g9 g10 g11 g12 g13 g14 g15 g16 g17}, R2 [g0, g1, g2, g3, g4, g5, g6, g7, g8, g9, g10, g11, g12, g13, g14, g15, g16, g17] w → Calls Tryz.prog 180 #[g15] w fun e w' => e = .returned (.bool true) ∧ R2 [g0, g1, g2, g3, g4, g5, g6, g7, g8, g9, g10, g11, g12, g13, g14, g15, g16, g17] w'
  nSeats : ∀ {w g0 g1 g2 g3 g4 g5 g6 g7 g8 g9 g10 g11 g12 g13 g14 g15 g16 g17}, R2 [g0, g1, g2, g3, g4, g5, g6, g7, g8, g9, g10, g11, g12, g13, g14, g15, g16, g17] w → Calls Tryz.prog 180 #[.slice (A 15) (n 15) (c 15)] w fun e w' => e = .returned (.bool true) ∧ R2 [g0, g1, g2, g3, g4, g5, g6, g7, g8, g9, g10, g11, g12, g13, g14, g15, g16, g17] w'
  xSeats : ∀ {w g0 g1 g2 g3 g4 g5 g6 g7 g8 g9 g10 g11 g12 g13 g14 g15 g16 g17}, R2 [g0, g1, g2, g3, g4, g5, g6, g7, g8, g9, g10, g11, g12, g13, g14, g15, g16, g17] w → w.cell? ⟨b, 30, none⟩ = some (.slice (A 15) (n 15) (c 15))
  mEvents : ∀ {w g0 g1 g2 g3 g4 g5 g6 g7 g8 g9 g10 g11 g12 g13 g14 g15 g16 g17}, R2 [g0, g1, g2, g3, g4, g5, g6, g7, g8, g9, g10, g11, g12, g13, g14, g15, g16, g17] w → Calls Tryz.prog 181 #[g16] w fun e w' => e = .returned (.bool true) ∧ R2 [g0, g1, g2, g3, g4, g5, g6, g7, g8, g9, g10, g11, g12, g13, g14, g15, g16, g17] w'
  nEvents : ∀ {w g0 g1 g2 g3 g4 g5 g6 g7 g8 g9 g10 g11 g12 g13 g14 g15 g16 g17}, R2 [g0, g1, g2, g3, g4, g5, g6, g7, g8, g9, g10, g11, g12, g13, g14, g15, g16, g17] w → Calls Tryz.prog 181 #[.slice (A 16) (n 16) (c 16)] w fun e w' => e = .returned (.bool true) ∧ R2 [g0, g1, g2, g3, g4, g5, g6, g7, g8, g9, g10, g11, g12, g13, g14, g15, g16, g17] w'
  xEvents : ∀ {w g0 g1 g2 g3 g4 g5 g6 g7 g8 g9 g10 g11 g12 g13 g14 g15 g16 g17}, R2 [g0, g1, g2, g3, g4, g5, g6, g7, g8, g9, g10, g11, g12, g13, g14, g15, g16, g17] w → w.cell? ⟨b, 32, none⟩ = some (.slice (A 16) (n 16) (c 16))
  mSteps : ∀ {w g0 g1 g2 g3 g4 g5 g6 g7 g8 g9 g10 g11 g12 g13 g14 g15 g16 g17}, R2 [g0, g1, g2, g3, g4, g5, g6, g7, g8, g9, g10, g11, g12, g13, g14, g15, g16, g17] w → Calls Tryz.prog 182 #[g17] w fun e w' => e = .returned (.bool true) ∧ R2 [g0, g1, g2, g3, g4, g5, g6, g7, g8, g9, g10, g11, g12, g13, g14, g15, g16, g17] w'
  nSteps : ∀ {w g0 g1 g2 g3 g4 g5 g6 g7 g8 g9 g10 g11 g12 g13 g14 g15 g16 g17}, R2 [g0, g1, g2, g3, g4, g5, g6, g7, g8, g9, g10, g11, g12, g13, g14, g15, g16, g17] w → Calls Tryz.prog 182 #[.slice (A 17) (n 17) (c 17)] w fun e w' => e = .returned (.bool true) ∧ R2 [g0, g1, g2, g3, g4, g5, g6, g7, g8, g9, g10, g11, g12, g13, g14, g15, g16, g17] w'
  xSteps : ∀ {w g0 g1 g2 g3 g4 g5 g6 g7 g8 g9 g10 g11 g12 g13 g14 g15 g16 g17}, R2 [g0, g1, g2, g3, g4, g5, g6, g7, g8, g9, g10, g11, g12, g13, g14, g15, g16, g17] w → w.cell? ⟨b, 34, none⟩ = some (.slice (A 17) (n 17) (c 17))
set_option maxRecDepth 100000 in
set_option maxHeartbeats 20000000 in
theorem apart_any {w : World} {b : Nat} {R0 : World → Prop} {R1 : Nat → World → Prop} {R2 : List Value → World → Prop} {A : Nat → Option Addr} {n c : Nat → Nat} (H : ApH b R0 R1 R2 A n c) (hR : R0 w) :
    Calls Tryz.prog 26 #[.pointer (some ⟨b, 0, none⟩)] w fun e w' => e = .returned (.bool true) ∧ ∃ gs, R2 gs w' := by
  go_enter Tryz.func26, Tryz.ntmps26
  go_wp2_with (first
    | (go_at_call 111; refine (H.sTexts hR).mono ?_; rintro e v ⟨rfl, hR2⟩; clear hR; have hR := hR2; clear hR2)
    | (go_at_call 112; refine (H.sInts hR).mono ?_; rintro e v ⟨rfl, hR2⟩; clear hR; have hR := hR2; clear hR2)
    | (go_at_call 113; refine (H.sEthers hR).mono ?_; rintro e v ⟨rfl, hR2⟩; clear hR; have hR := hR2; clear hR2)
    | (go_at_call 114; refine (H.sTags hR).mono ?_; rintro e v ⟨rfl, hR2⟩; clear hR; have hR := hR2; clear hR2)
    | (go_at_call 115; refine (H.sOptions hR).mono ?_; rintro e v ⟨rfl, hR2⟩; clear hR; have hR := hR2; clear hR2)
    | (go_at_call 116; refine (H.sPackets hR).mono ?_; rintro e v ⟨rfl, hR2⟩; clear hR; have hR := hR2; clear hR2)
    | (go_at_call 117; refine (H.sAvps hR).mono ?_; rintro e v ⟨rfl, hR2⟩; clear hR; have hR := hR2; clear hR2)
    | (go_at_call 118; refine (H.sCtls hR).mono ?_; rintro e v ⟨rfl, hR2⟩; clear hR; have hR := hR2; clear hR2)
    | (go_at_call 119; refine (H.sKeys hR).mono ?_; rintro e v ⟨rfl, hR2⟩; clear hR; have hR := hR2; clear hR2)
    | (go_at_call 120; refine (H.sSessions hR).mono ?_; rintro e v ⟨rfl, hR2⟩; clear hR; have hR := hR2; clear hR2)
    | (go_at_call 121; refine (H.sIds hR).mono ?_; rintro e v ⟨rfl, hR2⟩; clear hR; have hR := hR2; clear hR2)
    | (go_at_call 122; refine (H.sGrams hR).mono ?_; rintro e v ⟨rfl, hR2⟩; clear hR; have hR := hR2; clear hR2)
    | (go_at_call 123; refine (H.sSays hR).mono ?_; rintro e v ⟨rfl, hR2⟩; clear hR; have hR := hR2; clear hR2)
    | (go_at_call 124; refine (H.sItems hR).mono ?_; rintro e v ⟨rfl, hR2⟩; clear hR; have hR := hR2; clear hR2)
    | (go_at_call 125; refine (H.sLines hR).mono ?_; rintro e v ⟨rfl, hR2⟩; clear hR; have hR := hR2; clear hR2)
    | (go_at_call 126; refine (H.sSeats hR).mono ?_; rintro e v ⟨rfl, hR2⟩; clear hR; have hR := hR2; clear hR2)
    | (go_at_call 127; refine (H.sEvents hR).mono ?_; rintro e v ⟨rfl, hR2⟩; clear hR; have hR := hR2; clear hR2)
    | (go_at_call 128; refine (H.sSteps hR).mono ?_; rintro e v ⟨rfl, hR2⟩; clear hR; have hR := hR2; clear hR2; replace hR := H.t1 hR)
    | (go_at_call 129; refine (H.pPackets hR).mono ?_; rintro e v ⟨rfl, hR2⟩; clear hR; have hR := hR2; clear hR2)
    | (go_at_call 130; refine (H.pCtls hR).mono ?_; rintro e v ⟨rfl, hR2⟩; clear hR; have hR := hR2; clear hR2)
    | (go_at_call 131; refine (H.pSays hR).mono ?_; rintro e v ⟨rfl, hR2⟩; clear hR; have hR := hR2; clear hR2)
    | (go_at_call 132; refine (H.pSteps hR).mono ?_; rintro e v ⟨rfl, hR2⟩; clear hR; have hR := hR2; clear hR2)
    | (go_at_call 133; refine (H.pTexts hR).mono ?_; rintro e v ⟨rfl, hR2⟩; clear hR; have hR := hR2; clear hR2)
    | (go_at_call 134; refine (H.pInts hR).mono ?_; rintro e v ⟨rfl, hR2⟩; clear hR; have hR := hR2; clear hR2)
    | (go_at_call 135; refine (H.pEthers hR).mono ?_; rintro e v ⟨rfl, hR2⟩; clear hR; have hR := hR2; clear hR2)
    | (go_at_call 136; refine (H.pTags hR).mono ?_; rintro e v ⟨rfl, hR2⟩; clear hR; have hR := hR2; clear hR2)
    | (go_at_call 137; refine (H.pOptions hR).mono ?_; rintro e v ⟨rfl, hR2⟩; clear hR; have hR := hR2; clear hR2)
    | (go_at_call 138; refine (H.pAvps hR).mono ?_; rintro e v ⟨rfl, hR2⟩; clear hR; have hR := hR2; clear hR2)
    | (go_at_call 139; refine (H.pKeys hR).mono ?_; rintro e v ⟨rfl, hR2⟩; clear hR; have hR := hR2; clear hR2)
    | (go_at_call 140; refine (H.pSessions hR).mono ?_; rintro e v ⟨rfl, hR2⟩; clear hR; have hR := hR2; clear hR2)
    | (go_at_call 141; refine (H.pIds hR).mono ?_; rintro e v ⟨rfl, hR2⟩; clear hR; have hR := hR2; clear hR2)
    | (go_at_call 142; refine (H.pGrams hR).mono ?_; rintro e v ⟨rfl, hR2⟩; clear hR; have hR := hR2; clear hR2)
    | (go_at_call 143; refine (H.pItems hR).mono ?_; rintro e v ⟨rfl, hR2⟩; clear hR; have hR := hR2; clear hR2)
    | (go_at_call 144; refine (H.pLines hR).mono ?_; rintro e v ⟨rfl, hR2⟩; clear hR; have hR := hR2; clear hR2)
    | (go_at_call 145; refine (H.pSeats hR).mono ?_; rintro e v ⟨rfl, hR2⟩; clear hR; have hR := hR2; clear hR2)
    | (go_at_call 146; refine (H.pEvents hR).mono ?_; rintro e v ⟨rfl, hR2⟩; clear hR; have hR := hR2; clear hR2; replace hR := H.t2 hR)
    | (go_at_call 147; refine (H.gTexts hR).mono ?_; rintro e v ⟨g0, rfl, hR2⟩; clear hR; have hR := hR2; clear hR2)
    | (go_at_call 148; refine (H.gInts hR).mono ?_; rintro e v ⟨g1, rfl, hR2⟩; clear hR; have hR := hR2; clear hR2)
    | (go_at_call 149; refine (H.gEthers hR).mono ?_; rintro e v ⟨g2, rfl, hR2⟩; clear hR; have hR := hR2; clear hR2)
    | (go_at_call 150; refine (H.gTags hR).mono ?_; rintro e v ⟨g3, rfl, hR2⟩; clear hR; have hR := hR2; clear hR2)
    | (go_at_call 151; refine (H.gOptions hR).mono ?_; rintro e v ⟨g4, rfl, hR2⟩; clear hR; have hR := hR2; clear hR2)
    | (go_at_call 152; refine (H.gPackets hR).mono ?_; rintro e v ⟨g5, rfl, hR2⟩; clear hR; have hR := hR2; clear hR2)
    | (go_at_call 153; refine (H.gAvps hR).mono ?_; rintro e v ⟨g6, rfl, hR2⟩; clear hR; have hR := hR2; clear hR2)
    | (go_at_call 154; refine (H.gCtls hR).mono ?_; rintro e v ⟨g7, rfl, hR2⟩; clear hR; have hR := hR2; clear hR2)
    | (go_at_call 155; refine (H.gKeys hR).mono ?_; rintro e v ⟨g8, rfl, hR2⟩; clear hR; have hR := hR2; clear hR2)
    | (go_at_call 156; refine (H.gSessions hR).mono ?_; rintro e v ⟨g9, rfl, hR2⟩; clear hR; have hR := hR2; clear hR2)
    | (go_at_call 157; refine (H.gIds hR).mono ?_; rintro e v ⟨g10, rfl, hR2⟩; clear hR; have hR := hR2; clear hR2)
    | (go_at_call 158; refine (H.gGrams hR).mono ?_; rintro e v ⟨g11, rfl, hR2⟩; clear hR; have hR := hR2; clear hR2)
    | (go_at_call 159; refine (H.gSays hR).mono ?_; rintro e v ⟨g12, rfl, hR2⟩; clear hR; have hR := hR2; clear hR2)
    | (go_at_call 160; refine (H.gItems hR).mono ?_; rintro e v ⟨g13, rfl, hR2⟩; clear hR; have hR := hR2; clear hR2)
    | (go_at_call 161; refine (H.gLines hR).mono ?_; rintro e v ⟨g14, rfl, hR2⟩; clear hR; have hR := hR2; clear hR2)
    | (go_at_call 162; refine (H.gSeats hR).mono ?_; rintro e v ⟨g15, rfl, hR2⟩; clear hR; have hR := hR2; clear hR2)
    | (go_at_call 163; refine (H.gEvents hR).mono ?_; rintro e v ⟨g16, rfl, hR2⟩; clear hR; have hR := hR2; clear hR2)
    | (go_at_call 164; refine (H.gSteps hR).mono ?_; rintro e v ⟨g17, rfl, hR2⟩; clear hR; have hR := hR2; clear hR2)
    | (go_at_call_of 165 g0; refine (H.mTexts hR).mono ?_; rintro e v ⟨rfl, hR2⟩; clear hR; have hR := hR2; clear hR2; have x0 := H.xTexts hR)
    | (go_at_call 165; refine (H.nTexts hR).mono ?_; rintro e v ⟨rfl, hR2⟩; clear hR x0; have hR := hR2; clear hR2)
    | (go_at_call_of 166 g1; refine (H.mInts hR).mono ?_; rintro e v ⟨rfl, hR2⟩; clear hR; have hR := hR2; clear hR2; have x1 := H.xInts hR)
    | (go_at_call 166; refine (H.nInts hR).mono ?_; rintro e v ⟨rfl, hR2⟩; clear hR x1; have hR := hR2; clear hR2)
    | (go_at_call_of 167 g2; refine (H.mEthers hR).mono ?_; rintro e v ⟨rfl, hR2⟩; clear hR; have hR := hR2; clear hR2; have x2 := H.xEthers hR)
    | (go_at_call 167; refine (H.nEthers hR).mono ?_; rintro e v ⟨rfl, hR2⟩; clear hR x2; have hR := hR2; clear hR2)
    | (go_at_call_of 168 g3; refine (H.mTags hR).mono ?_; rintro e v ⟨rfl, hR2⟩; clear hR; have hR := hR2; clear hR2; have x3 := H.xTags hR)
    | (go_at_call 168; refine (H.nTags hR).mono ?_; rintro e v ⟨rfl, hR2⟩; clear hR x3; have hR := hR2; clear hR2)
    | (go_at_call_of 169 g4; refine (H.mOptions hR).mono ?_; rintro e v ⟨rfl, hR2⟩; clear hR; have hR := hR2; clear hR2; have x4 := H.xOptions hR)
    | (go_at_call 169; refine (H.nOptions hR).mono ?_; rintro e v ⟨rfl, hR2⟩; clear hR x4; have hR := hR2; clear hR2)
    | (go_at_call_of 170 g5; refine (H.mPackets hR).mono ?_; rintro e v ⟨rfl, hR2⟩; clear hR; have hR := hR2; clear hR2; have x5 := H.xPackets hR)
    | (go_at_call 170; refine (H.nPackets hR).mono ?_; rintro e v ⟨rfl, hR2⟩; clear hR x5; have hR := hR2; clear hR2)
    | (go_at_call_of 171 g6; refine (H.mAvps hR).mono ?_; rintro e v ⟨rfl, hR2⟩; clear hR; have hR := hR2; clear hR2; have x6 := H.xAvps hR)
    | (go_at_call 171; refine (H.nAvps hR).mono ?_; rintro e v ⟨rfl, hR2⟩; clear hR x6; have hR := hR2; clear hR2)
    | (go_at_call_of 172 g7; refine (H.mCtls hR).mono ?_; rintro e v ⟨rfl, hR2⟩; clear hR; have hR := hR2; clear hR2; have x7 := H.xCtls hR)
    | (go_at_call 172; refine (H.nCtls hR).mono ?_; rintro e v ⟨rfl, hR2⟩; clear hR x7; have hR := hR2; clear hR2)
    | (go_at_call_of 173 g8; refine (H.mKeys hR).mono ?_; rintro e v ⟨rfl, hR2⟩; clear hR; have hR := hR2; clear hR2; have x8 := H.xKeys hR)
    | (go_at_call 173; refine (H.nKeys hR).mono ?_; rintro e v ⟨rfl, hR2⟩; clear hR x8; have hR := hR2; clear hR2)
    | (go_at_call_of 174 g9; refine (H.mSessions hR).mono ?_; rintro e v ⟨rfl, hR2⟩; clear hR; have hR := hR2; clear hR2; have x9 := H.xSessions hR)
    | (go_at_call 174; refine (H.nSessions hR).mono ?_; rintro e v ⟨rfl, hR2⟩; clear hR x9; have hR := hR2; clear hR2)
    | (go_at_call_of 175 g10; refine (H.mIds hR).mono ?_; rintro e v ⟨rfl, hR2⟩; clear hR; have hR := hR2; clear hR2; have x10 := H.xIds hR)
    | (go_at_call 175; refine (H.nIds hR).mono ?_; rintro e v ⟨rfl, hR2⟩; clear hR x10; have hR := hR2; clear hR2)
    | (go_at_call_of 176 g11; refine (H.mGrams hR).mono ?_; rintro e v ⟨rfl, hR2⟩; clear hR; have hR := hR2; clear hR2; have x11 := H.xGrams hR)
    | (go_at_call 176; refine (H.nGrams hR).mono ?_; rintro e v ⟨rfl, hR2⟩; clear hR x11; have hR := hR2; clear hR2)
    | (go_at_call_of 177 g12; refine (H.mSays hR).mono ?_; rintro e v ⟨rfl, hR2⟩; clear hR; have hR := hR2; clear hR2; have x12 := H.xSays hR)
    | (go_at_call 177; refine (H.nSays hR).mono ?_; rintro e v ⟨rfl, hR2⟩; clear hR x12; have hR := hR2; clear hR2)
    | (go_at_call_of 178 g13; refine (H.mItems hR).mono ?_; rintro e v ⟨rfl, hR2⟩; clear hR; have hR := hR2; clear hR2; have x13 := H.xItems hR)
    | (go_at_call 178; refine (H.nItems hR).mono ?_; rintro e v ⟨rfl, hR2⟩; clear hR x13; have hR := hR2; clear hR2)
    | (go_at_call_of 179 g14; refine (H.mLines hR).mono ?_; rintro e v ⟨rfl, hR2⟩; clear hR; have hR := hR2; clear hR2; have x14 := H.xLines hR)
    | (go_at_call 179; refine (H.nLines hR).mono ?_; rintro e v ⟨rfl, hR2⟩; clear hR x14; have hR := hR2; clear hR2)
    | (go_at_call_of 180 g15; refine (H.mSeats hR).mono ?_; rintro e v ⟨rfl, hR2⟩; clear hR; have hR := hR2; clear hR2; have x15 := H.xSeats hR)
    | (go_at_call 180; refine (H.nSeats hR).mono ?_; rintro e v ⟨rfl, hR2⟩; clear hR x15; have hR := hR2; clear hR2)
    | (go_at_call_of 181 g16; refine (H.mEvents hR).mono ?_; rintro e v ⟨rfl, hR2⟩; clear hR; have hR := hR2; clear hR2; have x16 := H.xEvents hR)
    | (go_at_call 181; refine (H.nEvents hR).mono ?_; rintro e v ⟨rfl, hR2⟩; clear hR x16; have hR := hR2; clear hR2)
    | (go_at_call_of 182 g17; refine (H.mSteps hR).mono ?_; rintro e v ⟨rfl, hR2⟩; clear hR; have hR := hR2; clear hR2; have x17 := H.xSteps hR)
    | (go_at_call 182; refine (H.nSteps hR).mono ?_; rintro e v ⟨rfl, hR2⟩; clear hR x17; have hR := hR2; clear hR2))
  go_ret
  exact ⟨rfl, _, hR⟩
theorem snoc_at {gs : List Value} {x g : Value} {j : Nat} (h : (gs ++ [x])[j]? = some g) : gs[j]? = some g ∨ (j = gs.length ∧ g = x) := by
  by_cases hj : j < gs.length
  · left; rwa [List.getElem?_append_left hj] at h
  · right
    rw [List.getElem?_append_right (by omega)] at h
    by_cases h2 : j - gs.length = 0
    · rw [h2] at h
      simp at h
      exact ⟨by omega, h.symm⟩
    · obtain ⟨n, hn⟩ : ∃ n, j - gs.length = n + 1 := ⟨j - gs.length - 1, by omega⟩
      rw [hn] at h
      simp at h
theorem putT_map {α : Type} (mk : Nat → Nat → α) (k : List (Bl α)) (j : Nat) : (putT mk k j).map (·.v) = k.map (·.v) := by
  apply List.ext_getElem?
  intro i
  simp only [putT, List.getElem?_map, List.getElem?_mapIdx]
  cases k[i]? with
  | none => rfl
  | some u => by_cases h : i < j <;> simp [h]
theorem putT_own {α : Type} {mk : Nat → Nat → α} {k : List (Bl α)} {j B0 : Nat} (h : ∀ u, u ∈ k → ∀ q, u.v.ownBlock = some q → B0 ≤ q) : ∀ u, u ∈ putT mk k j → ∀ q, u.v.ownBlock = some q → B0 ≤ q := fun u hu q hq => by
  have h1 : u.v ∈ (putT mk k j).map (·.v) := List.mem_map.2 ⟨u, hu, rfl⟩
  rw [putT_map] at h1
  obtain ⟨u', hu', e⟩ := List.mem_map.1 h1
  exact h u' hu' q (by rw [e]; exact hq)
theorem FrL.out0 {α : Type} {k : List (Bl α)} {w0 w w' : World} (h0 : Fr [] w0 w) (hF : FrL k w w') (hb : ∀ u, u ∈ k → ∀ q, u.v.ownBlock = some q → w0.heap.size ≤ q) : Fr [] w0 w' := by
  obtain ⟨S, hF, hS⟩ := hF
  exact h0.sub hF fun x hx => by
    obtain ⟨l, hl, hq⟩ := hS x hx
    exact Or.inr (hb l hl x hq)
end Go.Proofs.YtfchbppfbepelaaGreat
