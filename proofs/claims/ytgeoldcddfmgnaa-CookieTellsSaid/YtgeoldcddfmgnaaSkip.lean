/- A walk of our own through a region with operations whose guard says no: they are passed over first. -/
import Derived.Test.YtgeoldcddfmgnaaCheck
namespace Go.Proofs.Ytgeoldcddfmgnaa
open Lean Elab Tactic Meta

partial def skipWalk (keep tac : TSyntax `tactic) : TacticM Unit := withMainContext do
  let t := (← instantiateMVars (← getMainTarget)).consumeMData
  unless t.isAppOf ``wpAnyH do throwError "skipWalk: not at a region's step: {t}"
  let args := t.getAppArgs
  let ready ← kernelNats (mkApp3 (mkConst ``Region.ready) args[1]! args[2]! args[6]!)
  if ready.isEmpty then
    evalTactic (← `(tactic| refine wpAnyH_done (by kernel_rfl) ?_ _))
    return
  for i in ready do
    let some oe := opAt args[2]! i | throwError "skipWalk: the region is not written out"
    let o ← Term.exprToSyntax oe
    let n : TSyntax `term := quote i
    let s ← saveState
    let took ← try
      Tactic.withoutRecover (evalTactic (← `(tactic| refine wpAnyH_take (i := $n) (oi := $o) (v := undef) rfl (by kernel_rfl) (by kernel_rfl) (by kernel_rfl) (fun _ _ _ h => h) (Or.inr ⟨by rfl, rfl⟩) (by assumption) ?_)))
      pure true
    catch _ =>
      s.restore
      try
        if opHead args[2]! i == some ``Op.call then throwError "a call"
        Tactic.withoutRecover (evalTactic (← `(tactic| refine wpAnyH_take (i := $n) (oi := $o) (v := ?_) rfl (by kernel_rfl) (by kernel_rfl) (by kernel_rfl) (fun _ _ _ h => h) (Or.inl ⟨by rfl, ?_⟩) (by assumption) ?_)))
        let [_, hy, rest] := (← getGoals) | throwError "three goals expected"
        setGoals [hy]
        Tactic.withoutRecover (evalTactic (← `(tactic| (intro w hSw; (try dsimp only at hSw); go_simp))))
        unless (← getGoals).isEmpty do evalTactic (← `(tactic| with_reducible rfl))
        unless (← getGoals).isEmpty do throwError "not closed"
        setGoals [rest]
        pure true
      catch _ =>
        s.restore
        pure false
    if took then
      evalTactic (← `(tactic| try simp only [Act.put, List.setIfInBounds_toArray, List.set_cons_zero, List.set_cons_succ]))
      skipWalk keep tac
      return
  let [i] := ready | throwError "skipWalk: {ready.length} operations may come up: one is borne: {ready}"
  let some oe := opAt args[2]! i | throwError "skipWalk: the region is not written out"
  let o ← Term.exprToSyntax oe
  let lits : Array (TSyntax `term) := #[quote i]
  evalTactic (← `(tactic| refine wpAnyH_ready (rs := [$lits,*]) (by kernel_rfl) (by simp) ?_))
  evalTactic (← `(tactic| refine AllReadyH.cons (o := $o) rfl (fun K hK => ?_) AllReadyH.nil))
  evalTactic (← `(tactic| go_simp))
  unless (← instantiateMVars (← getMainTarget)).consumeMData.getAppFn.isFVar do
    evalTactic tac
    unless (← instantiateMVars (← getMainTarget)).consumeMData.getAppFn.isFVar do evalTactic (← `(tactic| go_wp2_with fail))
  evalTactic (← `(tactic| refine hK.out _ _ ?_ (fun hHeld => ?_)))
  let [hS, rest] := (← getGoals) | throwError "skipWalk: two goals expected"
  setGoals [hS]
  evalTactic (← `(tactic| try dsimp only))
  unless (← getUnsolvedGoals).isEmpty do evalTactic keep
  unless (← getUnsolvedGoals).isEmpty do throwError "skipWalk: S not shown behind operation {i}"
  setGoals [rest]
  evalTactic (← `(tactic| clear hK K))
  evalTactic (← `(tactic| try simp only [Act.put, List.setIfInBounds_toArray, List.set_cons_zero, List.set_cons_succ]))
  clearOldHeld
  skipWalk keep tac

elab "region_skip " S:term:max ppSpace "(" keep:tactic ")" ppSpace "(" tac:tactic ")" : tactic => withMainContext do
  evalTactic (← `(tactic| refine wp_region_held_drew (S := $S) (by kernel_rfl) ?_ (fun hHeld => ?_)))
  let [hS, rest] := (← getGoals) | throwError "region_skip: two goals expected"
  setGoals [hS]
  evalTactic (← `(tactic| try dsimp only))
  unless (← getUnsolvedGoals).isEmpty do evalTactic keep
  unless (← getUnsolvedGoals).isEmpty do throwError "region_skip: S not shown"
  setGoals [rest]
  skipWalk keep tac
end Go.Proofs.Ytgeoldcddfmgnaa
