/- Closures: a function value made with what it holds, and its call. -/
import Derived.Test.YtbgjhmdedillhaaXs
set_option linter.unusedVariables false
set_option linter.unusedSimpArgs false
namespace Go.Proofs.Ytbgjhmdedillhaa.Cl
open Go.RowKit Go.Proofs.Ytbgjhmdedillhaa.Sx Go.Proofs.Ytbgjhmdedillhaa.Mx Go.Proofs.Ytbgjhmdedillhaa.Stm Go.Proofs.Ytbgjhmdedillhaa.X
variable {P : Program}
section rules
variable {n : Nat} {Q : Exit → Act → World → Prop} {L : Ctx} {w w0 : World} {M0 M M' : List Stm.Item} {ops : Array Oper} {rest : List Oper} {o : Oper} {d : Nat} {ty : TypeId} {pos : String} {af : Array Edge} {v : Value}
/-- A function value that holds what is captured. -/
theorem mk {k : FuncId} {xs : List Operand} {cs : List Value} (h : Ow P n ops Q rest ((d, .func (.func k) #[] cs.toArray) :: L) w) (hc : mapEv L xs = some cs := by exact rfl) (hd : Nat.blt d n = true := by exact rfl) : Ow P n ops Q (⟨some d, .makeFunc (.func k) #[] ⟨xs⟩, ty, pos, af, none⟩ :: rest) L w :=
  ow_run hd (fun a ha => by
    unfold execOp
    simp only [List.map_toArray, mapEv_ok ha hc]
    rfl) h
/-- The function that a call of such a value names. -/
def calleeC (L : Ctx) : Op → Option (FuncId × List Operand × List Value)
  | .call { callee := .value f, args := ⟨xs⟩, argTypes := _ } => match ev L f with
    | some (.func (.func g) ⟨[]⟩ ⟨cs⟩) => some (g, xs, cs)
    | _ => none
  | _ => none
theorem calleeC_ok {f : FuncId} {xs : List Operand} {cs vs : List Value} {fn : Func} {body : Code} (hc : calleeC L o.op = some (f, xs, cs)) (hv : mapEv L xs = some vs) (hf : P.funcs[f]? = some fn) (hb : fn.body = some body) (hn : (fn.name == "runtime.NumGoroutine") = false) {a : Act} (ha : Has n L a) :
    (execOp a.eval o).run P w = .ok (.enter f (vs ++ cs).toArray) w := by
  obtain ⟨dst, op, type, pos, after, guard⟩ := o
  simp only at hc
  cases op <;> first | (simp [calleeC] at hc; done) | simp only [calleeC] at hc
  rename_i c
  obtain ⟨cal, args, ats⟩ := c
  cases cal <;> first | (simp at hc; done) | skip
  rename_i g
  obtain ⟨args⟩ := args
  simp only at hc
  cases hg : ev L g with
  | none => simp [hg] at hc
  | some u =>
    rw [hg] at hc
    cases u <;> first | (simp at hc; done) | skip
    rename_i fnv first captured
    obtain ⟨first⟩ := first
    obtain ⟨captured⟩ := captured
    cases fnv <;> first | (simp at hc; done) | skip
    rename_i k
    match first, hc with
    | [], hc =>
      simp only [Option.some.injEq, Prod.mk.injEq] at hc
      obtain ⟨rfl, rfl, rfl⟩ := hc
      have hm := mapEv_ok ha hv
      unfold execOp
      simp only [resolve, ha.ev hg, Deferred.ofValue, List.map_toArray, hm]
      rw [Sem.run_bind]
      simp only [Sem.run_pure, Result.andThen_ok, invoke, callFunc]
      rw [Sem.run_bind]
      have hn' : ¬ fn.name = "runtime.NumGoroutine" := by simpa using hn
      simp [hf, hb, hn']
theorem ow_callC {f : FuncId} {xs : List Operand} {cs vs : List Value} {fn : Func} {body : Code} {R : Value → World → Prop} (hd : Nat.blt d n = true) {op : Op} (hc : calleeC L op = some (f, xs, cs)) (hv : mapEv L xs = some vs)
    (hf : P.funcs[f]? = some fn) (hb : fn.body = some body) (hn : (fn.name == "runtime.NumGoroutine") = false)
    (hfn : Does P f (vs ++ cs) w R) (h : ∀ v w', R v w' → Ow P n ops Q rest ((d, v) :: L) w') : Ow P n ops Q (⟨some d, op, ty, pos, af, none⟩ :: rest) L w :=
  fun a ha => wpList_plain rfl fun K hK => by
    unfold Oper.wp
    rw [calleeC_ok (o := ⟨some d, op, ty, pos, af, none⟩) hc hv hf hb hn ha]
    refine Calls.mono hfn fun e w' ⟨v, he, hr⟩ => ?_
    subst he
    exact hK _ _ (h v w' hr _ (ha.put (by simpa [Nat.blt_eq] using hd) v))
theorem callN {op : Op} {f : FuncId} {xs : List Operand} {cs vs : List Value} {fn : Func} {body : Code} {r : Value} (hc : calleeC L op = some (f, xs, cs)) (hv : mapEv L xs = some vs) (hf : P.funcs[f]? = some fn) (hfn : Does P f (vs ++ cs) w fun v w' => v = r ∧ Kp No w w') (h : ∀ w', Kp No w w' → St w0 M0 M w' → Ow P n ops Q rest ((d, r) :: L) w') (hw : St w0 M0 M w := by with_reducible assumption) (hb : fn.body = some body := by exact rfl) (hn : (fn.name == "runtime.NumGoroutine") = false := by exact rfl) (hd : Nat.blt d n = true := by exact rfl) : Ow P n ops Q (⟨some d, op, ty, pos, af, none⟩ :: rest) L w :=
  ow_callC hd hc hv hf hb hn hfn (fun v w' h' => by obtain ⟨rfl, k⟩ := h'; exact h w' k (hw.no k))
end rules
end Go.Proofs.Ytbgjhmdedillhaa.Cl
