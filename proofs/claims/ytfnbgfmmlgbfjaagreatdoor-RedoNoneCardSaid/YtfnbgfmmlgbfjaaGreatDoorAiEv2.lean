/-
  Rules for the kernel: what runs straight is not printed.
-/
import Derived.Test.YtfnbgfmmlgbfjaaGreatDoorAiEv
namespace Go.Ai

def isRet {α : Type} : M α → Bool
  | .ret _ => true
  | _ => false
def getEnv : M (Env × St) → Env
  | .ret x => x.1
  | _ => ⟨0, .e⟩
def getSt : M (Env × St) → St
  | .ret x => x.2
  | _ => ⟨.e, 0⟩
theorem isRet_eq {m : M (Env × St)} (h : isRet m = true) : m = .ret (getEnv m, getSt m) := by
  cases m with
  | ret x => rfl
  | fail => cases h
  | ask n k => cases h

section
variable {C : Cfg} {fid : FuncId} {e : Env} {s : St}

/-- operations that call nothing -/
theorem evl_known {ops : Array Oper} {l : List Oper} {R : Env → St → Prop} (h : isRet (execOps C (run C 0) ops l e s) = true) (hR : R (getEnv (execOps C (run C 0) ops l e s)) (getSt (execOps C (run C 0) ops l e s))) : EvL C ops l e s R := by
  refine ⟨0, ?_⟩
  rw [isRet_eq h]
  exact hR

/-- a part of the code that runs to its end, whatever it calls -/
def isNormal : M (Out × Env × St) → Bool
  | .ret (.normal, _, _) => true
  | _ => false
def outEnv : M (Out × Env × St) → Env
  | .ret x => x.2.1
  | _ => ⟨0, .e⟩
def outSt : M (Out × Env × St) → St
  | .ret x => x.2.2
  | _ => ⟨.e, 0⟩
theorem evc_known {c : Code} {Q : Out → Env → St → Prop} (n : Nat) (h : isNormal (execC C (run C n) fid c e s) = true) (hQ : Q .normal (outEnv (execC C (run C n) fid c e s)) (outSt (execC C (run C n) fid c e s))) : EvC C fid c e s Q := by
  refine ⟨n, ?_⟩
  generalize execC C (run C n) fid c e s = m at h hQ
  unfold isNormal at h
  split at h
  · exact hQ
  · cases h

def asB : Value → Bool
  | .bool b => b
  | _ => false
theorem ev_test {c : Operand} {a b : Code} {Q : Out → Env → St → Prop} (hc : e.eval c = .bool (asB (e.eval c))) (h1 : asB (e.eval c) = true → EvC C fid a e s Q) (h2 : asB (e.eval c) = false → EvC C fid b e s Q) : EvC C fid (.cond c a b) e s Q :=
  ev_cond hc h1 h2

/-- for `calls_true` -/
theorem EvF.all {f : FuncId} {args : List Value} {R : Value → St → Prop} (h : EvF C f args s R) : ∃ n, (run C n (.call f args) s).All fun x => ∃ v, x.1 = .val v ∧ R v x.2 := h

end
end Go.Ai
