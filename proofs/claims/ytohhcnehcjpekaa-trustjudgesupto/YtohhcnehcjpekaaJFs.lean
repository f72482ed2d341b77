/-
  The law TrustSure: her walk.
-/
import Derived.Test.YtohhcnehcjpekaaJLh
namespace Go.Proofs.Ytohhcnehcjpekaa
open Go.AM
set_option maxRecDepth 100000
set_option maxHeartbeats 1000000
set_option linter.unusedSimpArgs false
set_option linter.unusedVariables false
theorem RdS.at {t t' : Tr AObj} {nx nx' wr k n : Nat} {v : Value} {d : List Value} (h : RdS t nx k v n d) (hk : 0 < k) (hf : d.all free0 = true) (hh : ∀ id, id < nx → t'.get id = t.get id) : Rd ⟨t', nx', wr⟩ k v n d := (h.keep (Nat.le_refl _) hh).rd hk hf
theorem made_cE {H : AH} {s_l : Value} {l : List Int} {most bits : Int} {A R : List (List Value)} (hA : A = mkA l bits (min (l.length : Int) most)) (hR : R = mkR l (min (l.length : Int) most)) (hr : Rd H 1 s_l l.length (ints l)) (hok : ok_made l most bits = true) :
  c_made [s_l, .int .i64 most, .int .i64 bits] H = some (.tuple ⟨[outV H.next 46 A.length, outV (H.next + 1) 22 R.length]⟩, addRows H (outN A.length A.flatten ++ outN R.length R.flatten)) := by
 subst hA; subst hR
 exact made_c hr hok
theorem x_notT {P : Program} {call : Call'} {e : Tr Value} {h : AH} {o : Oper} {T : TypeId} {x : Operand} (ho : o.op = .unOp .not T x) (hx : ev e x = some (.bool true)) : doOp P call e h o = some (.bool false, h) := x_not ho hx
theorem intsLen {l : List Int} : (ints l).length = l.length * 1 := by rw [ints_len, Nat.mul_one]
end Go.Proofs.Ytohhcnehcjpekaa
