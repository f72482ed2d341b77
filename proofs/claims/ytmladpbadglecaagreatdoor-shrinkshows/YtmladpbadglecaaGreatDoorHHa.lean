/-
  Steps of the proof.
-/
import Derived.Test.YtmladpbadglecaaGreatDoorHA3
set_option linter.unusedSimpArgs false
set_option linter.unusedVariables false
namespace Go.AM
open Go
def rAdd (x y : Int) : Int := IntKind.u32.wrap (x + y)
def rAnd (x y : Int) : Int := IntKind.u32.wrap ((BitVec.ofInt IntKind.u32.bits x &&& BitVec.ofInt IntKind.u32.bits y).toNat : Nat)
def rOr (x y : Int) : Int := IntKind.u32.wrap ((BitVec.ofInt IntKind.u32.bits x ||| BitVec.ofInt IntKind.u32.bits y).toNat : Nat)
def rXor (x y : Int) : Int := IntKind.u32.wrap ((BitVec.ofInt IntKind.u32.bits x ^^^ BitVec.ofInt IntKind.u32.bits y).toNat : Nat)
def rNot (x : Int) : Int := rXor 4294967295 x
def rShl (x : Int) (n : Nat) : Int := IntKind.u32.wrap (x * 2 ^ n)
def rShr (x : Int) (n : Nat) : Int := x.fdiv (2 ^ n)
def rCv (x : Int) : Int := IntKind.u32.wrap x
def rRot (x : Int) (j : Nat) : Int := rOr (rShl x (32 - j)) (rShr x j)
def rMix (x : Int) (i j k : Nat) : Int := rXor (rXor (rRot x i) (rRot x j)) (rRot x k)
def rSa (p : Int) : Int := rXor (rXor (rRot p 7) (rRot p 18)) (rShr p 3)
def rSb (p : Int) : Int := rXor (rXor (rRot p 17) (rRot p 19)) (rShr p 10)
def rWord (a b c d : Int) : Int := rOr (rShl (rOr (rShl (rOr (rShl (rOr (rShl 0 8) (rCv a)) 8) (rCv b)) 8) (rCv c)) 8) (rCv d)
def rSched : Nat -> List Int -> List Int
 | 0, acc => acc
 | n + 1, acc => match acc with
  | a0 :: a1 :: a2 :: a3 :: a4 :: a5 :: a6 :: a7 :: a8 :: a9 :: a10 :: a11 :: a12 :: a13 :: a14 :: a15 :: r => rSched n (rAdd (rAdd (rAdd a15 (rSa a14)) a6) (rSb a1) :: a0 :: a1 :: a2 :: a3 :: a4 :: a5 :: a6 :: a7 :: a8 :: a9 :: a10 :: a11 :: a12 :: a13 :: a14 :: a15 :: r)
  | _ => acc
def rFirst : List Int -> List Int -> List Int
 | a :: b :: c :: d :: r, acc => rFirst r (rWord a b c d :: acc)
 | _, acc => acc
def rRev : List Int -> List Int -> List Int
 | [], acc => acc
 | x :: r, acc => rRev r (x :: acc)
def rX (e0 e1 e2 e3 k w : Int) : Int := rAdd (rAdd (rAdd (rAdd e3 (rMix e0 6 11 25)) (rXor (rAnd e0 e1) (rAnd (rNot e0) e2))) k) w
def rY (v0 v1 v2 : Int) : Int := rAdd (rMix v0 2 13 22) (rXor (rXor (rAnd v0 v1) (rAnd v0 v2)) (rAnd v1 v2))
def rGo : List Int -> List Int -> Int -> Int -> Int -> Int -> Int -> Int -> Int -> Int -> (Int -> Int -> Int -> Int -> Int -> Int -> Int -> Int -> List Value) -> List Value
 | k :: ks, w :: ws, v0, v1, v2, v3, e0, e1, e2, e3, κ => (fun x => rGo ks ws (rAdd x (rY v0 v1 v2)) v0 v1 v2 (rAdd v3 x) e0 e1 e2 κ) (rX e0 e1 e2 e3 k w)
 | _, _, v0, v1, v2, v3, e0, e1, e2, e3, κ => κ v0 v1 v2 v3 e0 e1 e2 e3
def shaK : List Int := [1116352408, 1899447441, 3049323471, 3921009573, 961987163, 1508970993, 2453635748, 2870763221, 3624381080, 310598401, 607225278, 1426881987, 1925078388, 2162078206, 2614888103, 3248222580, 3835390401, 4022224774, 264347078, 604807628, 770255983, 1249150122, 1555081692, 1996064986, 2554220882, 2821834349, 2952996808, 3210313671, 3336571891, 3584528711, 113926993, 338241895, 666307205, 773529912, 1294757372, 1396182291, 1695183700, 1986661051, 2177026350, 2456956037, 2730485921, 2820302411, 3259730800, 3345764771, 3516065817, 3600352804, 4094571909, 275423344, 430227734, 506948616, 659060556, 883997877, 958139571, 1322822218, 1537002063, 1747873779, 1955562222, 2024104815, 2227730452, 2361852424, 2428436474, 2756734187, 3204031479, 3329325298]
def rCompress (s0 s1 s2 s3 s4 s5 s6 s7 : Int) (bs : List Int) : List Value :=
 rGo shaK (rRev (rSched 48 (rFirst bs [])) []) s0 s1 s2 s3 s4 s5 s6 s7 fun v0 v1 v2 v3 e0 e1 e2 e3 =>
  [.int .u32 (rAdd s0 v0), .int .u32 (rAdd s1 v1), .int .u32 (rAdd s2 v2), .int .u32 (rAdd s3 v3), .int .u32 (rAdd s4 e0), .int .u32 (rAdd s5 e1), .int .u32 (rAdd s6 e2), .int .u32 (rAdd s7 e3)]
end Go.AM
namespace Go.AM
open Go
structure N32 (x : Int) (a : Nat) : Prop where
 eq : x = (a : Int)
 lt : a < 4294967296
theorem wrap32 {n : Nat} : IntKind.u32.wrap (n : Int) = ((n % 4294967296 : Nat) : Int) := by
 unfold IntKind.wrap
 simp only [IntKind.signed, Bool.false_and, Bool.false_eq_true, if_false, IntKind.bits]
 omega
def nAdd (x y : Nat) : Nat := Nat.mod (Nat.add x y) 4294967296
def nShl (x n : Nat) : Nat := Nat.mod (Nat.mul x (Nat.pow 2 n)) 4294967296
def nShr (x n : Nat) : Nat := Nat.div x (Nat.pow 2 n)
def nNot (x : Nat) : Nat := Nat.xor 4294967295 x
def nRot (x j : Nat) : Nat := Nat.lor (nShl x (Nat.sub 32 j)) (nShr x j)
def nMix (x i j k : Nat) : Nat := Nat.xor (Nat.xor (nRot x i) (nRot x j)) (nRot x k)
def nSa (p : Nat) : Nat := Nat.xor (Nat.xor (nRot p 7) (nRot p 18)) (nShr p 3)
def nSb (p : Nat) : Nat := Nat.xor (Nat.xor (nRot p 17) (nRot p 19)) (nShr p 10)
def nWord (a b c d : Nat) : Nat := Nat.lor (nShl (Nat.lor (nShl (Nat.lor (nShl (Nat.lor (nShl 0 8) a) 8) b) 8) c) 8) d
def nX (e0 e1 e2 e3 k w : Nat) : Nat := nAdd (nAdd (nAdd (nAdd e3 (nMix e0 6 11 25)) (Nat.xor (Nat.land e0 e1) (Nat.land (nNot e0) e2))) k) w
def nY (v0 v1 v2 : Nat) : Nat := nAdd (nMix v0 2 13 22) (Nat.xor (Nat.xor (Nat.land v0 v1) (Nat.land v0 v2)) (Nat.land v1 v2))
section
variable {x y z u : Int} {a b c d : Nat}
theorem N32.ofInt (h : N32 x a) : (BitVec.ofInt IntKind.u32.bits x).toNat = a := by
 rw [h.eq]
 show (BitVec.ofInt 32 (a : Int)).toNat = a
 rw [BitVec.ofInt_natCast, BitVec.toNat_ofNat]
 exact Nat.mod_eq_of_lt h.lt
theorem N32.add (h : N32 x a) (k : N32 y b) : N32 (rAdd x y) (nAdd a b) := by
 refine ⟨?_, Nat.mod_lt _ (by decide)⟩
 unfold rAdd nAdd
 rw [h.eq, k.eq, <-Int.natCast_add, wrap32]
 rfl
theorem and_lt (h : a < 4294967296) : a &&& b < 4294967296 := Nat.lt_of_le_of_lt Nat.and_le_left h
theorem or_lt (h : a < 4294967296) (k : b < 4294967296) : a ||| b < 4294967296 := Nat.or_lt_two_pow (n := 32) h k
theorem xor_lt (h : a < 4294967296) (k : b < 4294967296) : a ^^^ b < 4294967296 := Nat.xor_lt_two_pow (n := 32) h k
theorem N32.and (h : N32 x a) (k : N32 y b) : N32 (rAnd x y) (Nat.land a b) := by
 have hl : a &&& b < 4294967296 := and_lt h.lt
 refine ⟨?_, hl⟩
 unfold rAnd
 rw [wrap32, BitVec.toNat_and, h.ofInt, k.ofInt, Nat.mod_eq_of_lt hl]
 rfl
theorem N32.or (h : N32 x a) (k : N32 y b) : N32 (rOr x y) (Nat.lor a b) := by
 have hl : a ||| b < 4294967296 := or_lt h.lt k.lt
 refine ⟨?_, hl⟩
 unfold rOr
 rw [wrap32, BitVec.toNat_or, h.ofInt, k.ofInt, Nat.mod_eq_of_lt hl]
 rfl
theorem N32.xor (h : N32 x a) (k : N32 y b) : N32 (rXor x y) (Nat.xor a b) := by
 have hl : a ^^^ b < 4294967296 := xor_lt h.lt k.lt
 refine ⟨?_, hl⟩
 unfold rXor
 rw [wrap32, BitVec.toNat_xor, h.ofInt, k.ofInt, Nat.mod_eq_of_lt hl]
 rfl
theorem N32.not (h : N32 x a) : N32 (rNot x) (nNot a) := N32.xor (x := 4294967295) (a := 4294967295) ⟨rfl, by decide⟩ h
theorem N32.shl (h : N32 x a) (n : Nat) : N32 (rShl x n) (nShl a n) := by
 refine ⟨?_, Nat.mod_lt _ (by decide)⟩
 unfold rShl nShl
 rw [h.eq, show ((a : Int) * 2 ^ n) = ((a * 2 ^ n : Nat) : Int) by push_cast; rfl, wrap32]
 rfl
theorem N32.shr (h : N32 x a) (n : Nat) : N32 (rShr x n) (nShr a n) := by
 refine ⟨?_, Nat.lt_of_le_of_lt (Nat.div_le_self _ _) h.lt⟩
 unfold rShr nShr
 rw [h.eq, show (2 ^ n : Int) = ((2 ^ n : Nat) : Int) by push_cast; rfl, Int.fdiv_eq_ediv_of_nonneg _ (Int.natCast_nonneg _)]
 rfl
theorem N32.cv (h : N32 x a) : N32 (rCv x) a := by
 refine ⟨?_, h.lt⟩
 unfold rCv
 rw [h.eq, wrap32, Nat.mod_eq_of_lt h.lt]
theorem N32.rot (h : N32 x a) (j : Nat) : N32 (rRot x j) (nRot a j) := (h.shl _).or (h.shr _)
theorem N32.mix (h : N32 x a) (i j k : Nat) : N32 (rMix x i j k) (nMix a i j k) := ((h.rot i).xor (h.rot j)).xor (h.rot k)
theorem N32.sa (h : N32 x a) : N32 (rSa x) (nSa a) := ((h.rot 7).xor (h.rot 18)).xor (h.shr 3)
theorem N32.sb (h : N32 x a) : N32 (rSb x) (nSb a) := ((h.rot 17).xor (h.rot 19)).xor (h.shr 10)
theorem N32.zero : N32 0 0 := ⟨rfl, by decide⟩
theorem N32.word (h : N32 x a) (k : N32 y b) (l : N32 z c) (m : N32 u d) : N32 (rWord x y z u) (nWord a b c d) :=
 ((((((((N32.zero.shl 8).or h.cv).shl 8).or k.cv).shl 8).or l.cv).shl 8).or m.cv)
end
inductive L32 : List Int -> List Nat -> Prop where
 | nil : L32 [] []
 | cons {x : Int} {a : Nat} {l : List Int} {m : List Nat} : N32 x a -> L32 l m -> L32 (x :: l) (a :: m)
def nRev : List Nat -> List Nat -> List Nat
 | [], acc => acc
 | x :: r, acc => nRev r (x :: acc)
noncomputable def nFirst : List Nat -> List Nat -> List Nat
 | a :: b :: c :: d :: r, acc => forceN (nWord a b c d) fun w => nFirst r (w :: acc)
 | _, acc => acc
noncomputable def nSched : Nat -> List Nat -> List Nat
 | 0, acc => acc
 | n + 1, acc => match acc with
  | a0 :: a1 :: a2 :: a3 :: a4 :: a5 :: a6 :: a7 :: a8 :: a9 :: a10 :: a11 :: a12 :: a13 :: a14 :: a15 :: r =>
   forceN (nAdd (nAdd (nAdd a15 (nSa a14)) a6) (nSb a1)) fun w => nSched n (w :: a0 :: a1 :: a2 :: a3 :: a4 :: a5 :: a6 :: a7 :: a8 :: a9 :: a10 :: a11 :: a12 :: a13 :: a14 :: a15 :: r)
  | _ => acc
noncomputable def nGo {α : Type} : List Nat -> List Nat -> Nat -> Nat -> Nat -> Nat -> Nat -> Nat -> Nat -> Nat -> (Nat -> Nat -> Nat -> Nat -> Nat -> Nat -> Nat -> Nat -> α) -> α
 | k :: ks, w :: ws, v0, v1, v2, v3, e0, e1, e2, e3, κ => forceN (nX e0 e1 e2 e3 k w) fun x => forceN (nAdd x (nY v0 v1 v2)) fun a => forceN (nAdd v3 x) fun b => nGo ks ws a v0 v1 v2 b e0 e1 e2 κ
 | _, _, v0, v1, v2, v3, e0, e1, e2, e3, κ => κ v0 v1 v2 v3 e0 e1 e2 e3
def shaN : List Nat := [1116352408, 1899447441, 3049323471, 3921009573, 961987163, 1508970993, 2453635748, 2870763221, 3624381080, 310598401, 607225278, 1426881987, 1925078388, 2162078206, 2614888103, 3248222580, 3835390401, 4022224774, 264347078, 604807628, 770255983, 1249150122, 1555081692, 1996064986, 2554220882, 2821834349, 2952996808, 3210313671, 3336571891, 3584528711, 113926993, 338241895, 666307205, 773529912, 1294757372, 1396182291, 1695183700, 1986661051, 2177026350, 2456956037, 2730485921, 2820302411, 3259730800, 3345764771, 3516065817, 3600352804, 4094571909, 275423344, 430227734, 506948616, 659060556, 883997877, 958139571, 1322822218, 1537002063, 1747873779, 1955562222, 2024104815, 2227730452, 2361852424, 2428436474, 2756734187, 3204031479, 3329325298]
noncomputable def nV (n : Nat) (k : Value -> List Value) : List Value := forceN n fun n => k (.int .u32 (.ofNat n))
noncomputable def nCompress (s0 s1 s2 s3 s4 s5 s6 s7 : Nat) (bs : List Nat) : List Value :=
 nGo shaN (nRev (nSched 48 (nFirst bs [])) []) s0 s1 s2 s3 s4 s5 s6 s7 fun v0 v1 v2 v3 e0 e1 e2 e3 =>
  nV (nAdd s0 v0) fun a => nV (nAdd s1 v1) fun b => nV (nAdd s2 v2) fun c => nV (nAdd s3 v3) fun d => nV (nAdd s4 e0) fun e => nV (nAdd s5 e1) fun f => nV (nAdd s6 e2) fun g => nV (nAdd s7 e3) fun h => [a, b, c, d, e, f, g, h]
theorem L32.rev {l : List Int} {m : List Nat} (h : L32 l m) : ∀ {l' : List Int} {m' : List Nat}, L32 l' m' -> L32 (rRev l l') (nRev m m') := by
 induction h with
 | nil => exact fun h => h
 | cons h _ ih => exact fun k => ih (.cons h k)
theorem L32.first : ∀ {l : List Int} {m : List Nat} {l' : List Int} {m' : List Nat}, L32 l m -> L32 l' m' -> L32 (rFirst l l') (nFirst m m')
 | _, _, _, _, .nil, h => by rw [rFirst, nFirst]; exact h; all_goals intros; simp_all
 | _, _, _, _, .cons _ .nil, h => by rw [rFirst, nFirst]; exact h; all_goals intros; simp_all
 | _, _, _, _, .cons _ (.cons _ .nil), h => by rw [rFirst, nFirst]; exact h; all_goals intros; simp_all
 | _, _, _, _, .cons _ (.cons _ (.cons _ .nil)), h => by rw [rFirst, nFirst]; exact h; all_goals intros; simp_all
 | _, _, _, _, .cons h1 (.cons h2 (.cons h3 (.cons h4 hr))), h => by
  rw [rFirst, nFirst, forceN_eq]
  exact L32.first hr (.cons (h1.word h2 h3 h4) h)
theorem L32.sched : ∀ (n : Nat) {l : List Int} {m : List Nat}, L32 l m -> L32 (rSched n l) (nSched n m)
 | 0, _, _, h => h
 | n + 1, l, m, h => by
  rcases h with _ | ⟨h0, _ | ⟨h1, _ | ⟨h2, _ | ⟨h3, _ | ⟨h4, _ | ⟨h5, _ | ⟨h6, _ | ⟨h7, _ | ⟨h8, _ | ⟨h9, _ | ⟨h10, _ | ⟨h11, _ | ⟨h12, _ | ⟨h13, _ | ⟨h14, _ | ⟨h15, hr⟩⟩⟩⟩⟩⟩⟩⟩⟩⟩⟩⟩⟩⟩⟩⟩
  case cons.cons.cons.cons.cons.cons.cons.cons.cons.cons.cons.cons.cons.cons.cons.cons =>
   simp only [rSched, nSched, forceN_eq]
   exact L32.sched n (.cons (((h15.add h14.sa).add h6).add h1.sb) (.cons h0 (.cons h1 (.cons h2 (.cons h3 (.cons h4 (.cons h5 (.cons h6 (.cons h7 (.cons h8 (.cons h9 (.cons h10 (.cons h11 (.cons h12 (.cons h13 (.cons h14 (.cons h15 hr)))))))))))))))))
  all_goals
   simp only [rSched, nSched]
   repeat (first | exact L32.nil | refine L32.cons (by assumption) ?_)
theorem N32.x {e0 e1 e2 e3 k w : Int} {a0 a1 a2 a3 b c : Nat} (h0 : N32 e0 a0) (h1 : N32 e1 a1) (h2 : N32 e2 a2) (h3 : N32 e3 a3) (hk : N32 k b) (hw : N32 w c) : N32 (rX e0 e1 e2 e3 k w) (nX a0 a1 a2 a3 b c) :=
 (((h3.add (h0.mix 6 11 25)).add ((h0.and h1).xor (h0.not.and h2))).add hk).add hw
theorem N32.y {v0 v1 v2 : Int} {a0 a1 a2 : Nat} (h0 : N32 v0 a0) (h1 : N32 v1 a1) (h2 : N32 v2 a2) : N32 (rY v0 v1 v2) (nY a0 a1 a2) :=
 (h0.mix 2 13 22).add (((h0.and h1).xor (h0.and h2)).xor (h1.and h2))
theorem go_eq {κ : Int -> Int -> Int -> Int -> Int -> Int -> Int -> Int -> List Value} {κ' : Nat -> Nat -> Nat -> Nat -> Nat -> Nat -> Nat -> Nat -> List Value}
  (hκ : ∀ {v0 v1 v2 v3 e0 e1 e2 e3 : Int} {a0 a1 a2 a3 b0 b1 b2 b3 : Nat}, N32 v0 a0 -> N32 v1 a1 -> N32 v2 a2 -> N32 v3 a3 -> N32 e0 b0 -> N32 e1 b1 -> N32 e2 b2 -> N32 e3 b3 -> κ v0 v1 v2 v3 e0 e1 e2 e3 = κ' a0 a1 a2 a3 b0 b1 b2 b3) :
  ∀ {ks : List Int} {ms : List Nat} {ws : List Int} {xs : List Nat}, L32 ks ms -> L32 ws xs -> ∀ {v0 v1 v2 v3 e0 e1 e2 e3 : Int} {a0 a1 a2 a3 b0 b1 b2 b3 : Nat}, N32 v0 a0 -> N32 v1 a1 -> N32 v2 a2 -> N32 v3 a3 -> N32 e0 b0 -> N32 e1 b1 -> N32 e2 b2 -> N32 e3 b3 →
   rGo ks ws v0 v1 v2 v3 e0 e1 e2 e3 κ = nGo ms xs a0 a1 a2 a3 b0 b1 b2 b3 κ' := by
 intro ks ms ws xs hk
 induction hk generalizing ws xs with
 | nil => intro hw _ _ _ _ _ _ _ _ _ _ _ _ _ _ _ _ h0 h1 h2 h3 h4 h5 h6 h7; rw [rGo, nGo]; exact hκ h0 h1 h2 h3 h4 h5 h6 h7; all_goals intros; simp_all
 | cons hk _ ih =>
  intro hw
  cases hw with
  | nil => intro _ _ _ _ _ _ _ _ _ _ _ _ _ _ _ _ h0 h1 h2 h3 h4 h5 h6 h7; rw [rGo, nGo]; exact hκ h0 h1 h2 h3 h4 h5 h6 h7; all_goals intros; simp_all
  | cons hw hr =>
   intro _ _ _ _ _ _ _ _ _ _ _ _ _ _ _ _ h0 h1 h2 h3 h4 h5 h6 h7
   rw [rGo, nGo, forceN_eq, forceN_eq, forceN_eq]
   have hx := N32.x h4 h5 h6 h7 hk hw
   exact ih hr (hx.add (N32.y h0 h1 h2)) h0 h1 h2 (h3.add hx) h4 h5 h6
theorem sha_eq : L32 shaK shaN := by
 unfold shaK shaN
 repeat (first | exact L32.nil | refine L32.cons ⟨rfl, by decide⟩ ?_)
theorem compress_eq {s0 s1 s2 s3 s4 s5 s6 s7 : Int} {a0 a1 a2 a3 a4 a5 a6 a7 : Nat} {bs : List Int} {cs : List Nat} (h0 : N32 s0 a0) (h1 : N32 s1 a1) (h2 : N32 s2 a2) (h3 : N32 s3 a3) (h4 : N32 s4 a4) (h5 : N32 s5 a5) (h6 : N32 s6 a6) (h7 : N32 s7 a7) (hb : L32 bs cs) :
  rCompress s0 s1 s2 s3 s4 s5 s6 s7 bs = nCompress a0 a1 a2 a3 a4 a5 a6 a7 cs := by
 unfold rCompress nCompress
 refine go_eq (fun k0 k1 k2 k3 k4 k5 k6 k7 => ?_) sha_eq (L32.rev (L32.sched 48 (L32.first hb .nil)) .nil) h0 h1 h2 h3 h4 h5 h6 h7
 simp only [nV, forceN_eq, (h0.add k0).eq, (h1.add k1).eq, (h2.add k2).eq, (h3.add k3).eq, (h4.add k4).eq, (h5.add k5).eq, (h6.add k6).eq, (h7.add k7).eq]
 rfl
end Go.AM
