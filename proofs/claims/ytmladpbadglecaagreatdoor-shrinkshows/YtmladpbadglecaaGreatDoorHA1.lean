/-
  An abstract machine for the model, part 1: what it computes, the model does, whatever is drawn. No conditions beyond those that its theorems name.
-/
import Derived.WalkKit
import Derived.Orders
import Derived.Laws.IdiomStrings
set_option linter.unusedSimpArgs false
set_option linter.unusedVariables false
namespace Go.AM
theorem ow {p : Prop} (h : p := by omega) : p := h
def eqL {α : Type} (f : α -> α -> Bool) : List α -> List α -> Bool
 | [], [] => true
 | a :: r, b :: s => if f a b then eqL f r s else false
 | _, _ => false
theorem eqL_eq {α : Type} {f : α -> α -> Bool} (hf : ∀ a b, f a b = true -> a = b) : ∀ {l m : List α}, eqL f l m = true -> l = m
 | [], [], _ => rfl
 | [], _ :: _, h => by cases h
 | _ :: _, [], h => by cases h
 | a :: r, b :: s, h => by
  simp only [eqL] at h
  split at h
  ·rename_i q; rw [hf a b q, eqL_eq hf h]
  ·cases h
def eqI : Int -> Int -> Bool
 | .ofNat m, .ofNat n => Nat.beq m n
 | .negSucc m, .negSucc n => Nat.beq m n
 | _, _ => false
theorem eqI_eq {a b : Int} (h : eqI a b = true) : a = b := by
 cases a <;> cases b <;> simp only [eqI] at h <;> first | (rw [Nat.eq_of_beq_eq_true h]) | cases h
def eqB (a b : ByteArray) : Bool := eqL (fun x y => Nat.beq (UInt8.toNat x) (UInt8.toNat y)) a.data.toList b.data.toList
theorem eqB_eq {a b : ByteArray} (h : eqB a b = true) : a = b := by
 have := eqL_eq (fun x y q => UInt8.toNat_inj.1 (Nat.eq_of_beq_eq_true q)) h
 cases a with | mk a => cases b with | mk b => cases a with | mk a => cases b with | mk b => simp at this; rw [this]
def eqN : Option Nat -> Option Nat -> Bool
 | none, none => true
 | some a, some b => Nat.beq a b
 | _, _ => false
theorem eqN_eq {a b : Option Nat} (h : eqN a b = true) : a = b := by
 cases a <;> cases b <;> simp only [eqN] at h <;> first | rfl | (rw [Nat.eq_of_beq_eq_true h]) | cases h
def eqAd : Option Addr -> Option Addr -> Bool
 | none, none => true
 | some ⟨i, o, s⟩, some ⟨i', o', s'⟩ => Nat.beq i i' && Nat.beq o o' && eqN s s'
 | _, _ => false
theorem eqAd_eq {a b : Option Addr} (h : eqAd a b = true) : a = b := by
 cases a with
 | none => cases b with | none => rfl | some b => cases h
 | some a => cases b with
  | none => cases h
  | some b =>
   obtain ⟨i, o, s⟩ := a; obtain ⟨i', o', s'⟩ := b
   simp only [eqAd, Bool.and_eq_true] at h
   rw [Nat.eq_of_beq_eq_true h.1.1, Nat.eq_of_beq_eq_true h.1.2, eqN_eq h.2]
def kNum : IntKind -> Nat
 | .i8 => 0 | .i16 => 1 | .i32 => 2 | .i64 => 3 | .u8 => 4 | .u16 => 5 | .u32 => 6 | .u64 => 7
theorem kNum_eq {a b : IntKind} (h : Nat.beq (kNum a) (kNum b) = true) : a = b := by cases a <;> cases b <;> first | rfl | cases h
def eqV : Nat -> Value -> Value -> Bool
 | 0, _, _ => false
 | n + 1, a, b =>
  match a, b with
  | .int k x, .int k' y => Nat.beq (kNum k) (kNum k') && eqI x y
  | .bool x, .bool y => if x then y else !y
  | .string x, .string y => eqB x y
  | .pointer x, .pointer y => eqAd x y
  | .slice x l c, .slice y l' c' => eqAd x y && Nat.beq l l' && Nat.beq c c'
  | .map x, .map y => eqN x y
  | .nilFunc, .nilFunc => true
  | .nilIface, .nilIface => true
  | .func (.func f) x c, .func (.func g) y c' => Nat.beq f g && eqL (eqV n) x.toList y.toList && eqL (eqV n) c.toList c'.toList
  | .iface t x, .iface u y => Nat.beq t u && eqV n x y
  | .agg x, .agg y => eqL (eqV n) x.toList y.toList
  | .tuple x, .tuple y => eqL (eqV n) x.toList y.toList
  | _, _ => false
theorem arr_toList {x y : Array Value} (h : x.toList = y.toList) : x = y := Array.ext' h
theorem eqV_eq : ∀ (n : Nat) (a b : Value), eqV n a b = true -> a = b
 | 0, _, _, h => by cases h
 | n + 1, a, b, h => by
  have ih := eqV_eq n
  simp only [eqV] at h
  split at h
  ·simp only [Bool.and_eq_true] at h; rw [kNum_eq h.1, eqI_eq h.2]
  ·rename_i x y
   cases x <;> cases y <;> first | rfl | cases h
  ·rw [eqB_eq h]
  ·rw [eqAd_eq h]
  ·simp only [Bool.and_eq_true] at h; rw [eqAd_eq h.1.1, Nat.eq_of_beq_eq_true h.1.2, Nat.eq_of_beq_eq_true h.2]
  ·rw [eqN_eq h]
  ·rfl
  ·rfl
  ·simp only [Bool.and_eq_true] at h; rw [Nat.eq_of_beq_eq_true h.1.1, arr_toList (eqL_eq ih h.1.2), arr_toList (eqL_eq ih h.2)]
  ·simp only [Bool.and_eq_true] at h; rw [Nat.eq_of_beq_eq_true h.1, ih _ _ h.2]
  ·rw [arr_toList (eqL_eq ih h)]
  ·rw [arr_toList (eqL_eq ih h)]
  ·cases h
def free0 : Value -> Bool
 | .bool _ | .int _ _ | .float _ _ | .complex _ _ _ | .string _ => true
 | .pointer none | .slice none 0 0 | .map none | .chan none | .nilFunc | .nilIface => true
 | _ => false
def GD : List (Option (List Value)) := [some [.string ⟨⟨[118, 97, 114]⟩⟩, .string ⟨⟨[114, 101, 99]⟩⟩, .string ⟨⟨[99, 104, 97, 110]⟩⟩, .string ⟨⟨[108, 111, 99, 107]⟩⟩, .string ⟨⟨[102, 105, 108, 101]⟩⟩, .string ⟨⟨[112, 114, 111, 99]⟩⟩, .string ⟨⟨[116, 101, 115, 116]⟩⟩, .string ⟨⟨[]⟩⟩, .string ⟨⟨[]⟩⟩, .string ⟨⟨[]⟩⟩, .string ⟨⟨[]⟩⟩, .string ⟨⟨[105, 102]⟩⟩, .string ⟨⟨[119, 104, 105, 108, 101]⟩⟩, .string ⟨⟨[103, 111]⟩⟩, .string ⟨⟨[99, 97, 108, 108]⟩⟩, .string ⟨⟨[115, 101, 110, 100]⟩⟩, .string ⟨⟨[114, 101, 99, 118]⟩⟩, .string ⟨⟨[97, 99, 113, 117, 105, 114, 101]⟩⟩, .string ⟨⟨[114, 101, 108, 101, 97, 115, 101]⟩⟩, .string ⟨⟨[100, 114, 97, 119]⟩⟩, .string ⟨⟨[110, 111, 119]⟩⟩, .string ⟨⟨[115, 108, 101, 101, 112]⟩⟩, .string ⟨⟨[119, 114, 105, 116, 101]⟩⟩, .string ⟨⟨[114, 101, 97, 100]⟩⟩, .string ⟨⟨[99, 104, 101, 99, 107]⟩⟩, .string ⟨⟨[97, 108, 108, 111, 99]⟩⟩],
 some [.int .i64 7, .int .i64 8, .int .i64 9, .int .i64 4, .int .i64 5, .int .i64 6],
 some [.string ⟨⟨[112, 117, 115, 104]⟩⟩, .int .i64 1, .string ⟨⟨[108, 111, 97, 100]⟩⟩, .int .i64 1, .string ⟨⟨[115, 116, 111, 114, 101]⟩⟩, .int .i64 1, .string ⟨⟨[109, 97, 99, 104, 105, 110, 101]⟩⟩, .int .i64 0, .string ⟨⟨[97, 100, 100]⟩⟩, .int .i64 0, .string ⟨⟨[115, 117, 98]⟩⟩, .int .i64 0, .string ⟨⟨[109, 117, 108]⟩⟩, .int .i64 0, .string ⟨⟨[108, 101, 115, 115]⟩⟩, .int .i64 0, .string ⟨⟨[109, 111, 115, 116]⟩⟩, .int .i64 0, .string ⟨⟨[101, 113, 117, 97, 108]⟩⟩, .int .i64 0, .string ⟨⟨[106, 117, 109, 112]⟩⟩, .int .i64 1, .string ⟨⟨[122, 101, 114, 111]⟩⟩, .int .i64 1, .string ⟨⟨[99, 97, 108, 108]⟩⟩, .int .i64 1, .string ⟨⟨[98, 97, 99, 107]⟩⟩, .int .i64 0, .string ⟨⟨[99, 104, 101, 99, 107]⟩⟩, .int .i64 2, .string ⟨⟨[97, 108, 108, 111, 99]⟩⟩, .int .i64 1, .string ⟨⟨[103, 101, 116]⟩⟩, .int .i64 1, .string ⟨⟨[112, 117, 116]⟩⟩, .int .i64 1, .string ⟨⟨[103, 111]⟩⟩, .int .i64 1, .string ⟨⟨[115, 101, 110, 100]⟩⟩, .int .i64 1, .string ⟨⟨[114, 101, 99, 118]⟩⟩, .int .i64 2, .string ⟨⟨[97, 99, 113, 117, 105, 114, 101]⟩⟩, .int .i64 1, .string ⟨⟨[114, 101, 108, 101, 97, 115, 101]⟩⟩, .int .i64 1, .string ⟨⟨[100, 114, 97, 119]⟩⟩, .int .i64 2, .string ⟨⟨[110, 111, 119]⟩⟩, .int .i64 1, .string ⟨⟨[115, 108, 101, 101, 112]⟩⟩, .int .i64 1, .string ⟨⟨[119, 114, 105, 116, 101]⟩⟩, .int .i64 1, .string ⟨⟨[114, 101, 97, 100]⟩⟩, .int .i64 2, .string ⟨⟨[101, 110, 100]⟩⟩, .int .i64 0],
 some [.int .i64 (-999), .int .i64 999, .int .i64 0, .int .i64 0, .int .i64 0, .int .i64 3, .int .i64 0, .int .i64 0, .int .i64 0, .int .i64 0, .int .i64 0, .int .i64 0, .int .i64 0, .int .i64 0, .int .i64 (-999), .int .i64 999, .int .i64 0, .int .i64 0, .int .i64 0, .int .i64 0, .int .i64 0, .int .i64 0, .int .i64 0, .int .i64 0, .int .i64 0, .int .i64 0, .int .i64 0, .int .i64 0, .int .i64 0, .int .i64 0, .int .i64 0, .int .i64 0, .int .i64 0, .int .i64 0, .int .i64 0, .int .i64 0, .int .i64 0, .int .i64 0, .int .i64 2, .int .i64 6, .int .i64 0, .int .i64 0, .int .i64 1, .int .i64 9, .int .i64 0, .int .i64 0, .int .i64 0, .int .i64 0, .int .i64 0, .int .i64 0, .int .i64 1, .int .i64 99, .int .i64 0, .int .i64 0, .int .i64 0, .int .i64 0, .int .i64 0, .int .i64 0, .int .i64 0, .int .i64 0, .int .i64 0, .int .i64 0, .int .i64 0, .int .i64 0, .int .i64 0, .int .i64 999, .int .i64 0, .int .i64 0, .int .i64 0, .int .i64 0, .int .i64 0, .int .i64 0, .int .i64 0, .int .i64 0],
 none,
 some [.int .u32 1116352408, .int .u32 1899447441, .int .u32 3049323471, .int .u32 3921009573, .int .u32 961987163, .int .u32 1508970993, .int .u32 2453635748, .int .u32 2870763221, .int .u32 3624381080, .int .u32 310598401, .int .u32 607225278, .int .u32 1426881987, .int .u32 1925078388, .int .u32 2162078206, .int .u32 2614888103, .int .u32 3248222580, .int .u32 3835390401, .int .u32 4022224774, .int .u32 264347078, .int .u32 604807628, .int .u32 770255983, .int .u32 1249150122, .int .u32 1555081692, .int .u32 1996064986, .int .u32 2554220882, .int .u32 2821834349, .int .u32 2952996808, .int .u32 3210313671, .int .u32 3336571891, .int .u32 3584528711, .int .u32 113926993, .int .u32 338241895, .int .u32 666307205, .int .u32 773529912, .int .u32 1294757372, .int .u32 1396182291, .int .u32 1695183700, .int .u32 1986661051, .int .u32 2177026350, .int .u32 2456956037, .int .u32 2730485921, .int .u32 2820302411, .int .u32 3259730800, .int .u32 3345764771, .int .u32 3516065817, .int .u32 3600352804, .int .u32 4094571909, .int .u32 275423344, .int .u32 430227734, .int .u32 506948616, .int .u32 659060556, .int .u32 883997877, .int .u32 958139571, .int .u32 1322822218, .int .u32 1537002063, .int .u32 1747873779, .int .u32 1955562222, .int .u32 2024104815, .int .u32 2227730452, .int .u32 2361852424, .int .u32 2428436474, .int .u32 2756734187, .int .u32 3204031479, .int .u32 3329325298],
 some [.int .u64 1, .int .u64 10, .int .u64 100, .int .u64 1000, .int .u64 10000, .int .u64 100000, .int .u64 1000000, .int .u64 10000000, .int .u64 100000000, .int .u64 1000000000, .int .u64 10000000000, .int .u64 100000000000, .int .u64 1000000000000, .int .u64 10000000000000, .int .u64 100000000000000, .int .u64 1000000000000000, .int .u64 10000000000000000, .int .u64 100000000000000000, .int .u64 1000000000000000000, .int .u64 10000000000000000000],
 some [.string ⟨⟨[60]⟩⟩, .int .i64 1, .string ⟨⟨[60, 61]⟩⟩, .int .i64 1, .string ⟨⟨[61, 61]⟩⟩, .int .i64 1, .string ⟨⟨[43]⟩⟩, .int .i64 2, .string ⟨⟨[45]⟩⟩, .int .i64 2, .string ⟨⟨[42]⟩⟩, .int .i64 3],
 none,
 none,
 some [.int .u8 0, .int .u8 1, .int .u8 28, .int .u8 2, .int .u8 29, .int .u8 14, .int .u8 24, .int .u8 3, .int .u8 30, .int .u8 22, .int .u8 20, .int .u8 15, .int .u8 25, .int .u8 17, .int .u8 4, .int .u8 8, .int .u8 31, .int .u8 27, .int .u8 13, .int .u8 23, .int .u8 21, .int .u8 19, .int .u8 16, .int .u8 7, .int .u8 26, .int .u8 12, .int .u8 18, .int .u8 6, .int .u8 11, .int .u8 5, .int .u8 10, .int .u8 9],
 some [.int .u8 0, .int .u8 1, .int .u8 56, .int .u8 2, .int .u8 57, .int .u8 49, .int .u8 28, .int .u8 3, .int .u8 61, .int .u8 58, .int .u8 42, .int .u8 50, .int .u8 38, .int .u8 29, .int .u8 17, .int .u8 4, .int .u8 62, .int .u8 47, .int .u8 59, .int .u8 36, .int .u8 45, .int .u8 43, .int .u8 51, .int .u8 22, .int .u8 53, .int .u8 39, .int .u8 33, .int .u8 30, .int .u8 24, .int .u8 18, .int .u8 12, .int .u8 5, .int .u8 63, .int .u8 55, .int .u8 48, .int .u8 27, .int .u8 60, .int .u8 41, .int .u8 37, .int .u8 16, .int .u8 46, .int .u8 35, .int .u8 44, .int .u8 21, .int .u8 52, .int .u8 32, .int .u8 23, .int .u8 11, .int .u8 54, .int .u8 26, .int .u8 40, .int .u8 15, .int .u8 34, .int .u8 20, .int .u8 31, .int .u8 10, .int .u8 25, .int .u8 14, .int .u8 19, .int .u8 9, .int .u8 13, .int .u8 8, .int .u8 7, .int .u8 6]]
def gCells (g : Nat) : Option (List Value) := match GD[g]? with | some (some c) => some c | _ => none
theorem gFree : (GD.all fun o => match o with | some c => c.all free0 | none => true) = true := by decide
theorem gCells_free {g : Nat} {c : List Value} (h : gCells g = some c) : c.all free0 = true := by
 unfold gCells at h
 split at h
 ·rename_i c' hg
  cases h
  exact List.all_eq_true.1 gFree _ (List.mem_of_getElem? hg)
 ·cases h
def PM : List (Nat × Nat × List Nat) := [(4, (22, [0, 1, 2, 3, 4, 6, 7, 8, 9, 5, 10, 11, 12, 13, 14])), (10, (34, [0, 1, 2, 3, 5, 6, 4, 7, 8, 9, 10, 11, 12]))]
def PS : List (Nat × Nat × (Nat × Nat × List Nat)) := []
def xKind (f : Nat) : Nat := cond (Nat.beq f 300) 2 0
def xSem : Nat -> Array Value -> Sem Value
 | 1 => Extern.BytealgCompare.compare
 | _ => Extern.BytealgIndexByte.indexByte
end Go.AM
namespace Go.AM
inductive Tr (α : Type) where
 | leaf : Tr α
 | node (v : Option α) (l r : Tr α) : Tr α
def Tr.get {α : Type} : Tr α -> Nat -> Option α
 | .leaf, _ => none
 | .node v l r, i => if i = 0 then v else if i % 2 = 1 then l.get (i / 2) else r.get (i / 2 - 1)
def Tr.setF {α : Type} : Nat -> Tr α -> Nat -> α -> Tr α
 | 0, t, _, _ => t
 | f + 1, .leaf, i, x => if i = 0 then .node (some x) .leaf .leaf else if i % 2 = 1 then .node none (Tr.setF f .leaf (i / 2) x) .leaf else .node none .leaf (Tr.setF f .leaf (i / 2 - 1) x)
 | f + 1, .node v l r, i, x => if i = 0 then .node (some x) l r else if i % 2 = 1 then .node v (Tr.setF f l (i / 2) x) r else .node v l (Tr.setF f r (i / 2 - 1) x)
def Tr.set {α : Type} (t : Tr α) (i : Nat) (x : α) : Tr α := Tr.setF (i + 1) t i x
def Tr.ofList {α : Type} (l : List α) (i : Nat) (t : Tr α) : Tr α :=
 match l with
 | [] => t
 | x :: r => Tr.ofList r (i + 1) (t.set i x)
def quick {α : Type} (P : Program) : Sem α -> Option α
 | .pure a => some a
 | .program k => quick P (k P)
 | .mark _ k => quick P k
 | _ => none
structure ALoop where
 state : LoopState
 pending : Option Code
 e : Tr Value
 sz : Nat
 params : Array Tmp
 assign : Code
 body : Code
inductive AObj where
 | row (data : List Value) (cur low : Nat) (ro : Bool) (n0 : Nat)
 | alias (root lo n : Nat)
 | map (es : List MapEntry) (clock : Nat)
 | loop (r : ALoop)
 | iter (m : Option Nat) (since : Nat) (seen : List Nat) (last : Nat)
def eqE (a b : MapEntry) : Bool := eqV 20 a.key b.key && eqV 20 a.val b.val && Nat.beq a.born b.born
theorem eqE_eq {a b : MapEntry} (h : eqE a b = true) : a = b := by
 obtain ⟨k, v, n⟩ := a; obtain ⟨k', v', n'⟩ := b
 simp only [eqE, Bool.and_eq_true] at h
 have h1 := eqV_eq _ _ _ h.1.1
 have h2 := eqV_eq _ _ _ h.1.2
 have h3 := Nat.eq_of_beq_eq_true h.2
 rw [h1, h2, h3]
def eqO : AObj -> AObj -> Bool
 | .row d c l ro n0, .row d' c' l' ro' n0' => Nat.beq c c' && Nat.beq l l' && (if ro then ro' else !ro') && Nat.beq n0 n0' && eqL (eqV 20) d d'
 | .map es ck, .map es' ck' => Nat.beq ck ck' && eqL eqE es es'
 | .alias r lo n, .alias r' lo' n' => Nat.beq r r' && Nat.beq lo lo' && Nat.beq n n'
 | .iter m s l t, .iter m' s' l' t' => eqN m m' && Nat.beq s s' && eqL Nat.beq l l' && Nat.beq t t'
 | _, _ => false
theorem eqO_eq {a b : AObj} (h : eqO a b = true) : a = b := by
 cases a with
 | row d c l ro n0 =>
  cases b with
  | row d' c' l' ro' n0' =>
   simp only [eqO, Bool.and_eq_true] at h
   obtain ⟨⟨⟨⟨h1, h2⟩, h3⟩, h4⟩, h5⟩ := h
   have : ro = ro' := by cases ro <;> cases ro' <;> first | rfl | cases h3
   rw [Nat.eq_of_beq_eq_true h1, Nat.eq_of_beq_eq_true h2, this, Nat.eq_of_beq_eq_true h4, eqL_eq (eqV_eq 20) h5]
  | _ => cases h
 | map es ck =>
  cases b with
  | map es' ck' =>
   simp only [eqO, Bool.and_eq_true] at h
   rw [Nat.eq_of_beq_eq_true h.1, eqL_eq (fun _ _ => eqE_eq) h.2]
  | _ => cases h
 | alias r lo n =>
  cases b with
  | alias r' lo' n' =>
   simp only [eqO, Bool.and_eq_true] at h
   rw [Nat.eq_of_beq_eq_true h.1.1, Nat.eq_of_beq_eq_true h.1.2, Nat.eq_of_beq_eq_true h.2]
  | _ => cases h
 | iter m s l t =>
  cases b with
  | iter m' s' l' t' =>
   simp only [eqO, Bool.and_eq_true] at h
   obtain ⟨⟨⟨h1, h2⟩, h3⟩, h4⟩ := h
   rw [eqN_eq h1, Nat.eq_of_beq_eq_true h2, eqL_eq (fun _ _ => Nat.eq_of_beq_eq_true) h3, Nat.eq_of_beq_eq_true h4]
  | _ => cases h
 | loop => cases b <;> cases h
def sameO : Option AObj -> Option AObj -> Bool
 | none, none => true
 | some a, some b => eqO a b
 | _, _ => false
theorem sameO_eq {a b : Option AObj} (h : sameO a b = true) : a = b := by
 cases a <;> cases b <;> simp only [sameO] at h <;> first | rfl | (rw [eqO_eq h]) | cases h
structure AH where
 t : Tr AObj
 next : Nat
 wr : Nat
structure Fam where
 root : Nat
 lo : Nat
 n : Nat
 data : List Value
 cur : Nat
 low : Nat
 ro : Bool
def AH.fam (h : AH) (id : Nat) : Option Fam :=
 match h.t.get id with
 | some (.row d c l ro n0) => some ⟨id, 0, n0, d, c, l, ro⟩
 | some (.alias r lo n) =>
  match h.t.get r with
  | some (.row d c l ro _) => some ⟨r, lo, n, d, c, l, ro⟩
  | _ => none
 | _ => none
def BIG : Nat := 4611686018427387904
def lowGo : Nat -> Nat -> Nat -> Nat
 | 0, _, _ => 0
 | f + 1, c, id => if c = 0 then BIG else min (if id < c % 4294967296 / 65536 then c % 65536 else BIG) (lowGo f (c / 4294967296) id)
def lowK : Nat := 4095
def lowAt (low id : Nat) : Nat := if low <= BIG then low else lowGo (lowK + 1) (low - BIG) id
def addT (low s p : Nat) : Nat :=
 if 0 < s /\ s < 65536 /\ p < 65536 /\ BIG <= low then BIG + ((low - BIG) * 4294967296 + (s * 65536 + p)) else if low <= BIG then min low p else 0
theorem lowGo_succ (f c id : Nat) : lowGo (f + 1) c id = if c = 0 then BIG else min (if id < c % 4294967296 / 65536 then c % 65536 else BIG) (lowGo f (c / 4294967296) id) := rfl
theorem lowGo_mono : ∀ (f c id : Nat), lowGo f c id <= lowGo (f + 1) c id
 | 0, c, id => Nat.zero_le _
 | f + 1, c, id => by
  rw [lowGo, lowGo]
  split
  ·exact Nat.le_refl _
  ·have := lowGo_mono f (c / 4294967296) id
   omega
theorem addT_le {low s p id : Nat} (hid : id < s) : lowAt (addT low s p) id <= p /\ lowAt (addT low s p) id <= lowAt low id := by
 unfold addT
 split
 ·rename_i h
  obtain ⟨h1, h2, h3, h4⟩ := h
  have e1 : ((low - BIG) * 4294967296 + (s * 65536 + p)) % 4294967296 = s * 65536 + p := by omega
  have e2 : ((low - BIG) * 4294967296 + (s * 65536 + p)) / 4294967296 = low - BIG := by omega
  have e3 : ((low - BIG) * 4294967296 + (s * 65536 + p)) % 65536 = p := by omega
  have e4 : (s * 65536 + p) / 65536 = s := by rw [Nat.add_comm, Nat.add_mul_div_right _ _ (by decide), Nat.div_eq_of_lt h3, Nat.zero_add]
  have key : lowAt (BIG + ((low - BIG) * 4294967296 + (s * 65536 + p))) id = min p (lowGo lowK (low - BIG) id) := by
   unfold lowAt
   rw [if_neg ow, Nat.add_sub_cancel_left, lowGo_succ, if_neg ow, e1, e2, e3, e4, if_pos hid]
  rw [key]
  refine ⟨Nat.min_le_left _ _, ?_⟩
  have hm := lowGo_mono lowK (low - BIG) id
  unfold lowAt
  split
  ·have : low = BIG := by omega
   rw [this]
   have : p <= BIG := by unfold BIG; omega
   omega
  ·exact Nat.le_trans (Nat.min_le_right _ _) hm
 ·split
  ·rename_i h
   have : lowAt (min low p) id = min low p := if_pos ow
   rw [this]
   unfold lowAt
   rw [if_pos h]
   omega
  ·have : lowAt 0 id = 0 := if_pos (Nat.zero_le _)
   rw [this]
   exact ⟨Nat.zero_le _, Nat.zero_le _⟩
def Fam.rb (f : Fam) (id : Nat) : Nat := if id = f.cur then f.n else min (lowAt f.low id) f.n
def loadC (h : AH) (id off k : Nat) : Option (List Value) :=
 match h.fam id with
 | some f => if f.lo <= off /\ off + k <= f.rb id then some ((f.data.drop off).take k) else none
 | none => none
def oneC : Value -> Bool
 | .agg _ | .tuple _ => false
 | _ => true
def splice (d : List Value) (off : Nat) (vs : List Value) : List Value := d.take off ++ vs ++ d.drop (off + vs.length)
def storeC (h : AH) (id off : Nat) (vs : List Value) : Option AH :=
 match h.fam id with
 | some f =>
  if id = f.cur /\ f.ro = false /\ f.lo <= off /\ off + vs.length <= f.n /\ vs.all oneC = true then
   match h.t.get f.root with
   | some (.row _ _ _ _ n0) =>
    some { h with t := h.t.set f.root (.row (splice f.data off vs) f.cur (if f.cur = f.root then f.low else addT f.low h.next off) false n0), wr := min h.wr f.root }
   | _ => none
  else none
 | none => none
def newRow (h : AH) (cells : List Value) : Value × AH :=
 (.pointer (some ⟨h.next, 0, none⟩), { h with t := h.t.set h.next (.row cells h.next BIG false cells.length), next := h.next + 1 })
def free1 : Value -> Bool
 | .agg cs => cs.toList.all free0
 | v => free0 v
def free : Value -> Bool
 | .tuple vs => vs.toList.all free1
 | v => free1 v
def keep (v : Option Value) : Option Value :=
 match v with
 | some v => if free v then some v else none
 | none => none
def ev (e : Tr Value) : Operand -> Option Value
 | .tmp t => e.get t
 | .const v => if free v then some v else none
 | .global g => match gCells g with | some _ => some (.pointer (some ⟨g, 0, some 0⟩)) | none => none
 | .func f => some (.func (.func f) #[] #[])
def evs (e : Tr Value) : List Operand -> Option (List Value)
 | [] => some []
 | x :: r =>
  match ev e x, evs e r with
  | some v, some vs => some (v :: vs)
  | _, _ => none
def evP (e : Tr Value) : List (Nat × Operand) -> Option (List (Nat × Value))
 | [] => some []
 | (i, x) :: r =>
  match ev e x, evP e r with
  | some v, some vs => some ((i, v) :: vs)
  | _, _ => none
def evO (e : Tr Value) : Option Operand -> Option (Option Value)
 | none => some none
 | some x => (ev e x).map some
def szOf (P : Program) (t : TypeId) : Option Nat := (P.info? t).map (·.size)
def aggOf (P : Program) (t : TypeId) : Option Bool :=
 match P.underlying t with
 | some (.struct _) | some (.array _ _) => some true
 | some _ => some false
 | none => none
def loadG (g off k : Nat) : Option (List Value) :=
 match gCells g with
 | some c => if off + k <= c.length then some ((c.drop off).take k) else none
 | none => none
def loadV (P : Program) (h : AH) (t : TypeId) (p : Value) : Option Value :=
 match p with
 | .pointer (some ⟨id, off, none⟩) =>
  match aggOf P t with
  | some true =>
   match szOf P t with
   | some sz => (loadC h id off sz).map fun cs => .agg ⟨cs⟩
   | none => none
  | some false =>
   match loadC h id off 1 with
   | some [v] => some v
   | _ => none
  | none => none
 | .pointer (some ⟨g, off, some 0⟩) =>
  match aggOf P t with
  | some true =>
   match szOf P t with
   | some sz => (loadG g off sz).map fun cs => .agg ⟨cs⟩
   | none => none
  | some false =>
   match loadG g off 1 with
   | some [v] => some v
   | _ => none
  | none => none
 | _ => none
def storeV (P : Program) (h : AH) (t : TypeId) (p v : Value) : Option AH :=
 match p, szOf P t with
 | .pointer (some ⟨id, off, none⟩), some sz => if v.cells.size = sz then storeC h id off v.cells.toList else none
 | _, _ => none
def fieldAddrV (P : Program) (t : TypeId) (p : Value) (i : Nat) : Option Value :=
 match p, P.underlying t with
 | .pointer (some ⟨id, off, none⟩), some (.struct fs) =>
  match fs[i]? with
  | some f =>
   match szOf P f.type with
   | some (_ + 1) => some (.pointer (some ⟨id, off + f.offset, none⟩))
   | _ => none
  | none => none
 | .pointer (some ⟨id, off, some 0⟩), some (.struct fs) =>
  match fs[i]? with
  | some f =>
   match szOf P f.type with
   | some (_ + 1) => some (.pointer (some ⟨id, off + f.offset, some 0⟩))
   | _ => none
  | none => none
 | _, _ => none
def indexAddrV (P : Program) (t : TypeId) (x i : Value) : Option Value :=
 match i with
 | .int _ n =>
  match P.underlying t, x with
  | some (.array len el), .pointer (some ⟨id, off, none⟩) =>
   match szOf P el with
   | some sz => if 0 <= n /\ n < len then some (.pointer (some ⟨id, off + n.toNat * sz, none⟩)) else none
   | none => none
  | some (.slice el), .slice (some ⟨id, off, none⟩) len _ =>
   match szOf P el with
   | some sz => if 0 <= n /\ n < len then some (.pointer (some ⟨id, off + n.toNat * sz, none⟩)) else none
   | none => none
  | some (.array len el), .pointer (some ⟨id, off, some 0⟩) =>
   match szOf P el with
   | some sz => if 0 <= n /\ n < len then some (.pointer (some ⟨id, off + n.toNat * sz, some 0⟩)) else none
   | none => none
  | some (.slice el), .slice (some ⟨id, off, some 0⟩) len _ =>
   match szOf P el with
   | some sz => if 0 <= n /\ n < len then some (.pointer (some ⟨id, off + n.toNat * sz, some 0⟩)) else none
   | none => none
  | _, _ => none
 | _ => none
def nat? : Option Value -> (d : Nat) -> Option Nat
 | none, d => some d
 | some (.int _ n), _ => if 0 <= n then some n.toNat else none
 | _, _ => none
def spareK (sz len cap : Nat) : Nat := (cap - len - sz) / 4294967296
def spareOk (sz len cap : Nat) : Prop := 0 < sz /\ sz < 4294967296 /\ cap = len + sz + 4294967296 * spareK sz len cap
instance (sz len cap : Nat) : Decidable (spareOk sz len cap) := by unfold spareOk; infer_instance
def sliceG (h : AH) (sz : Nat) (x : Value) (a : Option Addr) (len cap : Nat) (lo hi mx : Option Value) : Option Value :=
 match nat? lo 0, nat? hi len, nat? mx len with
 | some l, some hh, some m =>
  if a.isNone /\ len = 0 /\ cap = 1 then (if l = 0 /\ hh = 0 /\ m = 0 /\ (mx.isSome = true -> hi.isSome = true) then some x else none)
  else if mx.isNone = true /\ len < cap then
   match a with
   | some ⟨id, off, none⟩ =>
    if spareOk sz len cap /\ l <= hh /\ hh <= len + spareK sz len cap then
     some (.slice (some ⟨id, off + l * sz, none⟩) (hh - l) (hh - l + sz + 4294967296 * (len + spareK sz len cap - hh)))
    else none
   | _ => none
  else if l <= hh /\ hh <= m /\ m <= len /\ 0 < sz /\ (mx.isSome = true -> hi.isSome = true) /\ sz < 4294967296 /\ (mx.isSome = true \/ cap = len) then
   match a with
   | none => if cap = 0 /\ len = 0 then some (.slice none 0 0) else none
   | some ⟨id, off, none⟩ =>
    if hh = m then some (.slice (some ⟨id, if m = l then off else off + l * sz, none⟩) (hh - l) (hh - l))
    else if (loadC h id off (len * sz)).isSome = true then some (.slice (some ⟨id, off + l * sz, none⟩) (hh - l) (hh - l + sz + 4294967296 * (m - hh)))
    else none
   | _ => none
  else none
 | _, _, _ => none
def sliceV (P : Program) (h : AH) (t : TypeId) (x : Value) (lo hi mx : Option Value) : Option Value :=
 match P.underlying t, x with
 | some (.slice el), .slice a len cap =>
  match szOf P el with
  | some sz => sliceG h sz x a len cap lo hi mx
  | none => none
 | some (.array n el), .pointer (some ⟨id, off, none⟩) =>
  match szOf P el with
  | some sz => if 0 < n then sliceG h sz x (some ⟨id, off, none⟩) n n lo hi mx else none
  | none => none
 | some (.array n el), .pointer (some ⟨id, off, some 0⟩) =>
  match szOf P el, nat? lo 0, nat? hi n with
  | some sz, some l, some hh => if mx.isNone /\ l < n /\ l <= hh /\ hh <= n then some (.slice (some ⟨id, off + l * sz, some 0⟩) (hh - l) (hh - l)) else none
  | _, _, _ => none
 | _, _ => none
def appendV (P : Program) (h : AH) (t : TypeId) (s : Value) (m : Nat) (news : List Value) : Option (Value × AH) :=
 match P.underlying t, s with
 | some (.slice el), .slice base len cap =>
  match P.info? el with
  | some i =>
   if 0 < i.size /\ news.length = m * i.size /\ 2 * (len + m) * i.bytes <= 281474976710656 /\ len + m < BIG /\ news.all oneC = true /\ i.zero.map (fun z => z.cells.size) = some i.size /\ i.size < 4294967296 then
    if m = 0 then some (s, h) else
    match base with
    | none => if len = 0 /\ cap = 0 then some (.slice (some ⟨h.next, 0, none⟩) m (m + i.size), (newRow h news).2) else none
    | some ⟨id, off, none⟩ =>
     match loadC h id off (len * i.size) with
     | some old =>
      if cap = len then some (.slice (some ⟨h.next, 0, none⟩) (len + m) (len + m + i.size), (newRow h (old ++ news)).2)
      else if spareOk i.size len cap then
       match (if m <= spareK i.size len cap then storeC h id (off + len * i.size) news else none) with
       | some h' => some (.slice (some ⟨id, off, none⟩) (len + m) (len + m + i.size + 4294967296 * (spareK i.size len cap - m)), h')
       | none =>
       match h.fam id with
       | some f =>
        if f.ro then none else
        match h.t.get f.root with
        | some (.row _ _ _ _ n0) =>
         let pos := off + len * i.size
         some (.slice (some ⟨h.next, off, none⟩) (len + m) (len + m + i.size),
          {t := (h.t.set f.root (.row (f.data.take pos ++ news) h.next (if pos < f.data.length then addT f.low h.next pos else f.low) false n0)).set h.next (.alias f.root off (pos + news.length)),
           next := h.next + 1, wr := min h.wr f.root })
        | _ => none
       | none => none
      else none
     | none => none
    | _ => none
   else none
  | none => none
 | _, _ => none
def cellsV (P : Program) (h : AH) (t : TypeId) (x : Value) : Option (Nat × List Value) :=
 match x with
 | .string s => some (s.size, s.data.toList.map fun b => .int .u8 b.toNat)
 | .slice none 0 0 => some (0, [])
 | .slice none 0 1 => some (0, [])
 | .slice (some ⟨id, off, none⟩) len _ =>
  match P.underlying t with
  | some (.slice el) =>
   match szOf P el with
   | some sz => (loadC h id off (len * sz)).map fun cs => (len, cs)
   | none => none
  | _ => none
 | _ => none
def isIntT (P : Program) (t : TypeId) : Bool := match P.underlying t with | some (.int _) => true | some _ => false | none => true
def zerosC (z : List Value) : Nat -> List Value
 | 0 => []
 | n + 1 => z ++ zerosC z n
def findV (P : Program) (kt : TypeId) (k : Value) (es : List MapEntry) : Option (Option (Nat × Value)) :=
 quick P (Instr.findKey kt k es)
def mapOf (h : AH) (m : Value) : Option (List MapEntry) :=
 match m with
 | .map none => some []
 | .map (some r) => match h.t.get r with | some (.map es _) => some es | _ => none
 | _ => none
def lookupV (P : Program) (h : AH) (t : TypeId) (m k : Value) (ok : Bool) : Option Value :=
 match P.underlying t with
 | some (.map kt el) =>
  if free1 k then
   match mapOf h m, (P.info? el).bind (·.zero) with
   | some es, some z =>
    match quick P (Instr.checkKey es.isEmpty 10000 kt k), findV P kt k es with
    | some _, some (some (_, v)) => some (if ok then .tuple #[v, .bool true] else v)
    | some _, some none => if free1 z then some (if ok then .tuple #[z, .bool false] else z) else none
    | _, _ => none
   | _, _ => none
  else none
 | _ => none
def mapUpdateV (P : Program) (h : AH) (t : TypeId) (m k x : Value) : Option AH :=
 match P.underlying t, m with
 | some (.map kt _), .map (some r) =>
  if free1 k then
   match h.t.get r with
   | some (.map es clock) =>
    match quick P (Instr.checkKey false 10000 kt k), findV P kt k es with
    | some _, some (some (i, _)) =>
     match es[i]? with
     | some en =>
      match quick P (Instr.keyThatStays en.key k) with
      | some k' => if free1 k' then some { h with t := h.t.set r (.map (es.modify i fun e => { e with key := k', val := x }) clock), wr := min h.wr r } else none
      | none => none
     | none => none
    | some _, some none => some { h with t := h.t.set r (.map (es ++ [{ key := k, val := x, born := clock }]) (clock + 1)), wr := min h.wr r }
    | _, _ => none
   | _ => none
  else none
 | _, _ => none
def zerosV (P : Program) (t u : TypeId) (x : Value) : Option (Nat × List Value) :=
 match P.underlying u, P.underlying t, x with
 | some (.int _), some (.slice el), .int .i64 n =>
  match P.info? el with
  | some i =>
   match i.zero with
   | some z => if free1 z = true /\ 0 <= n /\ n <= 4611686018427387904 /\ n * i.bytes <= 281474976710656 then some (n.toNat, zerosC z.cells.toList n.toNat) else none
   | none => none
  | none => none
 | _, _, _ => none
def nilEq (P : Program) (t : TypeId) (x y : Value) : Option Bool :=
 match P.underlying t, x, y with
 | some (.slice _), .slice a _ c, .slice none 0 0 => if a.isNone && c != 0 then none else some a.isNone
 | some (.slice _), .slice none 0 0, .slice a _ c => if a.isNone && c != 0 then none else some a.isNone
 | some (.map _ _), .map a, .map none => some a.isNone
 | some (.map _ _), .map none, .map a => some a.isNone
 | some (.pointer _), .pointer a, .pointer none => some a.isNone
 | some (.pointer _), .pointer none, .pointer a => some a.isNone
 | some (.func _ _ _), .func _ _ _, .nilFunc => some false
 | some (.func _ _ _), .nilFunc, .func _ _ _ => some false
 | _, _, _ => none
def binV (P : Program) (op : BinOp) (t : TypeId) (xo yo : Operand) (x y : Value) : Option Value :=
 if free1 x && free1 y then keep (quick P (do eqGuard op t xo yo x y; binOp op t x y))
 else
  match op, nilEq P t x y with
  | .eql, some b => some (.bool b)
  | .neq, some b => some (.bool !b)
  | _, _ => none
def bytesL : List Value -> Option (List UInt8)
 | [] => some []
 | .int .u8 n :: r => match bytesL r with | some l => some (UInt8.ofNat n.toNat :: l) | none => none
 | _ => none
def convV (P : Program) (h : AH) (s d : TypeId) (x : Value) : Option (Value × AH) :=
 match x with
 | .slice a len _ =>
  match P.underlying s, P.underlying d with
  | some (.slice el), some .string =>
   match P.underlying el, a with
   | some (.int .u8), some ⟨id, off, none⟩ =>
    match loadC h id off len with
    | some cs => match bytesL cs with | some l => some (.string ⟨⟨l⟩⟩, h) | none => none
    | none => none
   | some (.int .u8), none => if len = 0 then some (.string .empty, h) else none
   | _, _ => none
  | _, _ => none
 | .string b =>
  match P.underlying s, P.underlying d with
  | some .string, some (.slice el) =>
   match P.underlying el with
   | some (.int .u8) => some (.slice (some ⟨h.next, 0, none⟩) b.size (b.size + 1), (newRow h (b.data.toList.map fun c => .int .u8 c.toNat)).2)
   | _ => none
  | _, _ => (keep (quick P (convert s d (.string b)))).map (·, h)
 | x => if free1 x then (keep (quick P (convert s d x))).map (·, h) else none
def nextL (h : AH) (it : Value) : Option (List (Value × AH)) :=
 match it with
 | .pointer (some ⟨id, 0, none⟩) =>
  match h.t.get id with
  | some (.iter none _ _ _) => some [(.tuple #[.bool false], h)]
  | some (.iter (some m) since seen last) =>
   match h.t.get m with
   | some (.map es clock) =>
    if clock = since /\ last = since /\ es.all (fun e => Nat.blt e.born since) = true then
     match es.filter fun e => !seen.contains e.born with
     | [] => some [(.tuple #[.bool false], h)]
     | l => some (l.map fun e => (.tuple #[.bool true, e.key, e.val], { h with t := h.t.set id (.iter (some m) since (seen ++ [e.born]) clock), wr := min h.wr id }))
    else none
   | _ => none
  | _ => none
 | _ => none
def entryV (h : AH) (it : Value) : Option Value :=
 match it with
 | .pointer (some ⟨id, 0, none⟩) =>
  match h.t.get id with
  | some (.iter (some m) _ seen last) =>
   match h.t.get m, seen.getLast? with
   | some (.map es clock), some stamp =>
    if clock = last then
     match es.find? fun e => e.born == stamp with
     | some e => some (.tuple #[e.key, e.val])
     | none => none
    else none
   | _, _ => none
  | _ => none
 | _ => none
def rangeV (P : Program) (h : AH) (t : TypeId) (x : Value) : Option (Value × AH) :=
 match P.underlying t, x with
 | some (.map _ _), .map none => some (.pointer (some ⟨h.next, 0, none⟩), { h with t := h.t.set h.next (.iter none 0 [] 0), next := h.next + 1 })
 | some (.map _ _), .map (some m) =>
  match h.t.get m with
  | some (.map _ clock) => some (.pointer (some ⟨h.next, 0, none⟩), { h with t := h.t.set h.next (.iter (some m) clock [] clock), next := h.next + 1 })
  | _ => none
 | _, _ => none
def assertV (P : Program) (x : Value) (asserted : TypeId) (ok : Bool) : Option Value :=
 match P.underlying asserted, x with
 | some (.interface _), _ => none
 | some _, .iface t v =>
  if t = asserted then some (if ok then .tuple #[v, .bool true] else v)
  else if ok then
   match (P.info? asserted).bind (·.zero) with
   | some z => if free1 z then some (.tuple #[z, .bool false]) else none
   | none => none
  else none
 | _, _ => none
def extV (P : Program) (f : Fn) (args : List Value) : Option Value :=
 match f with
 | .func f => if xKind f = 0 then none else if args.all free1 then keep (quick P (xSem (xKind f) ⟨args⟩)) else none
 | _ => none
def aop (P : Program) (e : Tr Value) (h : AH) : Op -> Option (Value × AH)
 | .move x | .assign x => (ev e x).map (·, h)
 | .pick c a b =>
  match ev e c with
  | some (.bool q) => (ev e (if q then a else b)).map (·, h)
  | _ => none
 | .alloc t =>
  match (P.info? t).bind (·.zero) with
  | some z => if free1 z then some (newRow h z.cells.toList) else none
  | none => none
 | .box _ x => (ev e x).map fun v => newRow h v.cells.toList
 | .build t parts =>
  match evP e parts.toList, (P.info? t).bind (·.zero) with
  | some ps, some z => if free1 z then (quick P (Instr.build t ⟨ps⟩)).map (·, h) else none
  | _, _ => none
 | .buildSlice t len parts =>
  match evP e parts.toList, P.underlying t with
  | some ps, some (.slice el) =>
   match szOf P el, (P.info? el).bind (·.zero) with
   | some sz, some z =>
    if len * sz <= 16777216 /\ z.cells.size = sz /\ 0 < sz /\ free1 z = true then
     match Instr.fill (fun i => some (i * sz, sz)) ⟨zerosC z.cells.toList len⟩ ps with
     | some cs => some (.slice (some ⟨h.next, 0, none⟩) len len, (newRow h cs.toList).2)
     | none => none
    else none
   | _, _ => none
  | _, _ => none
 | .load t a => match ev e a with | some p => (loadV P h t p).map (·, h) | none => none
 | .store t a x => match ev e a, ev e x with | some p, some v => (storeV P h t p v).map (undef, ·) | _, _ => none
 | .nilCheck x => match ev e x with | some (.pointer (some a)) => some (.pointer (some a), h) | _ => none
 | .binOp op t x y _ => match ev e x, ev e y with | some v, some u => (binV P op t x y v u).map (·, h) | _, _ => none
 | .unOp op _ x => match ev e x with | some v => if free1 v then (keep (quick P (Op.unary op v))).map (·, h) else none | none => none
 | .convert s d x => match ev e x with | some v => convV P h s d v | none => none
 | .sliceToArrayPointer t x =>
  match ev e x, P.underlying t with
  | some (.slice (some ⟨id, off, none⟩) len _), some (.array n _) => if 0 < n /\ n <= len then some (.pointer (some ⟨id, off, none⟩), h) else none
  | _, _ => none
 | .makeInterface t x =>
  match ev e x, P.underlying t with
  | some _, some (.interface _) => none
  | some v, some _ => some (.iface t v, h)
  | _, _ => none
 | .typeAssert x _ t ok => match ev e x with | some v => (assertV P v t ok).map (·, h) | none => none
 | .range t x => match ev e x with | some v => rangeV P h t v | none => none
 | .next it false => match ev e it with | some v => (match nextL h v with | some [r] => some r | _ => none) | none => none
 | .entry it => match ev e it with | some v => (entryV h v).map (·, h) | none => none
 | .makeFunc (.func f) first cap =>
  match evs e first.toList, evs e cap.toList with
  | some a, some b => some (.func (.func f) ⟨a⟩ ⟨b⟩, h)
  | _, _ => none
 | .makeMap _ none => some (.map (some h.next), { h with t := h.t.set h.next (.map [] 0), next := h.next + 1 })
 | .makeSlice t l c =>
  match ev e l, ev e c, P.underlying t with
  | some (.int .i64 n), some (.int .i64 m), some (.slice el) =>
   match P.info? el with
   | some i =>
    match i.zero with
    | some z =>
     if 0 <= n /\ n <= m /\ m < BIG /\ m * i.bytes <= 140737488355328 /\ z.cells.size = i.size /\ 0 < i.size /\ free1 z = true /\ i.size < 4294967296 then
      some (.slice (some ⟨h.next, 0, none⟩) n.toNat (if n = m then n.toNat else n.toNat + i.size), (newRow h (zerosC z.cells.toList m.toNat)).2)
     else none
    | none => none
   | none => none
  | _, _, _ => none
 | .slice t x lo hi mx =>
  match ev e x, evO e lo, evO e hi, evO e mx with
  | some (.string s), some l, some hh, some m => if l.all free1 && hh.all free1 && m.all free1 then (keep (quick P (Instr.sliceAt t (.string s) l hh m))).map (·, h) else none
  | some v, some l, some hh, some m => (sliceV P h t v l hh m).map (·, h)
  | _, _, _, _ => none
 | .fieldAddr t x i => match ev e x with | some p => (fieldAddrV P t p i).map (·, h) | none => none
 | .field t x i => match ev e x with | some v => (quick P (Instr.field t v i)).map (·, h) | none => none
 | .indexAddr t x i => match ev e x, ev e i with | some v, some n => (indexAddrV P t v n).map (·, h) | _, _ => none
 | .index t x i => match ev e x, ev e i with | some v, some n => if free1 v && free1 n then (keep (quick P (Instr.index t v n))).map (·, h) else none | _, _ => none
 | .lookup t m k ok => match ev e m, ev e k with | some v, some u => (lookupV P h t v u ok).map (·, h) | _, _ => none
 | .mapUpdate t m k x | .insert t m k x => match ev e m, ev e k, ev e x with | some v, some u, some y => (mapUpdateV P h t v u y).map (undef, ·) | _, _, _ => none
 | .extract t i => match ev e t with | some v => (quick P (Instr.extract v i)).map (·, h) | none => none
 | _ => none
def lenV (P : Program) (h : AH) (tys : Array TypeId) (ty : TypeId) (x : Value) : Option Value :=
 match tys[0]?, x with
 | some t, .map m =>
  match P.underlying t, mapOf h (.map m) with
  | some (.map _ _), some es => some (goInt es.length)
  | _, _ => none
 | some t, .slice _ n _ =>
  match P.underlying t with
  | some (.slice _) => some (goInt n)
  | _ => none
 | some _, x => if free1 x then keep (quick P (Builtin.len_ tys ty #[x])) else none
 | none, _ => none
def copyV (P : Program) (h : AH) (tys : Array TypeId) (d x : Value) : Option (Value × AH) :=
 match tys[0]?, d with
 | some t, .slice a len _ =>
  match P.underlying t, cellsV P h t x with
  | some (.slice el), some (m, cs) =>
   match szOf P el with
   | some sz =>
    if cs.length = m * sz then
     if min m len = 0 then some (goInt 0, h)
     else match a with
      | some ⟨id, off, none⟩ => (storeC h id off (cs.take (min m len * sz))).map fun h' => (goInt (min m len : Nat), h')
      | _ => none
    else none
   | none => none
  | _, _ => none
 | _, _ => none
def clearV (P : Program) (h : AH) (tys : Array TypeId) (x : Value) : Option (Value × AH) :=
 match tys[0]?, x with
 | some t, .slice a len _ =>
  match P.underlying t with
  | some (.slice el) =>
   if len = 0 then some (undef, h)
   else match (P.info? el).bind (·.zero), a with
    | some z, some ⟨id, off, none⟩ => if free1 z = true /\ 0 < z.cells.size then (storeC h id off (zerosC z.cells.toList len)).map (undef, ·) else none
    | _, _ => none
  | _ => none
 | _, _ => none
def abuiltin (P : Program) (h : AH) (b : Builtin) (tys : Array TypeId) (ty : TypeId) (args : List Value) : Option (Value × AH) :=
 match b, args with
 | .len, [x] => (lenV P h tys ty x).map (·, h)
 | .min, xs => if xs.all free1 then (keep (quick P (Builtin.min_ tys ty ⟨xs⟩))).map (·, h) else none
 | .max, xs => if xs.all free1 then (keep (quick P (Builtin.max_ tys ty ⟨xs⟩))).map (·, h) else none
 | .append, [s, x] =>
  match tys[0]?, tys[1]? with
  | some t, some u =>
   match (if isIntT P u then zerosV P t u x else cellsV P h t x) with
   | some (m, cs) => appendV P h t s m cs
   | none => none
  | _, _ => none
 | .copy, [d, x] => copyV P h tys d x
 | .clear, [x] => clearV P h tys x
 | .cap, [.slice none 0 0] =>
  match tys[0]? with
  | some t =>
   match P.underlying t with
   | some (.slice _) => some (.int .i64 0, h)
   | _ => none
  | none => none
 | _, _ => none
abbrev Call' := Fn -> List Value -> AH -> Option (Value × AH)
def doCall (P : Program) (call : Call') (e : Tr Value) (h : AH) (ty : TypeId) (c : Call) : Option (Value × AH) :=
 match evs e c.args.toList with
 | some args =>
  match c.callee with
  | .builtin b => abuiltin P h b c.argTypes ty args
  | .value f =>
   match ev e f with
   | some (.func f first cap) =>
    match extV P f (first.toList ++ args ++ cap.toList) with
    | some v => some (v, h)
    | none => call f (first.toList ++ args ++ cap.toList) h
   | _ => none
  | .invoke _ _ => none
 | none => none
def doOp (P : Program) (call : Call') (e : Tr Value) (h : AH) (o : Oper) : Option (Value × AH) :=
 match o.op with
 | .call c => doCall P call e h o.type c
 | op => aop P e h op
structure St where
 e : Tr Value
 sz : Nat
 h : AH
def wantedA (ops : Array Oper) (e : Tr Value) (o : Oper) : Option Bool :=
 match o.guard with
 | none => some true
 | some (j, want) =>
  match (ops[j]?).bind (·.dst) with
  | none => some false
  | some t =>
   match e.get t with
   | none => none
   | some (.bool b) => some (b == want)
   | some _ => some false
def putE (e : Tr Value) (sz : Nat) (d : Option Nat) (v : Value) : Option (Tr Value) :=
 match d with
 | none => some e
 | some d => if d < sz then some (e.set d v) else none
def step1 (P : Program) (call : Call') (ops : Array Oper) (o : Oper) (st : St) : Option St :=
 match wantedA ops st.e o with
 | some true =>
  match doOp P call st.e st.h o with
  | some (v, h') => (putE st.e st.sz o.dst v).map fun e' => ⟨e', st.sz, h'⟩
  | none => none
 | some false => (putE st.e st.sz o.dst undef).map fun e' => ⟨e', st.sz, st.h⟩
 | none => none
def runOps (P : Program) (call : Call') (ops : Array Oper) : List Oper -> St -> Option St
 | [], st => some st
 | o :: rest, st =>
  match step1 P call ops o st with
  | some st' => runOps P call ops rest st'
  | none => none
inductive Ex where
 | normal
 | exit (id : Nat)
 | ret
 deriving DecidableEq
def floats : Op -> Bool
 | .move _ | .assign _ | .pick .. | .alloc _ | .box .. | .build .. | .buildSlice .. | .load .. | .nilCheck _ | .binOp .. | .unOp .. | .convert .. | .makeFunc .. | .makeMap ..
 | .makeSlice .. | .slice .. | .fieldAddr .. | .field .. | .indexAddr .. | .index .. | .lookup .. | .extract .. | .sliceToArrayPointer .. | .makeInterface .. | .typeAssert .. => true
 | .call c => match c.callee with | .builtin .len => true | _ => false
 | _ => false
def envOnly : Op -> Bool
 | .alloc _ | .box .. | .buildSlice .. | .makeMap _ none | .makeSlice .. => true
 | _ => false
def rootOf (h : AH) (id : Nat) : Nat := match h.fam id with | some f => f.root | none => id
def readId (e : Tr Value) : Op -> Option Nat
 | .load _ a => match ev e a with | some (.pointer (some ⟨id, _, none⟩)) => some id | _ => none
 | .slice _ a _ _ _ => match ev e a with | some (.slice (some ⟨id, _, none⟩) _ _) => some id | some (.pointer (some ⟨id, _, none⟩)) => some id | _ => none
 | .convert _ _ a => match ev e a with | some (.slice (some ⟨id, _, none⟩) _ _) => some id | _ => none
 | .lookup _ m _ _ => match ev e m with | some (.map r) => r | _ => none
 | .call c => match c.args.toList with | [x] => (match ev e x with | some (.map r) => r | _ => none) | _ => none
 | _ => none
def ordered (b : Array Nat) (i j : Nat) : Bool := (b.getD (max i j) 0).testBit (min i j)
def drawOk (ops : Array Oper) : Bool :=
 let b := Region.before ops
 (List.range ops.size).all fun j =>
  match ops[j]? with
  | none => false
  | some oj =>
   (oj.after.all fun e => !Region.binds .any e || decide (e.on < j)) &&
   (match oj.op with | .select .. => false | _ => true) &&
   (List.range ops.size).all fun i =>
    i == j ||
    match ops[i]? with
    | none => false
    | some oi => ordered b i j || (match oi.dst with | none => true | some d => !(oj.looksAt ops).contains d && oj.dst != some d)
structure Inf where
 still : Bool
 root : Option Nat
 quiet : Bool
 w : Nat
 ids : List Nat
 keep : Nat -> Bool
def Inf.skip : Inf := ⟨true, none, true, BIG, [], fun _ => true⟩
def draw1 (P : Program) (call : Call') (ops : Array Oper) (o : Oper) (st : St) : Option (St × Inf) :=
 match wantedA ops st.e o with
 | some true =>
  match doOp P call st.e { st.h with wr := BIG } o with
  | some (v, h') => (putE st.e st.sz o.dst v).map fun e' =>
   (⟨e', st.sz, { h' with wr := min st.h.wr h'.wr }⟩, ⟨floats o.op && h'.next == st.h.next && (match readId st.e o.op with | none => true | some id => decide (max id (rootOf st.h id) < st.h.next)), (readId st.e o.op).map fun id => max id (rootOf st.h id), decide (st.h.next <= h'.wr), h'.wr, (match readId st.e o.op with | none => if envOnly o.op then [st.h.next] else [] | some id => [id, rootOf st.h id]), fun x => sameO (st.h.t.get x) (h'.t.get x)⟩)
  | none => none
 | some false => (putE st.e st.sz o.dst undef).map fun e' => (⟨e', st.sz, st.h⟩, Inf.skip)
 | none => none
def drawGo (P : Program) (call : Call') (ops : Array Oper) : List Oper -> St -> Option (St × List Inf)
 | [], st => some (st, [])
 | o :: rest, st =>
  match draw1 P call ops o st with
  | some (st', x) =>
   match drawGo P call ops rest st' with
   | some (s, l) => some (s, x :: l)
   | none => none
  | none => none
def least : List Inf -> Nat
 | [] => BIG
 | x :: l => if x.quiet then least l else min x.w (least l)
def stable (w : Nat) (x : Inf) : Bool := x.still && (match x.root with | none => true | some r => decide (r < w))
def tailOk1 (b : Array Nat) (w : Nat) (infs : List Inf) : Bool :=
 (List.range infs.length).all fun j =>
  (infs.take (j + 1)).all (·.quiet) ||
  match infs[j]? with
  | none => false
  | some xj => stable w xj || (List.range j).all fun i => (match infs[i]? with | some xi => stable w xi | none => false) || ordered b i j
def stab (b : Array Nat) (infs : List Inf) (j : Nat) : Bool :=
 match infs[j]? with
 | some x => x.still && x.quiet && (match x.root with
  | none => true
  | some r => (List.range infs.length).all fun i => match infs[i]? with | some y => y.quiet || decide (r < y.w) || (i != j && ordered b i j) || x.ids.all y.keep | none => true)
 | none => false
def firstW (infs : List Inf) : Nat := (infs.takeWhile (·.quiet)).length
def freshI (infs : List Inf) (i : Nat) : Bool :=
 decide (i < firstW infs) && match infs[i]? with
 | some x => !x.still && x.root.isNone && (match x.ids with | [y] => (infs.drop (firstW infs)).all fun z => z.quiet || decide (y < z.w) || z.keep y | _ => false)
 | none => false
def tailOk2 (b : Array Nat) (infs : List Inf) : Bool :=
 (List.range infs.length).all fun j =>
  (infs.take (j + 1)).all (·.quiet) || stab b infs j || (List.range j).all fun i => stab b infs i || ordered b i j || freshI infs i
def tailOk (b : Array Nat) (w : Nat) (infs : List Inf) : Bool := tailOk1 b w infs || tailOk2 b infs
def runDraw (P : Program) (call : Call') (ops : Array Oper) (st : St) : Option St :=
 if drawOk ops then
  match drawGo P call ops ops.toList st with
  | some (s, infs) => if tailOk (Region.before ops) (least infs) infs && decide (s.h.next <= BIG) && decide (st.h.wr <= BIG) then some s else none
  | none => none
 else none
def idxP (l : List Nat) (i : Nat) : Nat := match l.findIdx? (· == i) with | some p => p | none => i + l.length
def renO (l : List Nat) (o : Oper) : Oper := { o with after := o.after.map fun e => { e with on := idxP l e.on }, guard := o.guard.map fun g => (idxP l g.1, g.2) }
def isPerm (l : List Nat) (n : Nat) : Bool :=
 l.length == n && (List.range n).all (fun i => decide (idxP l i < n) && l[idxP l i]? == some i) && (List.range n).all fun p => match l[p]? with | some i => decide (i < n) && idxP l i == p | none => false
def permL (ops : Array Oper) (l : List Nat) : Array Oper := ⟨l.filterMap fun i => (ops[i]?).map (renO l)⟩
def dst0 (ops : Array Oper) : Nat := match ops[0]? with | some o => (match o.dst with | some d => d | none => 0) | none => 0
def permO (id : Nat) (ops : Array Oper) : Array Oper :=
 match PM.find? fun p => Nat.beq p.1 id && Nat.beq p.2.1 (dst0 ops) with
 | some p => if isPerm p.2.2 ops.size && decide ((permL ops p.2.2).size = ops.size) then permL ops p.2.2 else ops
 | none => ops
def runSplit (P : Program) (call : Call') (a b : Nat) (l : List Nat) (ops : Array Oper) (st : St) : Option St := none
def splitO (id : Nat) (ops : Array Oper) : Option (Nat × Nat × List Nat) := (PS.find? fun p => Nat.beq p.1 id && Nat.beq p.2.1 (dst0 ops)).map (·.2.2)
def runAny (P : Program) (call : Call') (id : Nat) (ops : Array Oper) (st : St) : Option St :=
 match splitO id ops with
 | some q => runSplit P call q.1 q.2.1 q.2.2 (permO id ops) st
 | none => runDraw P call (permO id ops) st
def endLoopA (h : AH) (l : Nat) (r : ALoop) : AH := { h with t := h.t.set l (.loop { r with state := .exhausted }), wr := min h.wr l }
def exec (P : Program) (call : Call') (rd : Bool) : Nat -> Code -> St -> Option (Ex × St)
 | 0, _, _ => none
 | n + 1, c, st =>
  match c with
  | .skip => some (.normal, st)
  | .label _ => some (.normal, st)
  | .region id ops d => (if d then runAny P call id ops st else runOps P call ops ops.toList st).map fun s => (.normal, s)
  | .seq a b =>
   match exec P call rd n a st with
   | some (.normal, s) => exec P call rd n b s
   | r => r
  | .cond c x y =>
   match ev st.e c with
   | some (.bool q) => exec P call rd n (if q then x else y) st
   | _ => none
  | .block id b =>
   match exec P call rd n b st with
   | some (.exit i, s) => if i = id then some (.normal, s) else some (.exit i, s)
   | r => r
  | .loop b =>
   match exec P call rd n b st with
   | some (.normal, s) => exec P call rd n (.loop b) s
   | r => r
  | .scope b => exec P call rd n b st
  | .exit id => some (.exit id, st)
  | .ret => some (.ret, st)
  | .rangeFunc g ps assign body =>
   if rd then none else
   match ev st.e g with
   | some (.func (.func f) first cap) =>
    match call (.func f) (first.toList ++ [.func (.yield st.h.next) #[] #[]] ++ cap.toList)
      {st.h with t := st.h.t.set st.h.next (.loop ⟨.ready, none, st.e, st.sz, ps, assign, body⟩), next := st.h.next + 1 } with
    | some (_, h2) =>
     match h2.t.get st.h.next with
     | some (.loop r) =>
      match r.state with
      | .busy => none
      | _ =>
       match r.pending with
       | none => some (.normal, ⟨st.e, st.sz, endLoopA h2 st.h.next r⟩)
       | some c => exec P call rd n c ⟨st.e, st.sz, endLoopA h2 st.h.next r⟩
     | _ => none
    | none => none
   | _ => none
  | _ => none
def resA (P : Program) (st : St) : List ResultVar -> Option (List Value)
 | [] => some []
 | .tmp t :: r =>
  match st.e.get t, resA P st r with
  | some v, some vs => some (v :: vs)
  | _, _ => none
 | .cell a t :: r =>
  match st.e.get a, resA P st r with
  | some p, some vs => (loadV P st.h t p).map (· :: vs)
  | _, _ => none
def one : List Value -> Value
 | [v] => v
 | vs => .tuple ⟨vs⟩
def setPs (sz : Nat) : List Tmp -> List Value -> Tr Value -> Option (Tr Value)
 | [], [], e => some e
 | t :: ts, v :: vs, e => if t < sz then setPs sz ts vs (e.set t v) else none
 | _, _, _ => none
def Ex.jump : Ex -> Option Code
 | .normal => none
 | .exit i => some (.exit i)
 | .ret => some .ret
def busyA (h : AH) (l : Nat) (r : ALoop) : AH := { h with t := h.t.set l (.loop { r with state := .busy }), wr := min h.wr l }
def roundA (h : AH) (l : Nat) (r : ALoop) (j : Option Code) : AH := { h with t := h.t.set l (.loop { r with state := if j.isNone then .ready else .done, pending := j }), wr := min h.wr l }
end Go.AM
namespace Go.AM
section trees
variable {α : Type}
theorem Tr.get_setF : ∀ (f : Nat) (t : Tr α) (i : Nat) (x : α) (j : Nat), i < f -> (Tr.setF f t i x).get j = if j = i then some x else t.get j
 | 0, _, i, _, _, h => absurd h (Nat.not_lt_zero i)
 | f + 1, .leaf, i, x, j, h => by
  unfold Tr.setF
  by_cases h0 : i = 0
  ·subst h0
   simp only [if_true, Tr.get]
   by_cases hj : j = 0
   ·simp [hj]
   ·by_cases h1 : j % 2 = 1 <;> simp [hj, h1]
  ·by_cases h1 : i % 2 = 1
   ·simp only [h0, h1, if_true, if_false, Tr.get]
    have ih := Tr.get_setF f (.leaf) (i / 2) x (j / 2) ow
    by_cases hj : j = 0
    ·simp [hj]; omega
    ·by_cases hj1 : j % 2 = 1
     ·simp only [hj, hj1, if_true, if_false, ih]
      by_cases he : j = i
      ·simp [he]
      ·have : j / 2 ≠ i / 2 := by omega
       simp [he, this, Tr.get]
     ·have : j ≠ i := by rintro rfl; omega
      simp [hj, hj1, this]
   ·simp only [h0, h1, if_false, Tr.get]
    have ih := Tr.get_setF f (.leaf) (i / 2 - 1) x (j / 2 - 1) ow
    by_cases hj : j = 0
    ·simp [hj]; omega
    ·by_cases hj1 : j % 2 = 1
     ·have : j ≠ i := by rintro rfl; omega
      simp [hj, hj1, this]
     ·simp only [hj, hj1, if_false, ih]
      by_cases he : j = i
      ·simp [he]
      ·have : j / 2 - 1 ≠ i / 2 - 1 := by omega
       simp [he, this, Tr.get]
 | f + 1, .node v l r, i, x, j, h => by
  unfold Tr.setF
  by_cases h0 : i = 0
  ·subst h0
   simp only [if_true, Tr.get]
   by_cases hj : j = 0 <;> simp [hj]
  ·by_cases h1 : i % 2 = 1
   ·simp only [h0, h1, if_true, if_false, Tr.get]
    have ih := Tr.get_setF f l (i / 2) x (j / 2) ow
    by_cases hj : j = 0
    ·simp [hj]; omega
    ·by_cases hj1 : j % 2 = 1
     ·simp only [hj, hj1, if_true, if_false, ih]
      by_cases he : j = i
      ·simp [he]
      ·have : j / 2 ≠ i / 2 := by omega
       simp [he, this]
     ·have : j ≠ i := by rintro rfl; omega
      simp [hj, hj1, this]
   ·simp only [h0, h1, if_false, Tr.get]
    have ih := Tr.get_setF f r (i / 2 - 1) x (j / 2 - 1) ow
    by_cases hj : j = 0
    ·simp [hj]; omega
    ·by_cases hj1 : j % 2 = 1
     ·have : j ≠ i := by rintro rfl; omega
      simp [hj, hj1, this]
     ·simp only [hj, hj1, if_false, ih]
      by_cases he : j = i
      ·simp [he]
      ·have : j / 2 - 1 ≠ i / 2 - 1 := by omega
       simp [he, this]
theorem Tr.get_set (t : Tr α) (i : Nat) (x : α) (j : Nat) : (t.set i x).get j = if j = i then some x else t.get j := Tr.get_setF _ _ _ _ _ ow
theorem Tr.get_set_eq (t : Tr α) (i : Nat) (x : α) : (t.set i x).get i = some x := by rw [Tr.get_set, if_pos rfl]
theorem Tr.get_set_ne (t : Tr α) {i j : Nat} (x : α) (h : j ≠ i) : (t.set i x).get j = t.get j := by rw [Tr.get_set, if_neg h]
theorem Tr.get_ofList : ∀ (l : List α) (i : Nat) (t : Tr α) (j : Nat), (Tr.ofList l i t).get j = if i <= j /\ j < i + l.length then l[j - i]? else t.get j
 | [], i, t, j => by
  have : ¬ (i <= j /\ j < i + ([] : List α).length) := by simp only [List.length_nil]; omega
  rw [if_neg this]; rfl
 | x :: r, i, t, j => by
  rw [Tr.ofList, Tr.get_ofList r (i + 1) _ j, Tr.get_set]
  by_cases hj : j = i
  ·subst hj
   have h1 : ¬ (j + 1 <= j /\ j < j + 1 + r.length) := by omega
   have h2 : j <= j /\ j < j + (x :: r).length := by simp
   rw [if_neg h1, if_pos rfl, if_pos h2]
   simp
  ·by_cases h1 : i + 1 <= j /\ j < i + 1 + r.length
   ·have h2 : i <= j /\ j < i + (x :: r).length := by simp; omega
    rw [if_pos h1, if_pos h2]
    have : j - i = (j - (i + 1)) + 1 := by omega
    rw [this]
    simp
   ·have h2 : ¬ (i <= j /\ j < i + (x :: r).length) := by simp; omega
    rw [if_neg h1, if_neg h2, if_neg hj]
end trees
theorem quick_run {α : Type} {P : Program} {s : Sem α} {a : α} : quick P s = some a -> ∀ w, s.run P w = .ok a w := by
 induction s with
 | pure b => intro h w; simp only [quick, Option.some.injEq] at h; subst h; rfl
 | program k ih => intro h w; exact ih P h w
 | mark m k ih => intro h w; exact ih h w
 | load => intro h; cases h
 | store => intro h; cases h
 | new => intro h; cases h
 | shape => intro h; cases h
 | freeze => intro h; cases h
 | frozen => intro h; cases h
 | getObj => intro h; cases h
 | setObj => intro h; cases h
 | choose => intro h; cases h
 | sys => intro h; cases h
 | halt => intro h; cases h
theorem quick_bind {α β : Type} {P : Program} {s : Sem α} {f : α -> Sem β} : quick P (s >>= f) = (quick P s).bind fun a => quick P (f a) := by
 show quick P (Sem.bind s f) = _
 induction s with
 | pure b => rfl
 | program k ih => exact ih P
 | mark m k ih => exact ih
 | _ => rfl
structure Bx where
 g : Nat
 s : Nat
 lo : Nat
 z : Nat
abbrev Ren := Nat -> Option Bx
def CapR (x : Bx) (off len cap cap' : Nat) : Prop :=
 (cap = len /\ cap' = len) \/ ∃ e k, 0 < e /\ e < 4294967296 /\ cap = len + e + 4294967296 * k /\ len + k <= cap' /\ x.s + (off - x.lo) + cap' * e <= x.z
def Bx.at_ (x : Bx) (off : Nat) : Addr := ⟨x.g, x.s + (off - x.lo), none⟩
inductive VR (β : Ren) : Value -> Value -> Prop where
 | free (v : Value) : free0 v = true -> VR β v v
 | ptr {id off : Nat} {x : Bx} : β id = some x -> x.lo <= off -> VR β (.pointer (some ⟨id, off, none⟩)) (.pointer (some (x.at_ off)))
 | slice {id off len cap cap' : Nat} {x : Bx} {a' : Addr} : β id = some x -> x.lo <= off -> CapR x off len cap cap' -> (cap' = 0 \/ a' = x.at_ off) →
   VR β (.slice (some ⟨id, off, none⟩) len cap) (.slice (some a') len cap')
 | empty {a' : Option Addr} {c' : Nat} : VR β (.slice none 0 1) (.slice a' 0 c')
 | gptr {g off : Nat} : VR β (.pointer (some ⟨g, off, some 0⟩)) (.pointer (some ⟨g, off, none⟩))
 | gsl {g off len cap cap' : Nat} : len <= cap' -> VR β (.slice (some ⟨g, off, some 0⟩) len cap) (.slice (some ⟨g, off, none⟩) len cap')
 | map {id : Nat} {x : Bx} : β id = some x -> VR β (.map (some id)) (.map (some x.g))
 | func {f : FuncId} {a a' c c' : Array Value} : a.size = a'.size -> (∀ (i : Nat) (v v' : Value), a[i]? = some v -> a'[i]? = some v' -> VR β v v') →
   c.size = c'.size -> (∀ (i : Nat) (v v' : Value), c[i]? = some v -> c'[i]? = some v' -> VR β v v') -> VR β (.func (.func f) a c) (.func (.func f) a' c')
 | yield {id : Nat} {x : Bx} : β id = some x -> VR β (.func (.yield id) #[] #[]) (.func (.yield x.g) #[] #[])
 | iface {t : TypeId} {v v' : Value} : VR β v v' -> VR β (.iface t v) (.iface t v')
 | agg {a a' : Array Value} : a.size = a'.size -> (∀ (i : Nat) (v v' : Value), a[i]? = some v -> a'[i]? = some v' -> VR β v v') -> VR β (.agg a) (.agg a')
 | tuple {a a' : Array Value} : a.size = a'.size -> (∀ (i : Nat) (v v' : Value), a[i]? = some v -> a'[i]? = some v' -> VR β v v') -> VR β (.tuple a) (.tuple a')
def VRl (β : Ren) (l l' : List Value) : Prop := l.length = l'.length /\ ∀ (i : Nat) (v v' : Value), l[i]? = some v -> l'[i]? = some v' -> VR β v v'
def Sub (β β' : Ren) : Prop := ∀ id x, β id = some x -> β' id = some x
theorem Sub.refl (β : Ren) : Sub β β := fun _ _ h => h
theorem Sub.trans {a b c : Ren} (h : Sub a b) (k : Sub b c) : Sub a c := fun _ _ e => k _ _ (h _ _ e)
theorem VR.mono {β β' : Ren} (hs : Sub β β') {v v' : Value} (h : VR β v v') : VR β' v v' := by
 induction h with
 | free v hv => exact .free v hv
 | ptr hb hl => exact .ptr (hs _ _ hb) hl
 | slice hb hl hc ha => exact .slice (hs _ _ hb) hl hc ha
 | empty => exact .empty
 | gptr => exact .gptr
 | gsl h => exact .gsl h
 | map hb => exact .map (hs _ _ hb)
 | yield hb => exact .yield (hs _ _ hb)
 | func h1 _ h2 _ ih1 ih2 => exact .func h1 ih1 h2 ih2
 | iface _ ih => exact .iface ih
 | agg h1 _ ih => exact .agg h1 ih
 | tuple h1 _ ih => exact .tuple h1 ih
theorem VRl.mono {β β' : Ren} (hs : Sub β β') {l l' : List Value} (h : VRl β l l') : VRl β' l l' := ⟨h.1, fun i v v' a b => (h.2 i v v' a b).mono hs⟩
theorem arr_free {a : Array Value} {p : Value -> Bool} (h : a.toList.all p = true) {i : Nat} {v : Value} (hi : a[i]? = some v) : p v = true := by
 rw [List.all_eq_true] at h
 exact h v (Array.mem_toList_iff.2 (Array.mem_of_getElem? hi))
theorem VR.of_free1 {β : Ren} {v : Value} (h : free1 v = true) : VR β v v := by
 cases v with
 | agg cs =>
  refine .agg rfl fun i v v' h1 h2 => ?_
  rw [h1] at h2; cases h2
  exact .free _ (arr_free (p := free0) h h1)
 | _ => exact .free _ h
theorem VR.of_free {β : Ren} {v : Value} (h : AM.free v = true) : VR β v v := by
 cases v with
 | tuple cs =>
  refine .tuple rfl fun i v v' h1 h2 => ?_
  rw [h1] at h2; cases h2
  exact .of_free1 (arr_free (p := free1) h h1)
 | _ => exact .of_free1 h
theorem VR.free0_eq {β : Ren} {v v' : Value} (h : VR β v v') (hf : free0 v = true) : v' = v := by
 cases h <;> first | rfl | (simp [free0] at hf)
theorem arr_eq {a a' : Array Value} (h1 : a.size = a'.size) (h2 : ∀ (i : Nat) (v v' : Value), a[i]? = some v -> a'[i]? = some v' -> v' = v) : a' = a := by
 refine Array.ext_getElem? fun i => ?_
 by_cases hi : i < a.size
 ·have e1 : a[i]? = some a[i] := Array.getElem?_eq_getElem hi
  have e2 : a'[i]? = some (a'[i]'ow) := Array.getElem?_eq_getElem ow
  rw [e1, e2, h2 i _ _ e1 e2]
 ·rw [Array.getElem?_eq_none ow, Array.getElem?_eq_none ow]
theorem VR.free1_eq {β : Ren} {v v' : Value} (h : VR β v v') (hf : free1 v = true) : v' = v := by
 cases h with
 | agg h1 h2 => rw [arr_eq h1 fun i v v' a b => (h2 i v v' a b).free0_eq (arr_free (p := free0) hf a)]
 | free v hv => rfl
 | _ => simp [free1, free0] at hf
theorem VRl.nil {β : Ren} : VRl β [] [] := ⟨rfl, fun i v v' h => by simp at h⟩
theorem VRl.cons {β : Ren} {v v' : Value} {l l' : List Value} (h : VR β v v') (k : VRl β l l') : VRl β (v :: l) (v' :: l') := by
 refine ⟨by simp [k.1], fun i u u' h1 h2 => ?_⟩
 cases i with
 | zero => simp at h1 h2; subst h1; subst h2; exact h
 | succ i => exact k.2 i u u' (by simpa using h1) (by simpa using h2)
theorem VRl.append {β : Ren} {l l' m m' : List Value} (h : VRl β l l') (k : VRl β m m') : VRl β (l ++ m) (l' ++ m') := by
 refine ⟨by simp [h.1, k.1], fun i u u' h1 h2 => ?_⟩
 by_cases hi : i < l.length
 ·rw [List.getElem?_append_left hi] at h1
  rw [List.getElem?_append_left (by rw [<-h.1]; exact hi)] at h2
  exact h.2 i u u' h1 h2
 ·rw [List.getElem?_append_right ow] at h1
  rw [List.getElem?_append_right (by rw [<-h.1]; omega)] at h2
  rw [<-h.1] at h2
  exact k.2 _ u u' h1 h2
theorem VRl.take {β : Ren} {l l' : List Value} (h : VRl β l l') (n : Nat) : VRl β (l.take n) (l'.take n) := by
 refine ⟨by simp [h.1], fun i u u' h1 h2 => ?_⟩
 by_cases hi : i < n
 ·rw [List.getElem?_take_of_lt hi] at h1 h2
  exact h.2 i u u' h1 h2
 ·rw [List.getElem?_eq_none (by simp; omega)] at h1
  cases h1
theorem VRl.free {β : Ren} : ∀ {l : List Value}, l.all free1 = true -> VRl β l l
 | [], _ => .nil
 | v :: l, h => by
  simp only [List.all_cons, Bool.and_eq_true] at h
  exact .cons (.of_free1 h.1) (VRl.free h.2)
theorem VRl.free_eq {β : Ren} : ∀ {l l' : List Value}, VRl β l l' -> l.all free1 = true -> l' = l
 | [], [], _, _ => rfl
 | [], _ :: _, h, _ => by have := h.1; simp at this
 | _ :: _, [], h, _ => by have := h.1; simp at this
 | v :: l, v' :: l', h, hf => by
  simp only [List.all_cons, Bool.and_eq_true] at hf
  have h0 : v' = v := (h.2 0 v v' rfl rfl).free1_eq hf.1
  have h1 : l' = l := VRl.free_eq (β := β) ⟨by have := h.1; simpa using this, fun i u u' a b => h.2 (i + 1) u u' (by simpa using a) (by simpa using b)⟩ hf.2
  rw [h0, h1]
theorem VR.cells {β : Ren} {v v' : Value} (h : VR β v v') : VRl β v.cells.toList v'.cells.toList := by
 cases h with
 | agg h1 h2 => exact ⟨by simpa [Value.cells] using h1, fun i u u' a b => h2 i u u' (by simpa [Value.cells] using a) (by simpa [Value.cells] using b)⟩
 | free v hv =>
  cases v with
  | agg cs => simp [free0] at hv
  | _ => exact .cons (.free _ hv) .nil
 | ptr a b => exact .cons (.ptr a b) .nil
 | slice a b c d => exact .cons (.slice a b c d) .nil
 | empty => exact .cons .empty .nil
 | gptr => exact .cons .gptr .nil
 | gsl h => exact .cons (.gsl h) .nil
 | map a => exact .cons (.map a) .nil
 | yield a => exact .cons (.yield a) .nil
 | func a b c d => exact .cons (.func a b c d) .nil
 | iface a => exact .cons (.iface a) .nil
 | tuple a b => exact .cons (.tuple a b) .nil
theorem VRl.toArr {β : Ren} {l l' : List Value} (h : VRl β l l') : VR β (.agg ⟨l⟩) (.agg ⟨l'⟩) :=
 .agg (by simpa using h.1) fun i v v' a b => h.2 i v v' (by simpa using a) (by simpa using b)
theorem VRl.toTup {β : Ren} {l l' : List Value} (h : VRl β l l') : VR β (.tuple ⟨l⟩) (.tuple ⟨l'⟩) :=
 .tuple (by simpa using h.1) fun i v v' a b => h.2 i v v' (by simpa using a) (by simpa using b)
def EnvW (β : Ren) (e : Tr Value) (tmps : Array Value) : Prop := ∀ t v, e.get t = some v -> ∃ v', tmps[t]? = some v' /\ VR β v v'
theorem EnvW.mono {β β' : Ren} (hs : Sub β β') {e : Tr Value} {tmps : Array Value} (h : EnvW β e tmps) : EnvW β' e tmps := fun t v hv => let ⟨v', a, b⟩ := h t v hv; ⟨v', a, b.mono hs⟩
theorem EnvW.set {β : Ren} {e : Tr Value} {tmps : Array Value} (h : EnvW β e tmps) {d : Nat} {v v' : Value} (hd : d < tmps.size) (hv : VR β v v') : EnvW β (e.set d v) (tmps.setIfInBounds d v') := by
 intro t u hu
 rw [Tr.get_set] at hu
 by_cases hq : t = d
 ·subst hq
  rw [if_pos rfl] at hu
  cases hu
  exact ⟨v', Array.getElem?_setIfInBounds_self_of_lt hd, hv⟩
 ·rw [if_neg hq] at hu
  rw [Array.getElem?_setIfInBounds_ne (Ne.symm hq)]
  exact h t u hu
structure LoopR (β : Ren) (r : ALoop) (r' : Loop) : Prop where
 state : r'.state = r.state
 pending : r'.pending = r.pending
 env : EnvW β r.e r'.tmps
 sz : r'.tmps.size = r.sz
 params : r'.params = r.params
 assign : r'.assign = r.assign
 body : r'.body = r.body
theorem LoopR.mono {β β' : Ren} (hs : Sub β β') {r : ALoop} {r' : Loop} (h : LoopR β r r') : LoopR β' r r' := { h with env := h.env.mono hs }
theorem VR.oneC {β : Ren} {v v' : Value} (h : VR β v v') : AM.oneC v' = AM.oneC v := by
 cases h <;> rfl
end Go.AM
namespace Go.AM
def NoFrz (fz : Nat × Nat) (n : Nat) : Prop := ∀ p, p < n -> ¬ (fz.1 <= p /\ p < fz.2)
structure RowR (β : Ren) (w : World) (id : Nat) (x : Bx) (f : Fam) : Prop where
 lo : x.lo = f.lo
 ex : ∃ c el fz, w.heap[x.g]? = some (.cells c el fz) /\ c.size = x.z ∧
  (∀ p v, f.lo <= p -> p < f.rb id -> f.data[p]? = some v -> ∃ v', c[x.s + (p - x.lo)]? = some v' /\ VR β v v') ∧
  (f.ro = false -> NoFrz fz c.size /\ x.s + (f.n - f.lo) <= x.z)
structure EntR (β : Ren) (a b : MapEntry) : Prop where
 key : b.key = a.key
 fk : free1 a.key = true
 val : VR β a.val b.val
 born : b.born = a.born
def EsR (β : Ren) (l l' : List MapEntry) : Prop := l.length = l'.length /\ ∀ (i : Nat) (a b : MapEntry), l[i]? = some a -> l'[i]? = some b -> EntR β a b
def IterR (β : Ren) : Option Nat -> Option Nat -> Prop
 | none, none => True
 | some m, some m' => ∃ x, β m = some x /\ x.g = m'
 | _, _ => False
theorem IterR.mono {β β' : Ren} (hs : Sub β β') : ∀ {m m' : Option Nat}, IterR β m m' -> IterR β' m m'
 | none, none, _ => trivial
 | some _, some _, ⟨x, h1, h2⟩ => ⟨x, hs _ _ h1, h2⟩
 | none, some _, h => h
 | some _, none, h => h
def roOf (h : AH) (id : Nat) : Bool := match h.fam id with | some f => f.ro | none => false
structure More (β : Ren) (h : AH) (w : World) : Prop where
 iter : ∀ id x m s e l, β id = some x -> h.t.get id = some (.iter m s e l) -> x.s = 0 /\ ∃ m', w.heap[x.g]? = some (.mapIter m' s ⟨e⟩ l) /\ IterR β m m'
 glob : ∀ g c, gCells g = some c -> ∃ el fz, w.heap[g]? = some (.cells ⟨c⟩ el fz)
 apart : ∀ id x, β id = some x -> (gCells x.g).isSome = true -> roOf h id = true
structure HR (β : Ren) (h : AH) (w : World) : Prop where
 dom : ∀ id x, β id = some x -> id < h.next /\ x.g < w.heap.size
 row : ∀ id x f, β id = some x -> h.fam id = some f -> RowR β w id x f
 map : ∀ id x es ck, β id = some x -> h.t.get id = some (.map es ck) -> ∃ es' : Array MapEntry, w.heap[x.g]? = some (.map es' ck) /\ EsR β es es'.toList
 loop : ∀ id x r, β id = some x -> h.t.get id = some (.loop r) -> ∃ r', w.heap[x.g]? = some (.loop r') /\ LoopR β r r'
 disj : ∀ id id' x x', β id = some x -> β id' = some x' -> x.g = x'.g -> id = id' ∨
  ∃ f f', h.fam id = some f /\ h.fam id' = some f' /\ ((f.root = f'.root /\ x.s + x'.lo = x'.s + x.lo) \/ (f.ro = true /\ f'.ro = true))
 more : More β h w
theorem More.glob_lt {β : Ren} {h : AH} {w : World} (m : More β h w) {g : Nat} (hg : (gCells g).isSome = true) : g < w.heap.size := by
 obtain ⟨c, hc⟩ := Option.isSome_iff_exists.1 hg
 obtain ⟨el, fz, h1⟩ := m.glob g c hc
 exact (Array.getElem?_eq_some_iff.1 h1).1
theorem More.step {β : Ren} {h h' : AH} {w w' : World} (k : More β h w)
  (h1 : ∀ id x m s e l, β id = some x -> h'.t.get id = some (.iter m s e l) -> h.t.get id = some (.iter m s e l) /\ w'.heap[x.g]? = w.heap[x.g]?)
  (h2 : ∀ g, (gCells g).isSome = true -> w'.heap[g]? = w.heap[g]?) (h3 : ∀ id x, β id = some x -> roOf h' id = roOf h id) : More β h' w' where
 iter := fun id x m s e l a b => by
  obtain ⟨c, d⟩ := h1 id x m s e l a b
  rw [d]; exact k.iter id x m s e l a c
 glob := fun g c a => by rw [h2 g (by rw [a]; rfl)]; exact k.glob g c a
 apart := fun id x a b => by rw [h3 id x a]; exact k.apart id x a b
theorem fam_not_iter {h : AH} {id : Nat} {f : Fam} {m : Option Nat} {s l : Nat} {e : List Nat} (hf : h.fam id = some f) (hm : h.t.get id = some (.iter m s e l)) : False := by
 unfold AH.fam at hf
 rw [hm] at hf
 cases hf
theorem roOf_some {h : AH} {id : Nat} {f : Fam} (hf : h.fam id = some f) : roOf h id = f.ro := by unfold roOf; rw [hf]
theorem roOf_none {h : AH} {id : Nat} (hf : h.fam id = none) : roOf h id = false := by unfold roOf; rw [hf]
structure Wf (h : AH) : Prop where
 lt : ∀ id o, h.t.get id = some o -> id < h.next
 lon : ∀ id f, h.fam id = some f -> f.lo <= f.n
 curn : ∀ id f, h.fam id = some f -> id = f.cur -> f.n = f.data.length
 stale : ∀ id f, h.fam id = some f -> id ≠ f.cur -> min (lowAt f.low id) f.n <= f.data.length
 cur : ∀ id f, h.fam id = some f -> f.cur < h.next
 ali : ∀ id r lo n, h.t.get id = some (.alias r lo n) -> ∃ d c l ro n0, h.t.get r = some (.row d c l ro n0) /\ c ≠ r
theorem fam_root {h : AH} {id : Nat} {f : Fam} (hf : h.fam id = some f) : ∃ n0, h.t.get f.root = some (.row f.data f.cur f.low f.ro n0) := by
 unfold AH.fam at hf
 split at hf
 ·rename_i d c l ro n0 hg
  cases hf
  exact ⟨n0, hg⟩
 ·rename_i r lo n hg
  split at hf
  ·rename_i d c l ro n0 hg'
   cases hf
   exact ⟨n0, hg'⟩
  ·cases hf
 ·cases hf
theorem fam_lt {h : AH} (hw : Wf h) {id : Nat} {f : Fam} (hf : h.fam id = some f) : id < h.next := by
 unfold AH.fam at hf
 split at hf <;> first | exact hw.lt _ _ ‹_› | cases hf
theorem fam_not_map {h : AH} {id : Nat} {f : Fam} {es : List MapEntry} {ck : Nat} (hf : h.fam id = some f) (hm : h.t.get id = some (.map es ck)) : False := by
 unfold AH.fam at hf
 rw [hm] at hf
 cases hf
theorem fam_not_loop {h : AH} {id : Nat} {f : Fam} {r : ALoop} (hf : h.fam id = some f) (hm : h.t.get id = some (.loop r)) : False := by
 unfold AH.fam at hf
 rw [hm] at hf
 cases hf
theorem rootOf_eq {h : AH} {id : Nat} {f : Fam} (hf : h.fam id = some f) : rootOf h id = f.root := by unfold rootOf; rw [hf]
structure EvoN (β : Ren) (h : AH) (w : World) (β' : Ren) (h' : AH) (w' : World) : Prop where
 sub : Sub β β'
 new : ∀ id x, β' id = some x -> β id = none -> h.next <= id
 blk : ∀ id x, β' id = some x -> β id = none -> w.heap.size <= x.g \/ ∃ id0 x0, β id0 = some x0 /\ x0.g = x.g /\ h'.wr <= rootOf h id0 /\ roOf h id0 = false
 size : w.heap.size <= w'.heap.size
 os : w'.os = w.os
 tape : w'.tape = w.tape
 output : w'.output = w.output
 frame : ∀ b, b < w.heap.size -> w'.heap[b]? = w.heap[b]? \/ ∃ id x, β id = some x /\ x.g = b /\ h'.wr <= rootOf h id /\ roOf h id = false
 next : h.next <= h'.next
 wr : h'.wr <= h.wr
 root : ∀ id, id < h.next -> rootOf h' id = rootOf h id
 ro : ∀ id, id < h.next -> roOf h' id = roOf h id
 objs : ∀ id, id < h.next -> id < h'.wr -> h'.t.get id = h.t.get id
structure Evo (β : Ren) (h : AH) (w : World) (β' : Ren) (h' : AH) (w' : World) : Prop extends EvoN β h w β' h' w' where
 all : ∀ id, h.next <= id -> id < h'.next -> (β' id).isSome = true
theorem Evo.refl (β : Ren) (h : AH) (w : World) : Evo β h w β h w where
 sub := .refl _
 new := fun id x a b => by rw [a] at b; cases b
 all := fun id a b => by omega
 blk := fun id x a b => by rw [a] at b; cases b
 size := Nat.le_refl _
 os := rfl
 tape := rfl
 output := rfl
 frame := fun _ _ => .inl rfl
 next := Nat.le_refl _
 wr := Nat.le_refl _
 root := fun _ _ => rfl
 ro := fun _ _ => rfl
 objs := fun _ _ _ => rfl
theorem EvoN.trans {β β' β'' : Ren} {h h' h'' : AH} {w w' w'' : World} (hr : HR β h w) (a : EvoN β h w β' h' w') (b : EvoN β' h' w' β'' h'' w'') : EvoN β h w β'' h'' w'' where
 sub := a.sub.trans b.sub
 new := fun id x h1 h2 => by
  cases h3 : β' id with
  | none => exact Nat.le_trans a.next (b.new id x h1 h3)
  | some y => exact a.new id y h3 h2
 blk := fun id x h1 h2 => by
  cases h3 : β' id with
  | some y =>
   have := b.sub _ _ h3
   rw [h1] at this
   cases this
   rcases a.blk id x h3 h2 with h4 | ⟨id0, x0, k1, k2, k3, k4⟩
   ·exact .inl h4
   ·exact .inr ⟨id0, x0, k1, k2, Nat.le_trans b.wr k3, k4⟩
  | none =>
   rcases b.blk id x h1 h3 with h4 | ⟨id0, x0, k1, k2, k3, k4⟩
   ·exact .inl (Nat.le_trans a.size h4)
   ·cases h5 : β id0 with
    | some y =>
     have := a.sub _ _ h5
     rw [k1] at this
     cases this
     have hl := (hr.dom _ _ h5).1
     exact .inr ⟨id0, x0, h5, k2, by rw [<-a.root _ hl]; exact k3, by rw [<-a.ro _ hl]; exact k4⟩
    | none =>
     rcases a.blk id0 x0 k1 h5 with h4 | ⟨id1, x1, m1, m2, m3, m4⟩
     ·exact .inl (by rw [<-k2]; exact h4)
     ·exact .inr ⟨id1, x1, m1, by rw [m2, k2], Nat.le_trans b.wr m3, m4⟩
 size := Nat.le_trans a.size b.size
 os := b.os.trans a.os
 tape := b.tape.trans a.tape
 output := b.output.trans a.output
 frame := fun n hn => by
  rcases b.frame n (Nat.lt_of_lt_of_le hn a.size) with h1 | ⟨id, x, k1, k2, k3, k4⟩
  ·rcases a.frame n hn with h2 | ⟨id, x, k1, k2, k3, k4⟩
   ·exact .inl (h1.trans h2)
   ·exact .inr ⟨id, x, k1, k2, Nat.le_trans b.wr k3, k4⟩
  ·cases h5 : β id with
   | some y =>
    have := a.sub _ _ h5
    rw [k1] at this
    cases this
    have hl := (hr.dom _ _ h5).1
    exact .inr ⟨id, x, h5, k2, by rw [<-a.root _ hl]; exact k3, by rw [<-a.ro _ hl]; exact k4⟩
   | none =>
    rcases a.blk id x k1 h5 with h4 | ⟨id1, x1, m1, m2, m3, m4⟩
    ·omega
    ·exact .inr ⟨id1, x1, m1, by rw [m2, k2], Nat.le_trans b.wr m3, m4⟩
 next := Nat.le_trans a.next b.next
 wr := Nat.le_trans b.wr a.wr
 root := fun id h1 => (b.root id (Nat.lt_of_lt_of_le h1 a.next)).trans (a.root id h1)
 ro := fun id h1 => (b.ro id (Nat.lt_of_lt_of_le h1 a.next)).trans (a.ro id h1)
 objs := fun id h1 h2 => (b.objs id (Nat.lt_of_lt_of_le h1 a.next) h2).trans (a.objs id h1 (Nat.lt_of_lt_of_le h2 b.wr))
theorem Evo.trans {β β' β'' : Ren} {h h' h'' : AH} {w w' w'' : World} (hr : HR β h w) (a : Evo β h w β' h' w') (b : Evo β' h' w' β'' h'' w'') : Evo β h w β'' h'' w'' where
 toEvoN := a.toEvoN.trans hr b.toEvoN
 all := fun id h1 h2 => by
  by_cases h3 : id < h'.next
  ·have := a.all id h1 h3
   cases h4 : β' id with
   | none => rw [h4] at this; cases this
   | some y => rw [b.sub _ _ h4]; rfl
  ·exact b.all id ow h2
def upd (β : Ren) (id : Nat) (x : Bx) : Ren := fun i => if i = id then some x else β i
theorem upd_same (β : Ren) (id : Nat) (x : Bx) : upd β id x id = some x := if_pos rfl
theorem upd_ne (β : Ren) {id i : Nat} (x : Bx) (h : i ≠ id) : upd β id x i = β i := if_neg h
theorem sub_upd {β : Ren} {id : Nat} (x : Bx) (h : β id = none) : Sub β (upd β id x) := fun i y hi => by
 by_cases he : i = id
 ·subst he; rw [h] at hi; cases hi
 ·rw [upd_ne _ _ he]; exact hi
theorem HR.none_next {β : Ren} {h : AH} {w : World} (hr : HR β h w) {id : Nat} (hi : h.next <= id) : β id = none := by
 cases hb : β id with
 | none => rfl
 | some x => have := (hr.dom _ _ hb).1; omega
theorem fam_set_next {h : AH} (hw : Wf h) {o : AObj} {n wr : Nat} {id : Nat} (hid : id < h.next) :
  (⟨h.t.set h.next o, n, wr⟩ : AH).fam id = h.fam id := by
 unfold AH.fam
 have h1 : (h.t.set h.next o).get id = h.t.get id := Tr.get_set_ne _ _ ow
 simp only [h1]
 cases hg : h.t.get id with
 | none => rfl
 | some ob =>
  cases ob with
  | row => rfl
  | map => rfl
  | loop => rfl
  | iter => rfl
  | alias r lo m =>
   simp only
   obtain ⟨d, c, l, ro, n0, hr, _⟩ := hw.ali _ _ _ _ hg
   have : r < h.next := hw.lt _ _ hr
   rw [Tr.get_set_ne _ _ ow]
theorem fam_newRow {h : AH} {cells : List Value} : (newRow h cells).2.fam h.next = some ⟨h.next, 0, cells.length, cells, h.next, BIG, false⟩ := by
 simp [newRow, AH.fam, Tr.get_set_eq]
theorem wf_newRow {h : AH} (hw : Wf h) (cells : List Value) : Wf (newRow h cells).2 := by
 have hf : ∀ {id f}, (newRow h cells).2.fam id = some f -> (id < h.next /\ h.fam id = some f) \/ (id = h.next /\ f = ⟨h.next, 0, cells.length, cells, h.next, BIG, false⟩) := by
  intro id f hf
  by_cases h1 : id = h.next
  ·subst h1; rw [fam_newRow] at hf; cases hf; exact .inr ⟨rfl, rfl⟩
  ·have hl : id < h.next := by
    unfold AH.fam newRow at hf
    simp only [Tr.get_set_ne _ _ h1] at hf
    cases hg : h.t.get id with
    | none => rw [hg] at hf; cases hf
    | some o => exact hw.lt _ _ hg
   exact .inl ⟨hl, by rw [<-hf]; exact (fam_set_next hw hl).symm⟩
 constructor
 ·intro id o ho
  by_cases h1 : id = h.next
  ·subst h1; exact Nat.lt_succ_self _
  ·have := hw.lt id o (by simpa [newRow, Tr.get_set_ne _ _ h1] using ho)
   exact Nat.lt_succ_of_lt this
 ·intro id f h1
  rcases hf h1 with ⟨_, h2⟩ | ⟨_, rfl⟩
  ·exact hw.lon _ _ h2
  ·exact Nat.zero_le _
 ·intro id f h1 h3
  rcases hf h1 with ⟨_, h2⟩ | ⟨_, rfl⟩
  ·exact hw.curn _ _ h2 h3
  ·rfl
 ·intro id f h1 h3
  rcases hf h1 with ⟨_, h2⟩ | ⟨rfl, rfl⟩
  ·exact hw.stale _ _ h2 h3
  ·exact absurd rfl h3
 ·intro id f h1
  rcases hf h1 with ⟨_, h2⟩ | ⟨_, rfl⟩
  ·exact Nat.lt_succ_of_lt (hw.cur _ _ h2)
  ·exact Nat.lt_succ_self _
 ·intro id r lo n ho
  by_cases h1 : id = h.next
  ·subst h1; simp [newRow, Tr.get_set_eq] at ho
  ·obtain ⟨d, c, l, ro, n0, hr, hc⟩ := hw.ali id r lo n (by simpa [newRow, Tr.get_set_ne _ _ h1] using ho)
   have : r < h.next := hw.lt _ _ hr
   refine ⟨d, c, l, ro, n0, ?_, hc⟩
   exact (by simpa [newRow, Tr.get_set_ne _ _ (show r ≠ h.next by omega)] using hr)
theorem heap_old {w : World} {o : Obj} {b : Nat} (hb : b < w.heap.size) : (w.alloc o).heap[b]? = w.heap[b]? := by
 show (w.heap.push o)[b]? = _
 rw [Array.getElem?_push, if_neg (Nat.ne_of_lt hb)]
theorem heap_new {w : World} {o : Obj} : (w.alloc o).heap[w.heap.size]? = some o := by
 show (w.heap.push o)[w.heap.size]? = _
 rw [Array.getElem?_push, if_pos rfl]
theorem RowR.mono {β β' : Ren} {w w' : World} {id : Nat} {x : Bx} {f : Fam} (h : RowR β w id x f) (hs : Sub β β') (hb : w'.heap[x.g]? = w.heap[x.g]?) : RowR β' w' id x f := by
 obtain ⟨hlo, c, el, fz, h1, h2, h3, h4⟩ := h
 refine ⟨hlo, c, el, fz, hb.trans h1, h2, fun p v a b d => ?_, h4⟩
 obtain ⟨v', e1, e2⟩ := h3 p v a b d
 exact ⟨v', e1, e2.mono hs⟩
theorem EsR.mono {β β' : Ren} (hs : Sub β β') {l l' : List MapEntry} (h : EsR β l l') : EsR β' l l' :=
 ⟨h.1, fun i a b h1 h2 => ⟨(h.2 i a b h1 h2).key, (h.2 i a b h1 h2).fk, (h.2 i a b h1 h2).val.mono hs, (h.2 i a b h1 h2).born⟩⟩
theorem hr_new {β : Ren} {h : AH} {w : World} (hr : HR β h w) (hw : Wf h) (ob : AObj) (o : Obj) (z : Nat)
  (hrow : ∀ d c l ro n0, ob = .row d c l ro n0 -> c = h.next /\ ro = false /\ n0 = d.length /\ ∃ cs el fz, o = .cells cs el fz /\ NoFrz fz cs.size /\ cs.size = z /\ d.length <= z /\ ∀ (p : Nat) (v : Value), d[p]? = some v -> ∃ v' : Value, cs[p]? = some v' /\ VR β v v')
  (hmap : ∀ es ck, ob = .map es ck -> ∃ es' : Array MapEntry, o = .map es' ck /\ EsR β es es'.toList)
  (hloop : ∀ r, ob = .loop r -> ∃ r', o = .loop r' /\ LoopR β r r')
  (hiter : ∀ m s e l, ob = .iter m s e l -> ∃ m', o = .mapIter m' s ⟨e⟩ l /\ IterR β m m')
  (hali : ∀ r lo n, ob ≠ .alias r lo n) :
  HR (upd β h.next ⟨w.heap.size, 0, 0, z⟩) { h with t := h.t.set h.next ob, next := h.next + 1 } (w.alloc o) ∧
  Evo β h w (upd β h.next ⟨w.heap.size, 0, 0, z⟩) { h with t := h.t.set h.next ob, next := h.next + 1 } (w.alloc o) := by
 have hn : β h.next = none := hr.none_next (Nat.le_refl _)
 have hs : Sub β (upd β h.next ⟨w.heap.size, 0, 0, z⟩) := sub_upd _ hn
 have hold : ∀ {id x}, upd β h.next ⟨w.heap.size, 0, 0, z⟩ id = some x -> (id = h.next /\ x = ⟨w.heap.size, 0, 0, z⟩) \/ (id < h.next /\ β id = some x) := by
  intro id x hx
  by_cases h1 : id = h.next
  ·subst h1; rw [upd_same] at hx; cases hx; exact .inl ⟨rfl, rfl⟩
  ·rw [upd_ne _ _ h1] at hx; exact .inr ⟨(hr.dom _ _ hx).1, hx⟩
 have hfam : ∀ {id}, id < h.next -> ({ h with t := h.t.set h.next ob, next := h.next + 1 } : AH).fam id = h.fam id := fun hid => fam_set_next hw hid
 refine ⟨⟨?_, ?_, ?_, ?_, ?_, ⟨?_, ?_, ?_⟩⟩, ?_⟩
 ·intro id x hx
  rcases hold hx with ⟨rfl, rfl⟩ | ⟨h1, h2⟩
  ·exact ⟨Nat.lt_succ_self _, by simp⟩
  ·have := hr.dom _ _ h2
   exact ⟨Nat.lt_succ_of_lt this.1, by simp; omega⟩
 ·intro id x f hx hf
  rcases hold hx with ⟨rfl, rfl⟩ | ⟨h1, h2⟩
  ·cases ob with
   | alias r lo n => exact absurd rfl (hali r lo n)
   | map es ck => simp [AH.fam, Tr.get_set_eq] at hf
   | loop r => simp [AH.fam, Tr.get_set_eq] at hf
   | iter m s e l => simp [AH.fam, Tr.get_set_eq] at hf
   | row d c l ro n0 =>
    obtain ⟨rfl, rfl, rfl, cs, el, fz, rfl, hfz, hz, hd, hp⟩ := hrow d c l ro n0 rfl
    simp [AH.fam, Tr.get_set_eq] at hf
    subst hf
    refine ⟨rfl, cs, el, fz, heap_new, hz, fun p v a b c => ?_, fun _ => ⟨hfz, by simpa using hd⟩⟩
    obtain ⟨v', e1, e2⟩ := hp p v c
    exact ⟨v', by simpa using e1, e2.mono hs⟩
  ·rw [hfam h1] at hf
   exact (hr.row _ _ _ h2 hf).mono hs (heap_old (hr.dom _ _ h2).2)
 ·intro id x es ck hx hm
  rcases hold hx with ⟨rfl, rfl⟩ | ⟨h1, h2⟩
  ·rw [Tr.get_set_eq] at hm
   cases hm
   obtain ⟨es', rfl, he⟩ := hmap es ck rfl
   exact ⟨es', heap_new, he.mono hs⟩
  ·rw [Tr.get_set_ne _ _ ow] at hm
   obtain ⟨es', e1, e2⟩ := hr.map _ _ _ _ h2 hm
   exact ⟨es', (heap_old (hr.dom _ _ h2).2).trans e1, e2.mono hs⟩
 ·intro id x r hx hm
  rcases hold hx with ⟨rfl, rfl⟩ | ⟨h1, h2⟩
  ·rw [Tr.get_set_eq] at hm
   cases hm
   obtain ⟨r', rfl, he⟩ := hloop r rfl
   exact ⟨r', heap_new, he.mono hs⟩
  ·rw [Tr.get_set_ne _ _ ow] at hm
   obtain ⟨r', e1, e2⟩ := hr.loop _ _ _ h2 hm
   exact ⟨r', (heap_old (hr.dom _ _ h2).2).trans e1, e2.mono hs⟩
 ·intro id id' x x' hx hx' hg
  rcases hold hx with ⟨rfl, rfl⟩ | ⟨h1, h2⟩
  ·rcases hold hx' with ⟨rfl, rfl⟩ | ⟨h3, h4⟩
   ·exact .inl rfl
   ·have := (hr.dom _ _ h4).2; simp at hg; omega
  ·rcases hold hx' with ⟨rfl, rfl⟩ | ⟨h3, h4⟩
   ·have := (hr.dom _ _ h2).2; simp at hg; omega
   ·rcases hr.disj _ _ _ _ h2 h4 hg with h5 | ⟨f, f', k1, k2, k3⟩
    ·exact .inl h5
    ·exact .inr ⟨f, f', by rw [hfam h1]; exact k1, by rw [hfam h3]; exact k2, k3⟩
 ·intro id x m s e l hx hm
  rcases hold hx with ⟨rfl, rfl⟩ | ⟨h1, h2⟩
  ·rw [Tr.get_set_eq] at hm
   cases hm
   obtain ⟨m', rfl, he⟩ := hiter m s e l rfl
   exact ⟨rfl, m', heap_new, he.mono hs⟩
  ·rw [Tr.get_set_ne _ _ ow] at hm
   obtain ⟨e0, m', e1, e2⟩ := hr.more.iter _ _ _ _ _ _ h2 hm
   exact ⟨e0, m', (heap_old (hr.dom _ _ h2).2).trans e1, e2.mono hs⟩
 ·intro g c hg
  obtain ⟨el, fz, h1⟩ := hr.more.glob g c hg
  exact ⟨el, fz, (heap_old (Array.getElem?_eq_some_iff.1 h1).1).trans h1⟩
 ·intro id x hx hg
  rcases hold hx with ⟨rfl, rfl⟩ | ⟨h1, h2⟩
  ·have := hr.more.glob_lt hg
   simp at this
  ·unfold roOf
   rw [hfam h1]
   exact hr.more.apart _ _ h2 hg
 ·exact {
   sub := hs
   new := fun id x h1 h2 => by
    rcases hold h1 with ⟨rfl, _⟩ | ⟨h3, h4⟩
    ·exact Nat.le_refl _
    ·rw [h2] at h4; cases h4
   all := fun id h1 h2 => by
    have : id = h.next := by simp at h2; omega
    subst this
    rw [upd_same]; rfl
   blk := fun id x h1 h2 => by
    rcases hold h1 with ⟨rfl, rfl⟩ | ⟨h3, h4⟩
    ·exact .inl (Nat.le_refl _)
    ·rw [h2] at h4; cases h4
   size := by simp
   os := rfl
   tape := rfl
   output := rfl
   frame := fun b hb => .inl (heap_old hb)
   next := Nat.le_succ _
   wr := Nat.le_refl _
   root := fun id hid => by unfold rootOf; rw [hfam hid]
   ro := fun id hid => by unfold roOf; rw [hfam hid]
   objs := fun id hid _ => Tr.get_set_ne _ _ ow }
theorem hr_newRow {β : Ren} {h : AH} {w : World} (hr : HR β h w) (hw : Wf h) (cells : List Value) (c : Array Value) (el : TypeId) (hl : cells.length <= c.size)
  (hc : ∀ (p : Nat) (v : Value), cells[p]? = some v -> ∃ v' : Value, c[p]? = some v' /\ VR β v v') (fz : Nat × Nat := (0, 0)) (hfz : NoFrz fz c.size := by exact fun p _ q => by simp at q) :
  HR (upd β h.next ⟨w.heap.size, 0, 0, c.size⟩) (newRow h cells).2 (w.alloc (.cells c el fz)) /\ Wf (newRow h cells).2 ∧
  Evo β h w (upd β h.next ⟨w.heap.size, 0, 0, c.size⟩) (newRow h cells).2 (w.alloc (.cells c el fz)) := by
 have := hr_new hr hw (.row cells h.next BIG false cells.length) (.cells c el fz) c.size
  (fun d c' l ro n0 e => by
   cases e
   exact ⟨rfl, rfl, rfl, c, el, fz, rfl, hfz, rfl, hl, hc⟩)
  (fun es ck e => by cases e) (fun r e => by cases e) (fun m s e l q => by cases q) (fun r lo n e => by cases e)
 exact ⟨this.1, wf_newRow hw cells, this.2⟩
end Go.AM
namespace Go.AM
structure Wrote (w w' : World) (g pos : Nat) (vs : List Value) : Prop where
 ex : ∀ c el fz, w.heap[g]? = some (.cells c el fz) -> ∃ c' : Array Value, w'.heap[g]? = some (.cells c' el fz) /\ c'.size = c.size ∧
  ∀ q : Nat, c'[q]? = if pos <= q /\ q < pos + vs.length then vs[q - pos]? else c[q]?
 oth : ∀ b, b ≠ g -> w'.heap[b]? = w.heap[b]?
 size : w'.heap.size = w.heap.size
 os : w'.os = w.os
 tape : w'.tape = w.tape
 output : w'.output = w.output
theorem oneC_eq (v : Value) : v.oneCell' = oneC v := by cases v <;> rfl
theorem run_stores (P : Program) (g el : Nat) (fz : Nat × Nat) (o : Nat) : ∀ (vs : List Value) (i : Nat) (w : World) (c : Array Value), w.heap[g]? = some (.cells c el fz) -> NoFrz fz c.size →
  o + i + vs.length <= c.size -> vs.all oneC = true -> ∃ w', (storeCells ⟨g, o, none⟩ vs i).run P w = .ok () w' /\ Wrote w w' g (o + i) vs
 | [], i, w, c, hg, _, _, _ => by
  refine ⟨w, rfl, fun c' el' fz' h => ⟨c', h, rfl, fun q => ?_⟩, fun _ _ => rfl, rfl, rfl, rfl, rfl⟩
  have : ¬ (o + i <= q /\ q < o + i + ([] : List Value).length) := by simp only [List.length_nil]; omega
  rw [if_neg this]
 | v :: rest, i, w, c, hg, hz, hl, h1 => by
  simp only [List.length_cons] at hl
  simp only [List.all_cons, Bool.and_eq_true] at h1
  have hi : o + i < c.size := by omega
  have hadd : (⟨g, o, none⟩ : Addr).add i = ⟨g, o + i, none⟩ := by unfold Addr.add; split <;> simp_all
  have hcell : w.cell? ⟨g, o + i, none⟩ = some c[o + i] := by simp [World.cell?, hg, hi]
  have hfro : w.frozen? ⟨g, o + i, none⟩ = false := by
   have := hz (o + i) hi
   simp only [World.frozen?, hg]
   simp only [Bool.and_eq_false_iff, decide_eq_false_iff_not]
   omega
  have hst : (store ((⟨g, o, none⟩ : Addr).add i) v).run P w = .ok () (w.setCell ⟨g, o + i, none⟩ v) := by
   rw [hadd, run_store P w _ v _ (by rw [oneC_eq]; exact h1.1), hcell]
   simp [hfro]
  have hg' : (w.setCell ⟨g, o + i, none⟩ v).heap[g]? = some (.cells (c.setIfInBounds (o + i) v) el fz) := by
   simp [World.setCell, Array.getElem?_modify, hg]
  obtain ⟨w', hr, hw⟩ := run_stores P g el fz o rest (i + 1) (w.setCell ⟨g, o + i, none⟩ v) (c.setIfInBounds (o + i) v) hg' (by simpa using hz) (by simp; omega) h1.2
  refine ⟨w', by simp only [storeCells, Sem.run_bind, hst, Result.andThen_ok, hr], fun c0 el0 fz0 h => ?_, fun b hb => ?_, by rw [hw.size]; simp [World.setCell], hw.os, hw.tape, hw.output⟩
  ·rw [hg] at h
   cases h
   obtain ⟨c', e1, e2, e3⟩ := hw.ex _ _ _ hg'
   refine ⟨c', e1, by simpa using e2, fun q => ?_⟩
   rw [e3 q]
   by_cases hq : q = o + i
   ·subst hq
    have a1 : ¬ (o + (i + 1) <= o + i /\ o + i < o + (i + 1) + rest.length) := by omega
    have a2 : o + i <= o + i /\ o + i < o + i + (v :: rest).length := by simp
    rw [if_neg a1, if_pos a2]
    simp [hi]
   ·by_cases h2 : o + (i + 1) <= q /\ q < o + (i + 1) + rest.length
    ·have a2 : o + i <= q /\ q < o + i + (v :: rest).length := by simp only [List.length_cons]; omega
     rw [if_pos h2, if_pos a2]
     have : q - (o + i) = (q - (o + (i + 1))) + 1 := by omega
     rw [this]
     simp
    ·have a2 : ¬ (o + i <= q /\ q < o + i + (v :: rest).length) := by simp only [List.length_cons]; omega
     rw [if_neg h2, if_neg a2, Array.getElem?_setIfInBounds_ne ow]
  ·rw [hw.oth b hb]
   simp [World.setCell, Array.getElem?_modify, Ne.symm hb]
theorem fam_setRoot {h : AH} {r : Nat} {d : List Value} {c l : Nat} {ro : Bool} {n0 : Nat} (hg : h.t.get r = some (.row d c l ro n0)) (d' : List Value) (c' l' : Nat) (ro' : Bool) (nx wr id : Nat) :
  (⟨h.t.set r (.row d' c' l' ro' n0), nx, wr⟩ : AH).fam id = (h.fam id).map fun f => if f.root = r then { f with data := d', cur := c', low := l', ro := ro' } else f := by
 unfold AH.fam
 simp only
 by_cases h1 : id = r
 ·subst h1
  rw [Tr.get_set_eq, hg]
  simp
 ·rw [Tr.get_set_ne _ _ h1]
  cases h2 : h.t.get id with
  | none => rfl
  | some o =>
   cases o with
   | map => rfl
   | loop => rfl
   | iter => rfl
   | row => simp [h1]
   | alias r' lo n =>
    simp only
    by_cases h3 : r' = r
    ·subst h3
     rw [Tr.get_set_eq, hg]
     simp
    ·rw [Tr.get_set_ne _ _ h3]
     cases h4 : h.t.get r' with
     | none => rfl
     | some o' => cases o' <;> simp [h3]
theorem splice_get (d : List Value) (off : Nat) (vs : List Value) (h : off + vs.length <= d.length) (p : Nat) :
  (splice d off vs)[p]? = if off <= p /\ p < off + vs.length then vs[p - off]? else d[p]? := by
 unfold splice
 by_cases h1 : p < off
 ·have : ¬ (off <= p /\ p < off + vs.length) := by omega
  rw [if_neg this, List.append_assoc, List.getElem?_append_left (by simp; omega), List.getElem?_take_of_lt h1]
 ·by_cases h2 : p < off + vs.length
  ·rw [if_pos ⟨by omega, h2⟩, List.append_assoc, List.getElem?_append_right (by simp; omega)]
   have : p - (d.take off).length = p - off := by simp; omega
   rw [this, List.getElem?_append_left ow]
  ·have : ¬ (off <= p /\ p < off + vs.length) := by omega
   rw [if_neg this, List.getElem?_append_right (by simp; omega), List.getElem?_drop]
   congr 1
   simp
   omega
theorem splice_length (d : List Value) (off : Nat) (vs : List Value) (h : off + vs.length <= d.length) : (splice d off vs).length = d.length := by
 unfold splice; simp; omega
section
variable {β : Ren} {h : AH} {w w' : World}
theorem fam_same {id id' : Nat} {f f' : Fam} (hf : h.fam id = some f) (hf' : h.fam id' = some f') (hr : f.root = f'.root) : f'.data = f.data /\ f'.cur = f.cur /\ f'.low = f.low /\ f'.ro = f.ro := by
 obtain ⟨n0, h1⟩ := fam_root hf
 obtain ⟨n1, h2⟩ := fam_root hf'
 rw [hr] at h1
 rw [h1] at h2
 simp only [Option.some.injEq, AObj.row.injEq] at h2
 exact ⟨h2.1.symm, h2.2.1.symm, h2.2.2.1.symm, h2.2.2.2.1.symm⟩
theorem ne_root_of_stale (hw : Wf h) {id : Nat} {f : Fam} (hf : h.fam id = some f) (hne : id ≠ f.cur) : f.cur ≠ f.root := by
 unfold AH.fam at hf
 split at hf
 ·rename_i d c l ro n0 hg
  cases hf
  exact fun e => hne e.symm
 ·rename_i r lo n hg
  obtain ⟨d, c, l, ro, n0, h1, h2⟩ := hw.ali _ _ _ _ hg
  rw [h1] at hf
  simp only [Option.some.injEq] at hf
  subst hf
  exact h2
 ·cases hf
theorem hr_store (hr : HR β h w) (hw : Wf h) {id off : Nat} {vs vs' : List Value} {h' : AH} {x : Bx} (hs : storeC h id off vs = some h') (hx : β id = some x) (hv : VRl β vs vs')
  (hwr : Wrote w w' x.g (x.s + (off - x.lo)) vs') : HR β h' w' /\ Wf h' /\ Evo β h w β h' w' := by
 unfold storeC at hs
 cases hf : h.fam id with
 | none => rw [hf] at hs; cases hs
 | some f =>
 rw [hf] at hs
 simp only at hs
 split at hs
 case isFalse => cases hs
 rename_i hc
 obtain ⟨hcur, hro, hlo, hn, _⟩ := hc
 obtain ⟨n0, hroot⟩ := fam_root hf
 rw [hroot] at hs
 simp only [Option.some.injEq] at hs
 subst hs
 have hlen : f.n = f.data.length := hw.curn _ _ hf hcur
 have hxlo : x.lo = f.lo := (hr.row _ _ _ hx hf).lo
 have hvl : vs.length = vs'.length := hv.1
 have hl' : off + vs.length <= f.data.length := by omega
 have hfam := fam_setRoot hroot (splice f.data off vs) f.cur (if f.cur = f.root then f.low else addT f.low h.next off) false h.next (min h.wr f.root)
 have hroots : ∀ id', id' < h.next -> (⟨h.t.set f.root (.row (splice f.data off vs) f.cur (if f.cur = f.root then f.low else addT f.low h.next off) false n0), h.next, min h.wr f.root⟩ : AH).fam id' =
   (h.fam id').map fun f' => if f'.root = f.root then { f' with data := splice f.data off vs, cur := f.cur, low := if f.cur = f.root then f.low else addT f.low h.next off, ro := false } else f' := fun id' _ => hfam id'
 have hgne : ∀ {id' x' f'}, β id' = some x' -> h.fam id' = some f' -> f'.root ≠ f.root -> x'.g ≠ x.g := by
  intro id' x' f' h1 h2 h3 h4
  rcases hr.disj _ _ _ _ h1 hx h4 with rfl | ⟨g1, g2, k1, k2, k3⟩
  ·rw [hf] at h2; cases h2; exact h3 rfl
  ·rw [h2] at k1; cases k1
   rw [hf] at k2; cases k2
   rcases k3 with k3 | k3
   ·exact h3 k3.1
   ·rw [hro] at k3; exact absurd k3.2 (by simp)
 refine ⟨⟨fun id' x' h1 => ⟨(hr.dom _ _ h1).1, by rw [hwr.size]; exact (hr.dom _ _ h1).2⟩, ?_, ?_, ?_, ?_, ?_⟩, ⟨?_, ?_, ?_, ?_, ?_, ?_⟩, ?_⟩
 ·-- rows
  intro id' x' g' h1 h2
  rw [hfam] at h2
  cases h3 : h.fam id' with
  | none => rw [h3] at h2; cases h2
  | some f' =>
  rw [h3] at h2
  simp only [Option.map_some, Option.some.injEq] at h2
  by_cases h4 : f'.root = f.root
  ·rw [if_pos h4] at h2
   subst h2
   obtain ⟨e1, e2, e3, e4⟩ := fam_same hf h3 h4.symm
   obtain ⟨r1, c, el, fz, r2, r3, r4, r5⟩ := hr.row _ _ _ h1 h3
   have r5 := r5 (by rw [e4]; exact hro)
   by_cases h5 : x'.g = x.g
   ·obtain ⟨c', w1, w2, w3⟩ := hwr.ex c el fz (by rw [<-h5]; exact r2)
    refine ⟨r1, c', el, fz, by rw [h5]; exact w1, by rw [w2]; exact r3, fun p v a b d => ?_, fun _ => by rw [w2]; exact r5⟩
    simp only at a b d
    rw [splice_get _ _ _ hl'] at d
    by_cases h6 : id' = f.cur
    ·-- the name itself
     have : id' = id := by omega
     subst this
     rw [hx] at h1; cases h1
     rw [hf] at h3; cases h3
     simp only [Fam.rb, if_pos h6] at b
     by_cases h7 : off <= p /\ p < off + vs.length
     ·rw [if_pos h7] at d
      have : p - off < vs'.length := by omega
      refine ⟨vs'[p - off], ?_, hv.2 _ _ _ d (List.getElem?_eq_getElem this)⟩
      rw [w3, if_pos ow]
      rw [show x.s + (p - x.lo) - (x.s + (off - x.lo)) = p - off by omega]
      exact List.getElem?_eq_getElem this
     ·rw [if_neg h7] at d
      obtain ⟨v', q1, q2⟩ := r4 p v a (by simp only [Fam.rb, if_pos h6]; exact b) d
      refine ⟨v', ?_, q2⟩
      rw [w3, if_neg ow]
      exact q1
    ·-- another name of the row
     have hst := ne_root_of_stale hw h3 (by rw [e2]; exact h6)
     rw [e2, h4] at hst
     simp only [Fam.rb, if_neg h6, if_neg hst] at b
     have hadd := addT_le (low := f.low) (s := h.next) (p := off) (id := id') (hr.dom _ _ h1).1
     have hp : p < off := by omega
     rw [if_neg ow] at d
     obtain ⟨v', q1, q2⟩ := r4 p v a (by simp only [Fam.rb, e2, if_neg h6, e3]; omega) (by rw [e1]; exact d)
     refine ⟨v', ?_, q2⟩
     rw [w3, if_neg]
     ·exact q1
     ·rcases hr.disj _ _ _ _ h1 hx h5 with k0 | ⟨g1, g2, k1, k2, k3⟩
      ·exact absurd (k0.trans hcur) h6
      ·rcases k3 with ⟨_, k4⟩ | ⟨_, k4⟩
       ·omega
       ·rw [hf] at k2; cases k2; rw [hro] at k4; cases k4
   ·refine ⟨r1, c, el, fz, by rw [hwr.oth _ h5]; exact r2, r3, fun p v a b d => ?_, fun _ => r5⟩
    simp only at a b d
    by_cases h6 : id' = f.cur
    ·have : id' = id := by omega
     subst this
     rw [hx] at h1; cases h1
     exact absurd rfl h5
    ·have hst := ne_root_of_stale hw h3 (by rw [e2]; exact h6)
     rw [e2, h4] at hst
     simp only [Fam.rb, if_neg h6, if_neg hst] at b
     have hadd := addT_le (low := f.low) (s := h.next) (p := off) (id := id') (hr.dom _ _ h1).1
     rw [splice_get _ _ _ hl', if_neg ow] at d
     exact r4 p v a (by simp only [Fam.rb, e2, if_neg h6, e3]; omega) (by rw [e1]; exact d)
  ·rw [if_neg h4] at h2
   subst h2
   exact (hr.row _ _ _ h1 h3).mono (.refl _) (hwr.oth _ (hgne h1 h3 h4))
 ·-- maps
  intro id' x' es ck h1 h2
  have h3 : id' ≠ f.root := by
   intro e
   subst e
   rw [Tr.get_set_eq] at h2
   cases h2
  rw [Tr.get_set_ne _ _ h3] at h2
  obtain ⟨es', e1, e2⟩ := hr.map _ _ _ _ h1 h2
  refine ⟨es', ?_, e2⟩
  rw [hwr.oth]
  ·exact e1
  ·intro h4
   rcases hr.disj _ _ _ _ h1 hx h4 with rfl | ⟨g1, g2, k1, k2, k3⟩
   ·exact fam_not_map hf h2
   ·exact fam_not_map k1 h2
 ·-- loops
  intro id' x' r h1 h2
  have h3 : id' ≠ f.root := by
   intro e
   subst e
   rw [Tr.get_set_eq] at h2
   cases h2
  rw [Tr.get_set_ne _ _ h3] at h2
  obtain ⟨r', e1, e2⟩ := hr.loop _ _ _ h1 h2
  refine ⟨r', ?_, e2⟩
  rw [hwr.oth]
  ·exact e1
  ·intro h4
   rcases hr.disj _ _ _ _ h1 hx h4 with rfl | ⟨g1, g2, k1, k2, k3⟩
   ·exact fam_not_loop hf h2
   ·exact fam_not_loop k1 h2
 ·-- apart
  intro id1 id2 x1 x2 h1 h2 h3
  rcases hr.disj _ _ _ _ h1 h2 h3 with k | ⟨g1, g2, k1, k2, k3⟩
  ·exact .inl k
  ·refine .inr ⟨_, _, by rw [hfam, k1]; rfl, by rw [hfam, k2]; rfl, ?_⟩
   rcases k3 with ⟨k3, k4⟩ | ⟨k3, k4⟩
   ·left
    refine ⟨?_, k4⟩
    by_cases m1 : g1.root = f.root <;> by_cases m2 : g2.root = f.root <;> simp [m1, m2] <;> omega
   ·right
    have n1 : g1.root ≠ f.root := fun e => by have := (fam_same hf k1 e.symm).2.2.2; rw [k3, hro] at this; cases this
    have n2 : g2.root ≠ f.root := fun e => by have := (fam_same hf k2 e.symm).2.2.2; rw [k4, hro] at this; cases this
    simp [n1, n2, k3, k4]
 ·-- iterators, package variables
  refine hr.more.step (fun id' x' m s e l h1 h2 => ?_) (fun g hg => ?_) (fun id' x' h1 => ?_)
  ·have h3 : id' ≠ f.root := by
    intro e
    subst e
    rw [Tr.get_set_eq] at h2
    cases h2
   rw [Tr.get_set_ne _ _ h3] at h2
   refine ⟨h2, hwr.oth _ fun h4 => ?_⟩
   rcases hr.disj _ _ _ _ h1 hx h4 with rfl | ⟨g1, g2, k1, k2, k3⟩
   ·exact fam_not_iter hf h2
   ·exact fam_not_iter k1 h2
  ·refine hwr.oth _ fun e => ?_
   subst e
   have := hr.more.apart _ _ hx hg
   rw [roOf_some hf, hro] at this
   cases this
  ·unfold roOf
   rw [hfam]
   cases h3 : h.fam id' with
   | none => rfl
   | some f' =>
    by_cases m : f'.root = f.root
    ·have := (fam_same hf h3 m.symm).2.2.2
     simp [m, this, hro]
    ·simp [m]
 ·intro id' o h1
  by_cases h2 : id' = f.root
  ·subst h2; exact hw.lt _ _ hroot
  ·exact hw.lt _ _ (by simpa [Tr.get_set_ne _ _ h2] using h1)
 ·intro id' g h1
  rw [hfam] at h1
  cases h3 : h.fam id' with
  | none => rw [h3] at h1; cases h1
  | some f' =>
   rw [h3] at h1
   simp only [Option.map_some, Option.some.injEq] at h1
   have := hw.lon _ _ h3
   split at h1 <;> (subst h1; exact this)
 ·intro id' g h1 h2
  rw [hfam] at h1
  cases h3 : h.fam id' with
  | none => rw [h3] at h1; cases h1
  | some f' =>
   rw [h3] at h1
   simp only [Option.map_some, Option.some.injEq] at h1
   split at h1
   ·rename_i h4
    subst h1
    obtain ⟨e1, e2, e3, e4⟩ := fam_same hf h3 h4.symm
    simp only at h2 ⊢
    rw [splice_length _ _ _ hl', <-e1]
    exact hw.curn _ _ h3 (by rw [e2]; exact h2)
   ·subst h1; exact hw.curn _ _ h3 h2
 ·intro id' g h1 h2
  rw [hfam] at h1
  cases h3 : h.fam id' with
  | none => rw [h3] at h1; cases h1
  | some f' =>
   rw [h3] at h1
   simp only [Option.map_some, Option.some.injEq] at h1
   split at h1
   ·rename_i h4
    subst h1
    obtain ⟨e1, e2, e3, e4⟩ := fam_same hf h3 h4.symm
    simp only at h2 ⊢
    have := hw.stale _ _ h3 (by rw [e2]; exact h2)
    rw [splice_length _ _ _ hl']
    rw [e1, e3] at this
    have hid' : id' < h.next := by
     unfold AH.fam at h3
     cases hg : h.t.get id' with
     | none => rw [hg] at h3; cases h3
     | some o => exact hw.lt _ _ hg
    have hadd := addT_le (low := f.low) (s := h.next) (p := off) (id := id') hid'
    split <;> omega
   ·subst h1; exact hw.stale _ _ h3 h2
 ·intro id' g h1
  rw [hfam] at h1
  cases h3 : h.fam id' with
  | none => rw [h3] at h1; cases h1
  | some f' =>
   rw [h3] at h1
   simp only [Option.map_some, Option.some.injEq] at h1
   split at h1
   ·subst h1; exact (hw.cur id f hf : f.cur < h.next)
   ·subst h1; exact hw.cur _ _ h3
 ·intro id' r lo n h1
  have h2 : id' ≠ f.root := fun e => by subst e; rw [Tr.get_set_eq] at h1; cases h1
  rw [Tr.get_set_ne _ _ h2] at h1
  obtain ⟨d, c, l, ro, m0, k1, k2⟩ := hw.ali _ _ _ _ h1
  by_cases h3 : r = f.root
  ·subst h3
   rw [k1] at hroot
   cases hroot
   exact ⟨_, _, _, _, _, Tr.get_set_eq _ _ _, k2⟩
  ·exact ⟨d, c, l, ro, m0, by simpa [Tr.get_set_ne _ _ h3] using k1, k2⟩
 ·exact {
   sub := .refl _
   new := fun _ _ a b => by rw [a] at b; cases b
   all := fun id a b => absurd b (Nat.not_lt.2 a)
   blk := fun _ _ a b => by rw [a] at b; cases b
   size := Nat.le_of_eq hwr.size.symm
   os := hwr.os
   tape := hwr.tape
   output := hwr.output
   frame := fun b hb => by
    by_cases h1 : b = x.g
    ·exact .inr ⟨id, x, hx, h1.symm, by rw [rootOf_eq hf]; exact Nat.min_le_right _ _, by unfold roOf; rw [hf]; exact hro⟩
    ·exact .inl (hwr.oth _ h1)
   next := Nat.le_refl _
   wr := Nat.min_le_left _ _
   root := fun id' _ => by
    unfold rootOf
    rw [hfam]
    cases h3 : h.fam id' with
    | none => rfl
    | some f' => by_cases m : f'.root = f.root <;> simp [m]
   ro := fun id' _ => by
    unfold roOf
    rw [hfam]
    cases h3 : h.fam id' with
    | none => rfl
    | some f' =>
     by_cases m : f'.root = f.root
     ·have := (fam_same hf h3 m.symm).2.2.2
      simp [m, this, hro]
     ·simp [m]
   objs := fun id' _ h2 => Tr.get_set_ne _ _ (by simp only at h2; omega) }
end
end Go.AM
namespace Go.AM
section
variable {β : Ren} {h : AH} {w w' : World}
theorem hr_alias (hr : HR β h w) (hw : Wf h) {id off pos : Nat} {news : List Value} {f : Fam} {n0 : Nat} {x y : Bx} (hf : h.fam id = some f) (hro : f.ro = false) (hx : β id = some x)
  (hroot : h.t.get f.root = some (.row f.data f.cur f.low f.ro n0)) (hlo : f.lo <= off) (hop : off <= pos) (hpos : pos <= f.rb id)
  (hylo : y.lo = off)
  (hy : ∃ (c : Array Value) (el : TypeId) (fz : Nat × Nat), w'.heap[y.g]? = some (.cells c el fz) /\ c.size = y.z /\ NoFrz fz c.size /\ y.s + (pos + news.length - off) <= y.z ∧
   ∀ (p : Nat) (v : Value), off <= p -> p < pos + news.length -> (f.data.take pos ++ news)[p]? = some v -> ∃ v', c[y.s + (p - off)]? = some v' /\ VR β v v')
  (hblk : (w.heap.size <= y.g /\ (∀ b, b < w.heap.size -> w'.heap[b]? = w.heap[b]?)) ∨
   (y.g = x.g /\ y.s + x.lo = x.s + off /\ ∃ vs, Wrote w w' x.g (x.s + (pos - x.lo)) vs))
  (hyg : y.g < w'.heap.size) (hsz : w.heap.size <= w'.heap.size) (hos : w'.os = w.os) (htp : w'.tape = w.tape) (hou : w'.output = w.output) :
  HR (upd β h.next y) { t := (h.t.set f.root (.row (f.data.take pos ++ news) h.next (if pos < f.data.length then addT f.low h.next pos else f.low) false n0)).set h.next (.alias f.root off (pos + news.length)), next := h.next + 1, wr := min h.wr f.root } w' ∧
  Wf { t := (h.t.set f.root (.row (f.data.take pos ++ news) h.next (if pos < f.data.length then addT f.low h.next pos else f.low) false n0)).set h.next (.alias f.root off (pos + news.length)), next := h.next + 1, wr := min h.wr f.root } ∧
  Evo β h w (upd β h.next y) { t := (h.t.set f.root (.row (f.data.take pos ++ news) h.next (if pos < f.data.length then addT f.low h.next pos else f.low) false n0)).set h.next (.alias f.root off (pos + news.length)), next := h.next + 1, wr := min h.wr f.root } w' := by
 have hrt : f.root < h.next := hw.lt _ _ hroot
 have hidl : id < h.next := fam_lt hw hf
 have hxlo : x.lo = f.lo := (hr.row _ _ _ hx hf).lo
 have hnone : β h.next = none := hr.none_next (Nat.le_refl _)
 have hsub : Sub β (upd β h.next y) := sub_upd _ hnone
 have hold : ∀ {i z}, upd β h.next y i = some z -> (i = h.next /\ z = y) \/ (i < h.next /\ β i = some z) := by
  intro i z hz
  by_cases h1 : i = h.next
  ·subst h1; rw [upd_same] at hz; cases hz; exact .inl ⟨rfl, rfl⟩
  ·rw [upd_ne _ _ h1] at hz; exact .inr ⟨(hr.dom _ _ hz).1, hz⟩
 have hN : pos <= f.data.length := by
  unfold Fam.rb at hpos
  split at hpos
  ·have := hw.curn _ _ hf ‹_›; omega
  ·have := hw.stale _ _ hf ‹_›; omega
 have hlen : (f.data.take pos ++ news).length = pos + news.length := by simp; omega
 generalize hlow : (if pos < f.data.length then addT f.low h.next pos else f.low) = low'
 generalize hdat : f.data.take pos ++ news = dat
 rw [hdat] at hlen hy
 have hget : ∀ p, p < pos -> dat[p]? = f.data[p]? := by
  intro p hp
  rw [<-hdat, List.getElem?_append_left (by simp; omega), List.getElem?_take_of_lt hp]
 have hget' : ∀ {i : Nat} {o : AObj}, ((h.t.set f.root (.row dat h.next low' false n0)).set h.next (.alias f.root off (pos + news.length))).get i = some o →
   (i = h.next /\ o = .alias f.root off (pos + news.length)) \/ (i = f.root /\ o = .row dat h.next low' false n0) \/ (i < h.next /\ i ≠ f.root /\ h.t.get i = some o) := by
  intro i o ho
  by_cases h1 : i = h.next
  ·subst h1; rw [Tr.get_set_eq] at ho; cases ho; exact .inl ⟨rfl, rfl⟩
  ·rw [Tr.get_set_ne _ _ h1] at ho
   by_cases h2 : i = f.root
   ·subst h2; rw [Tr.get_set_eq] at ho; cases ho; exact .inr (.inl ⟨rfl, rfl⟩)
   ·rw [Tr.get_set_ne _ _ h2] at ho; exact .inr (.inr ⟨hw.lt _ _ ho, h2, ho⟩)
 have hfamN : (⟨(h.t.set f.root (.row dat h.next low' false n0)).set h.next (.alias f.root off (pos + news.length)), h.next + 1, min h.wr f.root⟩ : AH).fam h.next =
   some ⟨f.root, off, pos + news.length, dat, h.next, low', false⟩ := by
  unfold AH.fam
  simp only [Tr.get_set_eq]
  rw [Tr.get_set_ne _ _ ow, Tr.get_set_eq]
 have hfam : ∀ {i}, i < h.next -> (⟨(h.t.set f.root (.row dat h.next low' false n0)).set h.next (.alias f.root off (pos + news.length)), h.next + 1, min h.wr f.root⟩ : AH).fam i =
   (h.fam i).map fun f' => if f'.root = f.root then { f' with data := dat, cur := h.next, low := low', ro := false } else f' := by
  intro i hi
  rw [<-fam_setRoot hroot dat h.next low' false h.next (min h.wr f.root) i]
  have hw2 : ∀ i' r lo n, (h.t.set f.root (.row dat h.next low' false n0)).get i' = some (.alias r lo n) -> r < h.next := by
   intro i' r lo n hg
   by_cases h1 : i' = f.root
   ·subst h1; rw [Tr.get_set_eq] at hg; cases hg
   ·rw [Tr.get_set_ne _ _ h1] at hg
    obtain ⟨d, c, l, ro, m0, k1, _⟩ := hw.ali _ _ _ _ hg
    exact hw.lt _ _ k1
  unfold AH.fam
  simp only
  rw [Tr.get_set_ne _ _ ow]
  cases hg : (h.t.set f.root (.row dat h.next low' false n0)).get i with
  | none => rfl
  | some o =>
   cases o with
   | row => rfl
   | map => rfl
   | loop => rfl
   | iter => rfl
   | alias r lo n =>
    simp only
    have := hw2 _ _ _ _ hg
    rw [Tr.get_set_ne _ _ ow]
 -- what an old name of the row reads lies below 'pos'
 have hbelow : ∀ {i f'}, h.fam i = some f' -> f'.root = f.root -> min (lowAt low' i) f'.n <= pos /\ (∀ p, p < min (lowAt low' i) f'.n -> p < f'.rb i) := by
  intro i f' h1 h2
  obtain ⟨e1, e2, e3, e4⟩ := fam_same hf h1 h2.symm
  have hi : i < h.next := by
   have h1' := h1
   unfold AH.fam at h1'
   cases hg : h.t.get i with
   | none => rw [hg] at h1'; cases h1'
   | some o => exact hw.lt _ _ hg
  have hadd := addT_le (low := f.low) (s := h.next) (p := pos) (id := i) hi
  have hlw : lowAt low' i <= lowAt f.low i /\ (pos < f.data.length -> lowAt low' i <= pos) := by
   rw [<-hlow]
   split
   ·exact ⟨hadd.2, fun _ => hadd.1⟩
   ·exact ⟨Nat.le_refl _, fun q => absurd q ‹_›⟩
  have hlw2 := hlw.2
  by_cases hc : i = f'.cur
  ·have := hw.curn _ _ h1 hc
   refine ⟨?_, fun p hp => by simp only [Fam.rb, if_pos hc]; omega⟩
   rw [e1] at this
   by_cases hq : pos < f.data.length
   ·have := hlw2 hq; omega
   ·omega
  ·have := hw.stale _ _ h1 hc
   rw [e1, e3] at this
   refine ⟨?_, fun p hp => ?_⟩
   ·by_cases hq : pos < f.data.length
    ·have := hlw2 hq; omega
    ·omega
   ·simp only [Fam.rb, if_neg hc, e3]
    omega
 have hgne : ∀ {i z f'}, β i = some z -> h.fam i = some f' -> f'.root ≠ f.root -> z.g ≠ x.g := by
  intro i z f' h1 h2 h3 h4
  rcases hr.disj _ _ _ _ h1 hx h4 with rfl | ⟨g1, g2, k1, k2, k3⟩
  ·rw [hf] at h2; cases h2; exact h3 rfl
  ·rw [h2] at k1; cases k1
   rw [hf] at k2; cases k2
   rcases k3 with k3 | k3
   ·exact h3 k3.1
   ·rw [hro] at k3; exact absurd k3.2 (by simp)
 have hkeep : ∀ {b}, b < w.heap.size -> b ≠ x.g -> w'.heap[b]? = w.heap[b]? := by
  intro b hb hne
  rcases hblk with ⟨_, k⟩ | ⟨_, _, vs, k⟩
  ·exact k b hb
  ·exact k.oth _ hne
 refine ⟨⟨?_, ?_, ?_, ?_, ?_, ⟨?_, ?_, ?_⟩⟩, ⟨?_, ?_, ?_, ?_, ?_, ?_⟩, ?_⟩
 ·intro i z hz
  rcases hold hz with ⟨rfl, rfl⟩ | ⟨h1, h2⟩
  ·exact ⟨Nat.lt_succ_self _, hyg⟩
  ·exact ⟨Nat.lt_succ_of_lt h1, Nat.lt_of_lt_of_le (hr.dom _ _ h2).2 hsz⟩
 ·intro i z g hz hg
  rcases hold hz with ⟨rfl, rfl⟩ | ⟨h1, h2⟩
  ·rw [hfamN] at hg
   cases hg
   obtain ⟨c, el, fz, k1, k2, k3, k4, k5⟩ := hy
   refine ⟨hylo, c, el, fz, k1, k2, fun p v a b d => ?_, fun _ => ⟨k3, by simpa using k4⟩⟩
   simp only [Fam.rb, if_true] at a b d
   obtain ⟨v', m1, m2⟩ := k5 p v a b d
   exact ⟨v', by rw [hylo]; exact m1, m2.mono hsub⟩
  ·rw [hfam h1] at hg
   cases h3 : h.fam i with
   | none => rw [h3] at hg; cases hg
   | some f' =>
   rw [h3] at hg
   simp only [Option.map_some, Option.some.injEq] at hg
   obtain ⟨r1, c, el, fz, r2, r3, r4, r5⟩ := hr.row _ _ _ h2 h3
   by_cases h4 : f'.root = f.root
   ·rw [if_pos h4] at hg
    subst hg
    obtain ⟨e1, e2, e3, e4⟩ := fam_same hf h3 h4.symm
    have r5 := r5 (by rw [e4]; exact hro)
    obtain ⟨b1, b2⟩ := hbelow h3 h4
    have hine : i ≠ h.next := by omega
    -- old cells below pos
    have hcell : ∃ c', w'.heap[z.g]? = some (.cells c' el fz) /\ c'.size = c.size /\ ∀ p, z.lo <= p -> p < pos -> c'[z.s + (p - z.lo)]? = c[z.s + (p - z.lo)]? := by
     rcases hblk with ⟨_, k⟩ | ⟨k1, k2, vs, k⟩
     ·exact ⟨c, (k _ (hr.dom _ _ h2).2).trans r2, rfl, fun _ _ _ => rfl⟩
     ·by_cases h5 : z.g = x.g
      ·obtain ⟨c', q1, q2, q3⟩ := k.ex c el fz (by rw [<-h5]; exact r2)
       refine ⟨c', by rw [h5]; exact q1, q2, fun p hp1 hp2 => ?_⟩
       rw [q3, if_neg]
       rcases hr.disj _ _ _ _ h2 hx h5 with rfl | ⟨g1, g2, m1, m2, m3⟩
       ·rw [hx] at h2; cases h2; omega
       ·rcases m3 with ⟨_, m4⟩ | ⟨_, m4⟩
        ·omega
        ·rw [hf] at m2; cases m2; rw [hro] at m4; cases m4
      ·exact ⟨c, (k.oth _ h5).trans r2, rfl, fun _ _ _ => rfl⟩
    obtain ⟨c', q1, q2, q3⟩ := hcell
    refine ⟨r1, c', el, fz, q1, by rw [q2]; exact r3, fun p v a b d => ?_, fun _ => by rw [q2]; exact r5⟩
    simp only [Fam.rb, if_neg hine] at a b d
    have hp : p < pos := by omega
    rw [hget p hp] at d
    obtain ⟨v', m1, m2⟩ := r4 p v a (b2 p b) (by rw [e1]; exact d)
    exact ⟨v', by rw [q3 p ow hp]; exact m1, m2.mono hsub⟩
   ·rw [if_neg h4] at hg
    subst hg
    exact (hr.row _ _ _ h2 h3).mono hsub (hkeep (hr.dom _ _ h2).2 (hgne h2 h3 h4))
 ·intro i z es ck hz hm
  rcases hget' hm with ⟨rfl, e⟩ | ⟨rfl, e⟩ | ⟨k1, k2, k3⟩
  ·cases e
  ·cases e
  ·rcases hold hz with ⟨rfl, _⟩ | ⟨_, h2⟩
   ·omega
   ·obtain ⟨es', e1, e2⟩ := hr.map _ _ _ _ h2 k3
    refine ⟨es', ?_, e2.mono hsub⟩
    rw [hkeep (hr.dom _ _ h2).2]
    ·exact e1
    ·intro h4
     rcases hr.disj _ _ _ _ h2 hx h4 with rfl | ⟨g1, g2, m1, m2, m3⟩
     ·exact fam_not_map hf k3
     ·exact fam_not_map m1 k3
 ·intro i z r hz hm
  rcases hget' hm with ⟨rfl, e⟩ | ⟨rfl, e⟩ | ⟨k1, k2, k3⟩
  ·cases e
  ·cases e
  ·rcases hold hz with ⟨rfl, _⟩ | ⟨_, h2⟩
   ·omega
   ·obtain ⟨r', e1, e2⟩ := hr.loop _ _ _ h2 k3
    refine ⟨r', ?_, e2.mono hsub⟩
    rw [hkeep (hr.dom _ _ h2).2]
    ·exact e1
    ·intro h4
     rcases hr.disj _ _ _ _ h2 hx h4 with rfl | ⟨g1, g2, m1, m2, m3⟩
     ·exact fam_not_loop hf k3
     ·exact fam_not_loop m1 k3
 ·intro i j z z' hz hz' hg
  have hcross : ∀ {i z}, i < h.next -> β i = some z -> z.g = y.g →
    ∃ f1 f2, (⟨(h.t.set f.root (.row dat h.next low' false n0)).set h.next (.alias f.root off (pos + news.length)), h.next + 1, min h.wr f.root⟩ : AH).fam i = some f1 ∧
     (⟨(h.t.set f.root (.row dat h.next low' false n0)).set h.next (.alias f.root off (pos + news.length)), h.next + 1, min h.wr f.root⟩ : AH).fam h.next = some f2 /\ f1.root = f2.root /\ z.s + y.lo = y.s + z.lo := by
   intro i z hi hb hgy
   rcases hblk with ⟨k, _⟩ | ⟨k1, k2, vs, k⟩
   ·have := (hr.dom _ _ hb).2; omega
   ·rcases hr.disj _ _ _ _ hb hx (hgy.trans k1) with rfl | ⟨g1, g2, m1, m2, m3⟩
    ·rw [hx] at hb; cases hb
     exact ⟨_, _, by rw [hfam hi, hf]; rfl, hfamN, by simp, by omega⟩
    ·rw [hf] at m2; cases m2
     rcases m3 with ⟨m3, m4⟩ | ⟨_, m4⟩
     ·exact ⟨_, _, by rw [hfam hi, m1]; rfl, hfamN, by simp [m3], by omega⟩
     ·rw [hro] at m4; cases m4
  rcases hold hz with ⟨rfl, rfl⟩ | ⟨h1, h2⟩
  ·rcases hold hz' with ⟨rfl, rfl⟩ | ⟨h3, h4⟩
   ·exact .inl rfl
   ·obtain ⟨f1, f2, k1, k2, k3, k4⟩ := hcross h3 h4 hg.symm
    exact .inr ⟨f2, f1, k2, k1, .inl ⟨k3.symm, by omega⟩⟩
  ·rcases hold hz' with ⟨rfl, rfl⟩ | ⟨h3, h4⟩
   ·obtain ⟨f1, f2, k1, k2, k3, k4⟩ := hcross h1 h2 hg
    exact .inr ⟨f1, f2, k1, k2, .inl ⟨k3, by omega⟩⟩
   ·rcases hr.disj _ _ _ _ h2 h4 hg with k | ⟨g1, g2, k1, k2, k3⟩
    ·exact .inl k
    ·refine .inr ⟨_, _, by rw [hfam h1, k1]; rfl, by rw [hfam h3, k2]; rfl, ?_⟩
     rcases k3 with ⟨k3, k4⟩ | ⟨k3, k4⟩
     ·left
      refine ⟨?_, k4⟩
      by_cases m1 : g1.root = f.root <;> by_cases m2 : g2.root = f.root <;> simp [m1, m2] <;> omega
     ·right
      have n1 : g1.root ≠ f.root := fun e => by have := (fam_same hf k1 e.symm).2.2.2; rw [k3, hro] at this; cases this
      have n2 : g2.root ≠ f.root := fun e => by have := (fam_same hf k2 e.symm).2.2.2; rw [k4, hro] at this; cases this
      simp [n1, n2, k3, k4]
 ·intro i z m s e l hz hm
  rcases hget' hm with ⟨rfl, e⟩ | ⟨rfl, e⟩ | ⟨k1, k2, k3⟩
  ·cases e
  ·cases e
  ·rcases hold hz with ⟨rfl, _⟩ | ⟨_, h2⟩
   ·omega
   ·obtain ⟨e0, m', e1, e2⟩ := hr.more.iter _ _ _ _ _ _ h2 k3
    refine ⟨e0, m', ?_, e2.mono hsub⟩
    rw [hkeep (hr.dom _ _ h2).2]
    ·exact e1
    ·intro h4
     rcases hr.disj _ _ _ _ h2 hx h4 with rfl | ⟨g1, g2, m1, m2, m3⟩
     ·exact fam_not_iter hf k3
     ·exact fam_not_iter m1 k3
 ·intro g c hg
  obtain ⟨el, fz, h1⟩ := hr.more.glob g c hg
  refine ⟨el, fz, ?_⟩
  rw [hkeep (Array.getElem?_eq_some_iff.1 h1).1]
  ·exact h1
  ·intro e
   subst e
   have := hr.more.apart _ _ hx (by rw [hg]; rfl)
   rw [roOf_some hf, hro] at this
   cases this
 ·intro i z hz hg
  rcases hold hz with ⟨rfl, rfl⟩ | ⟨h1, h2⟩
  ·rcases hblk with ⟨k, _⟩ | ⟨k, _⟩
   ·have := hr.more.glob_lt hg
    omega
   ·rw [k] at hg
    have := hr.more.apart _ _ hx hg
    rw [roOf_some hf, hro] at this
    cases this
  ·have h3 := hr.more.apart _ _ h2 hg
   unfold roOf at h3 ⊢
   rw [hfam h1]
   cases h4 : h.fam i with
   | none => rw [h4] at h3; cases h3
   | some f' =>
    rw [h4] at h3
    have h3 : f'.ro = true := h3
    by_cases m : f'.root = f.root
    ·have := (fam_same hf h4 m.symm).2.2.2
     rw [h3, hro] at this
     cases this
    ·simp [m, h3]
 ·intro i o ho
  rcases hget' ho with ⟨rfl, _⟩ | ⟨rfl, _⟩ | ⟨k, _, _⟩
  ·exact Nat.lt_succ_self _
  ·exact Nat.lt_succ_of_lt hrt
  ·exact Nat.lt_succ_of_lt k
 all_goals try
  have hfam2 : ∀ {i g}, (⟨(h.t.set f.root (.row dat h.next low' false n0)).set h.next (.alias f.root off (pos + news.length)), h.next + 1, min h.wr f.root⟩ : AH).fam i = some g →
    (i = h.next /\ g = ⟨f.root, off, pos + news.length, dat, h.next, low', false⟩) \/ (i < h.next /\ ∃ f', h.fam i = some f' /\ ((f'.root = f.root /\ g = { f' with data := dat, cur := h.next, low := low', ro := false }) \/ (f'.root ≠ f.root /\ g = f'))) := by
   intro i g hg
   by_cases h1 : i = h.next
   ·subst h1; rw [hfamN] at hg; cases hg; exact .inl ⟨rfl, rfl⟩
   ·have hl : i < h.next := by
     unfold AH.fam at hg
     cases ho : ((h.t.set f.root (.row dat h.next low' false n0)).set h.next (.alias f.root off (pos + news.length))).get i with
     | none => simp only [ho] at hg; cases hg
     | some o =>
      rcases hget' ho with ⟨e, _⟩ | ⟨e, _⟩ | ⟨k, _, _⟩
      ·exact absurd e h1
      ·omega
      ·exact k
    rw [hfam hl] at hg
    cases h3 : h.fam i with
    | none => rw [h3] at hg; cases hg
    | some f' =>
     rw [h3] at hg
     simp only [Option.map_some, Option.some.injEq] at hg
     refine .inr ⟨hl, f', rfl, ?_⟩
     by_cases h4 : f'.root = f.root
     ·rw [if_pos h4] at hg; exact .inl ⟨h4, hg.symm⟩
     ·rw [if_neg h4] at hg; exact .inr ⟨h4, hg.symm⟩
 ·intro i g hg
  rcases hfam2 hg with ⟨rfl, rfl⟩ | ⟨_, f', h3, (⟨_, rfl⟩ | ⟨_, rfl⟩)⟩
  ·simp only; omega
  ·exact (hw.lon i f' h3 : f'.lo <= f'.n)
  ·exact hw.lon _ _ h3
 ·intro i g hg hc
  rcases hfam2 hg with ⟨rfl, rfl⟩ | ⟨hl, f', h3, (⟨_, rfl⟩ | ⟨_, rfl⟩)⟩
  ·exact hlen.symm
  ·simp only at hc; omega
  ·exact hw.curn _ _ h3 hc
 ·intro i g hg hc
  rcases hfam2 hg with ⟨rfl, rfl⟩ | ⟨hl, f', h3, (⟨h4, rfl⟩ | ⟨_, rfl⟩)⟩
  ·exact absurd rfl hc
  ·have := (hbelow h3 h4).1
   simp only; omega
  ·exact hw.stale _ _ h3 hc
 ·intro i g hg
  rcases hfam2 hg with ⟨rfl, rfl⟩ | ⟨hl, f', h3, (⟨h4, rfl⟩ | ⟨_, rfl⟩)⟩
  ·exact Nat.lt_succ_self _
  ·exact Nat.lt_succ_self _
  ·exact Nat.lt_succ_of_lt (hw.cur _ _ h3)
 ·intro i r lo n hi
  have hfr : ((h.t.set f.root (.row dat h.next low' false n0)).set h.next (.alias f.root off (pos + news.length))).get f.root = some (.row dat h.next low' false n0) := by
   rw [Tr.get_set_ne _ _ ow, Tr.get_set_eq]
  rcases hget' hi with ⟨rfl, e⟩ | ⟨rfl, e⟩ | ⟨k1, k2, k3⟩
  ·cases e
   exact ⟨_, _, _, _, _, hfr, by omega⟩
  ·cases e
  ·obtain ⟨d, c, l, ro, m0, q1, q2⟩ := hw.ali _ _ _ _ k3
   by_cases h3 : r = f.root
   ·subst h3
    exact ⟨_, _, _, _, _, hfr, by omega⟩
   ·have := hw.lt _ _ q1
    exact ⟨d, c, l, ro, m0, by rw [Tr.get_set_ne _ _ ow, Tr.get_set_ne _ _ h3]; exact q1, q2⟩
 ·exact {
   sub := hsub
   new := fun i z a b => by
    rcases hold a with ⟨rfl, _⟩ | ⟨_, h2⟩
    ·exact Nat.le_refl _
    ·rw [b] at h2; cases h2
   all := fun i a b => by
    have : i = h.next := by simp only at b; omega
    subst this
    rw [upd_same]; rfl
   blk := fun i z a b => by
    rcases hold a with ⟨rfl, rfl⟩ | ⟨_, h2⟩
    ·rcases hblk with ⟨k, _⟩ | ⟨k1, k2, vs, k⟩
     ·exact .inl k
     ·exact .inr ⟨id, x, hx, k1.symm, by rw [rootOf_eq hf]; exact Nat.min_le_right _ _, by unfold roOf; rw [hf]; exact hro⟩
    ·rw [b] at h2; cases h2
   size := hsz
   os := hos
   tape := htp
   output := hou
   frame := fun b hb => by
    rcases hblk with ⟨_, k⟩ | ⟨k1, k2, vs, k⟩
    ·exact .inl (k b hb)
    ·by_cases h1 : b = x.g
     ·exact .inr ⟨id, x, hx, h1.symm, by rw [rootOf_eq hf]; exact Nat.min_le_right _ _, by unfold roOf; rw [hf]; exact hro⟩
     ·exact .inl (k.oth _ h1)
   next := Nat.le_succ _
   wr := Nat.min_le_left _ _
   root := fun i hi => by
    unfold rootOf
    rw [hfam hi]
    cases h3 : h.fam i with
    | none => rfl
    | some f' => by_cases m : f'.root = f.root <;> simp [m]
   ro := fun i hi => by
    unfold roOf
    rw [hfam hi]
    cases h3 : h.fam i with
    | none => rfl
    | some f' =>
     by_cases m : f'.root = f.root
     ·have := (fam_same hf h3 m.symm).2.2.2
      simp [m, this, hro]
     ·simp [m]
   objs := fun i hi h2 => by
    simp only at h2
    rw [Tr.get_set_ne _ _ ow, Tr.get_set_ne _ _ ow] }
def AObj.flat : AObj -> Bool
 | .map .. | .loop _ | .iter .. => true
 | _ => false
theorem fam_flat {h : AH} {id : Nat} {o : AObj} (ho : h.t.get id = some o) (hf : o.flat = true) : h.fam id = none := by
 unfold AH.fam
 rw [ho]
 cases o <;> first | rfl | cases hf
theorem hr_setObj (hr : HR β h w) (hw : Wf h) {id : Nat} {x : Bx} {o1 o2 : AObj} (hx : β id = some x) (hm : h.t.get id = some o1) (hf1 : o1.flat = true) (hf2 : o2.flat = true)
  (hmap : ∀ es ck, o2 = .map es ck -> ∃ es' : Array MapEntry, w'.heap[x.g]? = some (.map es' ck) /\ EsR β es es'.toList)
  (hloop : ∀ r, o2 = .loop r -> ∃ r', w'.heap[x.g]? = some (.loop r') /\ LoopR β r r')
  (hiter : ∀ m s e l, o2 = .iter m s e l -> x.s = 0 /\ ∃ m', w'.heap[x.g]? = some (.mapIter m' s ⟨e⟩ l) /\ IterR β m m')
  (hw2 : ∀ b, b ≠ x.g -> w'.heap[b]? = w.heap[b]?) (hsz : w'.heap.size = w.heap.size) (hos : w'.os = w.os) (htp : w'.tape = w.tape) (hou : w'.output = w.output) :
  HR β { h with t := h.t.set id o2, wr := min h.wr id } w' /\ Wf { h with t := h.t.set id o2, wr := min h.wr id } ∧
  Evo β h w β { h with t := h.t.set id o2, wr := min h.wr id } w' := by
 have hn := fam_flat hm hf1
 have hfam : ∀ i, ({ h with t := h.t.set id o2, wr := min h.wr id } : AH).fam i = h.fam i := by
  intro i
  by_cases h1 : i = id
  ·subst h1
   rw [hn]
   exact fam_flat (Tr.get_set_eq _ _ _) hf2
  ·unfold AH.fam
   simp only
   rw [Tr.get_set_ne _ _ h1]
   cases hg : h.t.get i with
   | none => rfl
   | some o =>
    cases o with
    | row => rfl
    | map => rfl
    | loop => rfl
    | iter => rfl
    | alias r lo n =>
     simp only
     obtain ⟨d, c, l, ro, n0, k, _⟩ := hw.ali _ _ _ _ hg
     have : r ≠ id := fun e => by rw [e, hm] at k; cases k; cases hf1
     rw [Tr.get_set_ne _ _ this]
 have hne : ∀ {i z f}, β i = some z -> h.fam i = some f -> z.g ≠ x.g := by
  intro i z f h1 h2 h3
  rcases hr.disj _ _ _ _ h1 hx h3 with rfl | ⟨g1, g2, k1, k2, _⟩
  ·rw [hn] at h2; cases h2
  ·rw [hn] at k2; cases k2
 have hne2 : ∀ {i z}, β i = some z -> i ≠ id -> z.g ≠ x.g := by
  intro i z h1 h2 h3
  rcases hr.disj _ _ _ _ h1 hx h3 with k | ⟨g1, g2, k1, k2, _⟩
  ·exact h2 k
  ·rw [hn] at k2; cases k2
 refine ⟨⟨fun i z a => ⟨(hr.dom _ _ a).1, by rw [hsz]; exact (hr.dom _ _ a).2⟩, ?_, ?_, ?_, ?_, ⟨?_, ?_, ?_⟩⟩, ⟨?_, ?_, ?_, ?_, ?_, ?_⟩, ?_⟩
 ·intro i z f a b
  rw [hfam] at b
  exact (hr.row _ _ _ a b).mono (.refl _) (hw2 _ (hne a b))
 ·intro i z es3 ck3 a b
  by_cases h1 : i = id
  ·subst h1
   rw [Tr.get_set_eq] at b
   rw [hx] at a
   cases a; cases b
   exact hmap _ _ rfl
  ·rw [Tr.get_set_ne _ _ h1] at b
   obtain ⟨es', e1, e2⟩ := hr.map _ _ _ _ a b
   exact ⟨es', by rw [hw2 _ (hne2 a h1)]; exact e1, e2⟩
 ·intro i z r a b
  by_cases h1 : i = id
  ·subst h1
   rw [Tr.get_set_eq] at b
   rw [hx] at a
   cases a; cases b
   exact hloop _ rfl
  ·rw [Tr.get_set_ne _ _ h1] at b
   obtain ⟨r', e1, e2⟩ := hr.loop _ _ _ a b
   exact ⟨r', by rw [hw2 _ (hne2 a h1)]; exact e1, e2⟩
 ·intro i j z z' a b c
  rcases hr.disj _ _ _ _ a b c with k | ⟨g1, g2, k1, k2, k3⟩
  ·exact .inl k
  ·exact .inr ⟨g1, g2, by rw [hfam]; exact k1, by rw [hfam]; exact k2, k3⟩
 ·intro i z m s e l a b
  by_cases h1 : i = id
  ·subst h1
   rw [Tr.get_set_eq] at b
   rw [hx] at a
   cases a; cases b
   exact hiter _ _ _ _ rfl
  ·rw [Tr.get_set_ne _ _ h1] at b
   obtain ⟨e0, m', e1, e2⟩ := hr.more.iter _ _ _ _ _ _ a b
   exact ⟨e0, m', by rw [hw2 _ (hne2 a h1)]; exact e1, e2⟩
 ·intro g c hg
  obtain ⟨el, fz, h1⟩ := hr.more.glob g c hg
  refine ⟨el, fz, ?_⟩
  rw [hw2]
  ·exact h1
  ·intro e
   subst e
   have := hr.more.apart _ _ hx (by rw [hg]; rfl)
   rw [roOf_none hn] at this
   cases this
 ·intro i z a b
  unfold roOf
  rw [hfam]
  exact hr.more.apart _ _ a b
 ·intro i o ho
  by_cases h1 : i = id
  ·subst h1; exact hw.lt _ _ hm
  ·exact hw.lt _ _ (by simpa [Tr.get_set_ne _ _ h1] using ho)
 ·intro i f a; rw [hfam] at a; exact hw.lon _ _ a
 ·intro i f a; rw [hfam] at a; exact hw.curn _ _ a
 ·intro i f a; rw [hfam] at a; exact hw.stale _ _ a
 ·intro i f a; rw [hfam] at a; exact hw.cur _ _ a
 ·intro i r lo n a
  by_cases h1 : i = id
  ·subst h1; rw [Tr.get_set_eq] at a; cases a; cases hf2
  ·rw [Tr.get_set_ne _ _ h1] at a
   obtain ⟨d, c, l, ro, n0, k, k2⟩ := hw.ali _ _ _ _ a
   have : r ≠ id := fun e => by rw [e, hm] at k; cases k; cases hf1
   exact ⟨d, c, l, ro, n0, by rw [Tr.get_set_ne _ _ this]; exact k, k2⟩
 ·have hro : roOf h id = false := by unfold roOf; rw [hn]
  have hrt : rootOf h id = id := by unfold rootOf; rw [hn]
  exact {
   sub := .refl _
   new := fun _ _ a b => by rw [a] at b; cases b
   all := fun id a b => absurd b (Nat.not_lt.2 a)
   blk := fun _ _ a b => by rw [a] at b; cases b
   size := Nat.le_of_eq hsz.symm
   os := hos
   tape := htp
   output := hou
   frame := fun b hb => by
    by_cases h1 : b = x.g
    ·exact .inr ⟨id, x, hx, h1.symm, by rw [hrt]; exact Nat.min_le_right _ _, hro⟩
    ·exact .inl (hw2 _ h1)
   next := Nat.le_refl _
   wr := Nat.min_le_left _ _
   root := fun i _ => by unfold rootOf; rw [hfam]
   ro := fun i _ => by unfold roOf; rw [hfam]
   objs := fun i _ h2 => Tr.get_set_ne _ _ (by simp only at h2; omega) }
theorem hr_setMap (hr : HR β h w) (hw : Wf h) {id : Nat} {x : Bx} {es es2 : List MapEntry} {ck ck2 : Nat} {es2' : Array MapEntry} (hx : β id = some x) (hm : h.t.get id = some (.map es ck)) (he : EsR β es2 es2'.toList)
  (hw1 : w'.heap[x.g]? = some (.map es2' ck2)) (hw2 : ∀ b, b ≠ x.g -> w'.heap[b]? = w.heap[b]?) (hsz : w'.heap.size = w.heap.size) (hos : w'.os = w.os) (htp : w'.tape = w.tape) (hou : w'.output = w.output) :
  HR β { h with t := h.t.set id (.map es2 ck2), wr := min h.wr id } w' /\ Wf { h with t := h.t.set id (.map es2 ck2), wr := min h.wr id } ∧
  Evo β h w β { h with t := h.t.set id (.map es2 ck2), wr := min h.wr id } w' :=
 hr_setObj hr hw hx hm rfl rfl (fun _ _ e => by cases e; exact ⟨_, hw1, he⟩) (fun _ e => by cases e) (fun _ _ _ _ e => by cases e) hw2 hsz hos htp hou
theorem hr_load (P : Program) (hr : HR β h w) (hw : Wf h) {id off k : Nat} {cs : List Value} {x : Bx} (hl : loadC h id off k = some cs) (hx : β id = some x) :
  x.lo <= off /\ cs.length = k /\ ∃ cs', VRl β cs cs' /\ (loadCells (x.at_ off) k).run P w = .ok ⟨cs'⟩ w /\ ∀ (i : Nat) (v : Value), cs'[i]? = some v -> w.cell? (x.at_ (off + i)) = some v := by
 unfold loadC at hl
 cases hf : h.fam id with
 | none => rw [hf] at hl; cases hl
 | some f =>
 rw [hf] at hl
 simp only at hl
 split at hl
 case isFalse => cases hl
 rename_i hc
 simp only [Option.some.injEq] at hl
 subst hl
 obtain ⟨r1, c, el, fz, r2, r3, r4, r5⟩ := hr.row _ _ _ hx hf
 have hN : off + k <= f.data.length := by
  have := hc.2
  unfold Fam.rb at this
  split at this
  ·have := hw.curn _ _ hf ‹_›; omega
  ·have := hw.stale _ _ hf ‹_›; omega
 have hlen : ((f.data.drop off).take k).length = k := by simp; omega
 have hread : ∀ j, j < k -> ∃ v v', f.data[off + j]? = some v /\ c[x.s + (off + j - x.lo)]? = some v' /\ VR β v v' := by
  intro j hj
  have h1 : f.data[off + j]? = some f.data[off + j] := List.getElem?_eq_getElem ow
  obtain ⟨v', k1, k2⟩ := r4 (off + j) _ ow ow h1
  exact ⟨_, v', h1, k1, k2⟩
 have hxo : x.lo <= off := by omega
 have hcell : ∀ i, i < k -> w.cell? (x.at_ (off + i)) = c[x.s + (off + i - x.lo)]? := by
  intro i _
  simp [World.cell?, Bx.at_, r2]
 refine ⟨hxo, hlen, (List.range k).map fun j => (c[x.s + (off + j - x.lo)]?).getD undef, ⟨by simp [hlen], fun i v v' a b => ?_⟩, ?_, fun i v a => ?_⟩
 ·have hi : i < k := by
   rcases Nat.lt_or_ge i k with q | q
   ·exact q
   ·rw [List.getElem?_eq_none (by rw [hlen]; exact q)] at a; cases a
  obtain ⟨u, u', k1, k2, k3⟩ := hread i hi
  rw [List.getElem?_take_of_lt hi, List.getElem?_drop, k1] at a
  cases a
  simp [hi, k2] at b
  subst b
  exact k3
 ·rw [run_loadCells (P := P) w (x.at_ off) k (fun j => (c[x.s + (off + j - x.lo)]?).getD undef) ?_]
  intro j hj
  obtain ⟨u, u', k1, k2, k3⟩ := hread j hj
  have : (x.at_ off).add j = x.at_ (off + j) := by
   unfold Addr.add Bx.at_
   split
   ·subst_vars; simp
   ·simp; omega
  rw [this, hcell j hj, k2]
  rfl
 ·have hi : i < k := by
   rcases Nat.lt_or_ge i k with q | q
   ·exact q
   ·rw [List.getElem?_eq_none (by simpa using q)] at a; cases a
  obtain ⟨u, u', k1, k2, k3⟩ := hread i hi
  simp [hi, k2] at a
  subst a
  rw [hcell i hi, k2]
end
end Go.AM
namespace Go.AM
section
variable {P : Program} {β : Ren} {h : AH} {w : World} {e : Tr Value} {a : Act}
theorem ev_sound (he : EnvW β e a.tmps) {o : Operand} {v : Value} (hv : ev e o = some v) : VR β v (a.eval o) := by
 cases o with
 | tmp t =>
  obtain ⟨v', h1, h2⟩ := he _ _ hv
  have : a.eval (.tmp t) = v' := by simp [Act.eval, h1]
  rw [this]; exact h2
 | const c =>
  simp only [ev] at hv
  split at hv
  ·cases hv; exact .of_free ‹_›
  ·cases hv
 | global g =>
  simp only [ev] at hv
  split at hv
  ·cases hv; exact .gptr
  ·cases hv
 | func f =>
  simp only [ev, Option.some.injEq] at hv
  subst hv
  exact .func rfl (fun i v v' h => by simp at h) rfl (fun i v v' h => by simp at h)
theorem evs_sound (he : EnvW β e a.tmps) : ∀ {xs : List Operand} {vs : List Value}, evs e xs = some vs -> VRl β vs (xs.map a.eval)
 | [], vs, hv => by cases hv; exact .nil
 | x :: r, vs, hv => by
  simp only [evs] at hv
  cases h1 : ev e x with
  | none => rw [h1] at hv; cases hv
  | some v =>
   cases h2 : evs e r with
   | none => rw [h1, h2] at hv; cases hv
   | some ws =>
    rw [h1, h2] at hv
    cases hv
    exact .cons (ev_sound he h1) (evs_sound he h2)
def OkOp (P : Program) (β : Ren) (h : AH) (w : World) (s : Sem Next) (v : Value) (h' : AH) : Prop :=
 ∃ v' w' β', (s.run P w = .ok (.value v') w' \/ (s.run P w = .ok .skip w' /\ v' = undef)) /\ VR β' v v' /\ HR β' h' w' /\ Wf h' /\ Evo β h w β' h' w'
theorem OkOp.pure (hr : HR β h w) (hw : Wf h) {s : Sem Next} {v v' : Value} (hs : s.run P w = .ok (.value v') w) (hv : VR β v v') : OkOp P β h w s v h :=
 ⟨v', w, β, .inl hs, hv, hr, hw, .refl _ _ _⟩
theorem run_info {t : TypeId} {i : TypeInfo} (hi : P.info? t = some i) : (typeInfo t).run P w = .ok i w := by simp [typeInfo, hi]
theorem run_sz {t : TypeId} {n : Nat} (hi : szOf P t = some n) : (sizeOf t).run P w = .ok n w := by
 unfold szOf at hi
 cases h1 : P.info? t with
 | none => rw [h1] at hi; cases hi
 | some i => rw [h1] at hi; cases hi; simp [sizeOf, run_info h1]
theorem run_agg {t : TypeId} {b : Bool} (hi : aggOf P t = some b) : (isAgg t).run P w = .ok b w := by
 unfold aggOf at hi
 cases h1 : P.underlying t with
 | none => rw [h1] at hi; cases hi
 | some d =>
  rw [h1] at hi
  cases d <;> (simp only [Option.some.injEq] at hi; subst hi; simp [isAgg, run_underlying h1])
theorem run_zeroV {t : TypeId} {z : Value} (hi : (P.info? t).bind (·.zero) = some z) : (zeroValue t).run P w = .ok z w := by
 cases h1 : P.info? t with
 | none => rw [h1] at hi; cases hi
 | some i =>
  rw [h1] at hi
  simp only [Option.bind_some] at hi
  simp [zeroValue, run_info h1, hi]
theorem at_add {x : Bx} {off n : Nat} (h : x.lo <= off) : (x.at_ off).add n = x.at_ (off + n) := by
 unfold Addr.add Bx.at_
 split
 ·subst_vars; simp
 ·simp; omega
theorem ptr_inv {v' : Value} {id off : Nat} (hv : VR β (.pointer (some ⟨id, off, none⟩)) v') : ∃ x, β id = some x /\ x.lo <= off /\ v' = .pointer (some (x.at_ off)) := by
 cases hv with
 | free v hf => simp [free0] at hf
 | ptr h1 h2 => exact ⟨_, h1, h2, rfl⟩
theorem slice_inv {v' : Value} {id off len cap : Nat} (hv : VR β (.slice (some ⟨id, off, none⟩) len cap) v') :
  ∃ x a' cap', β id = some x /\ x.lo <= off /\ CapR x off len cap cap' /\ (cap' = 0 \/ a' = x.at_ off) /\ v' = .slice (some a') len cap' := by
 cases hv with
 | free v hf => simp [free0] at hf
 | slice h1 h2 h3 h4 => exact ⟨_, _, _, h1, h2, h3, h4, rfl⟩
theorem CapR.le {x : Bx} {off len cap cap' : Nat} (h : CapR x off len cap cap') : len <= cap' := by
 rcases h with ⟨_, h⟩ | ⟨e, k, _, _, _, h, _⟩ <;> omega
theorem gptr_inv {v' : Value} {g off : Nat} (hv : VR β (.pointer (some ⟨g, off, some 0⟩)) v') : v' = .pointer (some ⟨g, off, none⟩) := by
 cases hv with
 | free v hf => simp [free0] at hf
 | gptr => rfl
theorem gsl_inv {v' : Value} {g off len cap : Nat} (hv : VR β (.slice (some ⟨g, off, some 0⟩) len cap) v') : ∃ cap', len <= cap' /\ v' = .slice (some ⟨g, off, none⟩) len cap' := by
 cases hv with
 | free v hf => simp [free0] at hf
 | gsl h => exact ⟨_, h, rfl⟩
theorem g_add {g off n : Nat} : (⟨g, off, none⟩ : Addr).add n = ⟨g, off + n, none⟩ := by
 unfold Addr.add
 split
 ·subst_vars; rfl
 ·rfl
theorem glob_load (hr : HR β h w) {g off k : Nat} {cs : List Value} (hl : loadG g off k = some cs) :
  cs.length = k /\ cs.all free0 = true /\ (loadCells ⟨g, off, none⟩ k).run P w = .ok ⟨cs⟩ w /\ ∀ (i : Nat) (v : Value), cs[i]? = some v -> w.cell? ⟨g, off + i, none⟩ = some v := by
 unfold loadG at hl
 split at hl
 case h_2 => cases hl
 rename_i c hg
 split at hl
 case isFalse => cases hl
 rename_i hc
 cases hl
 obtain ⟨el, fz, r2⟩ := hr.more.glob g c hg
 have hlen : ((c.drop off).take k).length = k := by simp; omega
 have hfree := gCells_free hg
 have hcell : ∀ i, w.cell? ⟨g, off + i, none⟩ = c[off + i]? := by
  intro i
  simp [World.cell?, r2]
 refine ⟨hlen, ?_, ?_, fun i v a => ?_⟩
 ·rw [List.all_eq_true] at hfree ⊢
  exact fun v hv => hfree v (List.mem_of_mem_drop (List.mem_of_mem_take hv))
 ·rw [run_loadCells (P := P) w ⟨g, off, none⟩ k (fun j => (c[off + j]?).getD undef) ?_]
  ·congr 2
   refine List.ext_getElem? fun i => ?_
   by_cases hi : i < k
   ·simp [hi]
    rw [List.getElem?_eq_getElem (show off + i < c.length by omega)]
    rfl
   ·rw [List.getElem?_eq_none (by simp; omega), List.getElem?_eq_none (by simp; omega)]
  ·intro j hj
   rw [g_add, hcell j, List.getElem?_eq_getElem (show off + j < c.length by omega)]
   rfl
 ·rw [hcell]
  have hi : i < k := by
   rcases Nat.lt_or_ge i k with q | q
   ·exact q
   ·rw [List.getElem?_eq_none (by rw [hlen]; exact q)] at a; cases a
  rwa [List.getElem?_take_of_lt hi, List.getElem?_drop] at a
theorem loadV_sound (hr : HR β h w) (hw : Wf h) {t : TypeId} {p v p' : Value} (hl : loadV P h t p = some v) (hp : VR β p p') :
  ∃ v' a', p' = .pointer (some a') /\ (loadVar t a').run P w = .ok v' w /\ VR β v v' := by
 unfold loadV at hl
 split at hl
 case h_3 => cases hl
 case h_2 =>
  rename_i g off
  have := gptr_inv hp
  subst this
  split at hl
  ·rename_i hagg
   cases hs : szOf P t with
   | none => rw [hs] at hl; cases hl
   | some sz =>
    rw [hs] at hl
    simp only at hl
    cases hc : loadG g off sz with
    | none => rw [hc] at hl; cases hl
    | some cs =>
     rw [hc] at hl
     cases hl
     obtain ⟨_, h1, h3, _⟩ := glob_load (P := P) hr hc
     exact ⟨_, _, rfl, by simp [loadVar, run_agg hagg, run_sz hs, h3], .of_free1 h1⟩
  ·rename_i hagg
   cases hc : loadG g off 1 with
   | none => rw [hc] at hl; cases hl
   | some cs =>
    rw [hc] at hl
    split at hl
    ·rename_i u hu
     cases hl
     cases hu
     obtain ⟨_, h1, h3, h4⟩ := glob_load (P := P) hr hc
     have h5 := h4 0 _ rfl
     simp only [Nat.add_zero] at h5
     simp only [List.all_cons, List.all_nil, Bool.and_true] at h1
     exact ⟨_, _, rfl, by simp [loadVar, run_agg hagg, h5], .free _ h1⟩
    ·cases hl
  ·cases hl
 rename_i id off
 obtain ⟨x, hx, hlo, rfl⟩ := ptr_inv hp
 split at hl
 ·rename_i hagg
  cases hs : szOf P t with
  | none => rw [hs] at hl; cases hl
  | some sz =>
   rw [hs] at hl
   simp only at hl
   cases hc : loadC h id off sz with
   | none => rw [hc] at hl; cases hl
   | some cs =>
    rw [hc] at hl
    cases hl
    obtain ⟨_, h1, cs', h2, h3, _⟩ := hr_load P hr hw hc hx
    exact ⟨_, _, rfl, by simp [loadVar, run_agg hagg, run_sz hs, h3], h2.toArr⟩
 ·rename_i hagg
  cases hc : loadC h id off 1 with
  | none => rw [hc] at hl; cases hl
  | some cs =>
   rw [hc] at hl
   split at hl
   ·rename_i u hu
    cases hl
    cases hu
    obtain ⟨_, h1, cs', h2, h3, h4⟩ := hr_load P hr hw hc hx
    have hl' : cs'.length = 1 := by rw [<-h2.1]; rfl
    match cs', hl' with
    | [u'], _ =>
     refine ⟨u', _, rfl, ?_, h2.2 0 _ _ rfl rfl⟩
     have := h4 0 u' rfl
     simp only [Nat.add_zero] at this
     simp [loadVar, run_agg hagg, this]
   ·cases hl
 ·cases hl
theorem storeC_len {id off : Nat} {vs : List Value} {h' : AH} (hs : storeC h id off vs = some h') : ∃ f, h.fam id = some f /\ id = f.cur /\ f.ro = false /\ f.lo <= off /\ off + vs.length <= f.n /\ vs.all oneC = true := by
 unfold storeC at hs
 cases hf : h.fam id with
 | none => rw [hf] at hs; cases hs
 | some f =>
  rw [hf] at hs
  simp only at hs
  split at hs
  ·rename_i hc; exact ⟨f, rfl, hc⟩
  ·cases hs
theorem all_oneC {l l' : List Value} (hv : VRl β l l') (h1 : l.all oneC = true) : l'.all oneC = true := by
 rw [List.all_eq_true] at h1 ⊢
 intro u hu
 obtain ⟨i, hi, rfl⟩ := List.mem_iff_getElem.1 hu
 have hi' : i < l.length := by rw [hv.1]; exact hi
 rw [(hv.2 i _ _ (List.getElem?_eq_getElem hi') (List.getElem?_eq_getElem hi)).oneC]
 exact h1 _ (List.getElem_mem hi')
theorem storeC_sound (P : Program) (hr : HR β h w) (hw : Wf h) {id off : Nat} {vs vs' : List Value} {h' : AH} {x : Bx} (hs : storeC h id off vs = some h') (hx : β id = some x) (hv : VRl β vs vs') :
  ∃ w', (storeCells (x.at_ off) vs').run P w = .ok () w' /\ HR β h' w' /\ Wf h' /\ Evo β h w β h' w' := by
 obtain ⟨f, hf, hcur, hro, hlo, hn, h1⟩ := storeC_len hs
 obtain ⟨r1, c, el, fz, r2, r3, r4, r5⟩ := hr.row _ _ _ hx hf
 obtain ⟨r6, r7⟩ := r5 hro
 have := hv.1
 obtain ⟨w', k1, k2⟩ := run_stores P x.g el fz (x.s + (off - x.lo)) vs' 0 w c r2 r6 ow (all_oneC hv h1)
 obtain ⟨k3, k4, k5⟩ := hr_store hr hw hs hx hv k2
 exact ⟨w', k1, k3, k4, k5⟩
theorem storeV_sound (hr : HR β h w) (hw : Wf h) {t : TypeId} {p p' v v' : Value} {h' : AH} (hs : storeV P h t p v = some h') (hp : VR β p p') (hv : VR β v v') :
  ∃ a' w', p' = .pointer (some a') /\ (storeVar t a' v').run P w = .ok () w' /\ HR β h' w' /\ Wf h' /\ Evo β h w β h' w' := by
 unfold storeV at hs
 split at hs
 ·rename_i id off sz hsz
  obtain ⟨x, hx, hlo, rfl⟩ := ptr_inv hp
  split at hs
  ·rename_i hc
   have hcl := hv.cells
   obtain ⟨w', k1, k2, k3, k4⟩ := storeC_sound P hr hw hs hx hcl
   refine ⟨_, w', rfl, ?_, k2, k3, k4⟩
   have : v'.cells.size = sz := by rw [<-hc]; exact hcl.1.symm
   simp [storeVar, run_sz hsz, this, k1]
  ·cases hs
 ·cases hs
theorem fieldAddr_sound {t : TypeId} {p p' v : Value} {i : Nat} (hf : fieldAddrV P t p i = some v) (hp : VR β p p') : ∃ v', (Instr.fieldAt t p' i).run P w = .ok v' w /\ VR β v v' := by
 unfold fieldAddrV at hf
 split at hf
 ·rename_i id off fs hu
  obtain ⟨x, hx, hlo, rfl⟩ := ptr_inv hp
  cases h1 : fs[i]? with
  | none => rw [h1] at hf; cases hf
  | some f =>
   rw [h1] at hf
   simp only at hf
   split at hf
   ·rename_i n hn
    cases hf
    refine ⟨.pointer (some (x.at_ (off + f.offset))), ?_, .ptr hx ow⟩
    simp [Instr.fieldAt, run_underlying hu, h1, Instr.sureAddr, fieldPlace, run_sz hn, at_add hlo]
   ·cases hf
 ·rename_i id off fs hu
  have := gptr_inv hp
  subst this
  cases h1 : fs[i]? with
  | none => rw [h1] at hf; cases hf
  | some f =>
   rw [h1] at hf
   simp only at hf
   split at hf
   ·rename_i n hn
    cases hf
    refine ⟨.pointer (some ⟨id, off + f.offset, none⟩), ?_, .gptr⟩
    simp [Instr.fieldAt, run_underlying hu, h1, Instr.sureAddr, fieldPlace, run_sz hn, g_add]
   ·cases hf
 ·cases hf
theorem indexAddr_sound {t : TypeId} {x y x' y' v : Value} (hf : indexAddrV P t x y = some v) (hx : VR β x x') (hy : VR β y y') : ∃ v', (Instr.indexAt t x' y').run P w = .ok v' w /\ VR β v v' := by
 unfold indexAddrV at hf
 split at hf
 case h_2 => cases hf
 rename_i k n
 have : y' = .int k n := hy.free0_eq rfl
 subst this
 split at hf
 ·rename_i len el id off hu
  obtain ⟨b, hb, hlo, rfl⟩ := ptr_inv hx
  cases hs : szOf P el with
  | none => rw [hs] at hf; cases hf
  | some sz =>
   rw [hs] at hf
   simp only at hf
   split at hf
   ·rename_i hc
    cases hf
    refine ⟨.pointer (some (b.at_ (off + n.toNat * sz))), ?_, .ptr hb ow⟩
    simp [Instr.indexAt, asIntOf, run_underlying hu, Instr.sureAddr, hc, run_sz hs, at_add hlo]
   ·cases hf
 ·rename_i el id off len cap hu
  obtain ⟨b, a', cap', hb, hlo, hc, ha, rfl⟩ := slice_inv hx
  cases hs : szOf P el with
  | none => rw [hs] at hf; cases hf
  | some sz =>
   rw [hs] at hf
   simp only at hf
   split at hf
   ·rename_i hcd
    cases hf
    have := hc.le
    have ha' : a' = b.at_ off := ha.resolve_left ow
    subst ha'
    refine ⟨.pointer (some (b.at_ (off + n.toNat * sz))), ?_, .ptr hb ow⟩
    simp [Instr.indexAt, asIntOf, run_underlying hu, hcd, run_sz hs, at_add hlo]
   ·cases hf
 ·rename_i len el id off hu
  have := gptr_inv hx
  subst this
  cases hs : szOf P el with
  | none => rw [hs] at hf; cases hf
  | some sz =>
   rw [hs] at hf
   simp only at hf
   split at hf
   ·rename_i hc
    cases hf
    refine ⟨.pointer (some ⟨id, off + n.toNat * sz, none⟩), ?_, .gptr⟩
    simp [Instr.indexAt, asIntOf, run_underlying hu, Instr.sureAddr, hc, run_sz hs, g_add]
   ·cases hf
 ·rename_i el id off len cap hu
  obtain ⟨cap', hc, hx'⟩ := gsl_inv hx
  subst hx'
  cases hs : szOf P el with
  | none => rw [hs] at hf; cases hf
  | some sz =>
   rw [hs] at hf
   simp only at hf
   split at hf
   ·rename_i hcd
    cases hf
    refine ⟨.pointer (some ⟨id, off + n.toNat * sz, none⟩), ?_, .gptr⟩
    simp [Instr.indexAt, asIntOf, run_underlying hu, hcd, run_sz hs, g_add]
   ·cases hf
 ·cases hf
end
end Go.AM
namespace Go.AM
section
variable {P : Program} {β : Ren} {h : AH} {w : World} {e : Tr Value} {a : Act}
def OVR (β : Ren) : Option Value -> Option Value -> Prop
 | none, none => True
 | some v, some v' => VR β v v'
 | _, _ => False
theorem evO_sound (he : EnvW β e a.tmps) {o : Option Operand} {v : Option Value} (hv : evO e o = some v) : OVR β v (o.map a.eval) := by
 cases o with
 | none => cases hv; trivial
 | some x =>
  simp only [evO] at hv
  cases h1 : ev e x with
  | none => rw [h1] at hv; cases hv
  | some u => rw [h1] at hv; cases hv; exact ev_sound he h1
theorem nat_inv {v : Option Value} {d n : Nat} (hn : nat? v d = some n) : (v = none /\ n = d) \/ ∃ k z, v = some (.int k z) /\ 0 <= z /\ n = z.toNat := by
 unfold nat? at hn
 split at hn
 ·cases hn; exact .inl ⟨rfl, rfl⟩
 ·rename_i k z
  split at hn
  ·cases hn; exact .inr ⟨_, _, rfl, ‹_›, rfl⟩
  ·cases hn
 ·cases hn
theorem ovr_nat {v v' : Option Value} {d n : Nat} (hn : nat? v d = some n) (ho : OVR β v v') : v' = v := by
 rcases nat_inv hn with ⟨rfl, _⟩ | ⟨k, z, rfl, _, _⟩
 ·cases v' with
  | none => rfl
  | some _ => exact ho.elim
 ·cases v' with
  | none => exact ho.elim
  | some u => rw [VR.free0_eq (β := β) ho rfl]
theorem run_bounds {isS : Bool} {lo hi mx : Option Value} {len C l hh m : Nat} (h1 : nat? lo 0 = some l) (h2 : nat? hi len = some hh) (h3 : nat? mx C = some m) (h4 : l <= hh) (h5 : hh <= m) (h6 : m <= C)
  (h7 : mx.isSome = true -> hi.isSome = true) : (Instr.sliceBounds isS len C lo hi mx).run P w = .ok (l, hh, m) w := by
 have bound : ∀ {k : IntKind} {z : Int} {y : Nat} {code : BoundsCode}, 0 <= z -> z.toNat <= y -> (Instr.sliceBound (.int k z) y code).run P w = .ok z.toNat w := by
  intro k z y code a b
  have : z <= y := by omega
  simp [Instr.sliceBound, asIntOf, a, this]
 rcases nat_inv h1 with ⟨rfl, rfl⟩ | ⟨k1, z1, rfl, p1, rfl⟩ <;> rcases nat_inv h2 with ⟨rfl, rfl⟩ | ⟨k2, z2, rfl, p2, rfl⟩ <;> rcases nat_inv h3 with ⟨rfl, rfl⟩ | ⟨k3, z3, rfl, p3, rfl⟩ <;>
  first
   | (simp at h7; done)
   | (simp only [Instr.sliceBounds, Sem.run_bind, Sem.run_pure, Result.andThen_ok, bound p3 h6, bound p2 h5, bound p1 h4])
   | (simp only [Instr.sliceBounds, Sem.run_bind, Sem.run_pure, Result.andThen_ok, bound p2 h5, bound p1 h4])
   | (simp only [Instr.sliceBounds, Sem.run_bind, Sem.run_pure, Result.andThen_ok, bound p3 h6, bound p2 h5])
   | (simp only [Instr.sliceBounds, Sem.run_bind, Sem.run_pure, Result.andThen_ok, bound p2 h5])
   | (simp only [Instr.sliceBounds, Sem.run_bind, Sem.run_pure, Result.andThen_ok, bound p1 h4])
   | (simp only [Instr.sliceBounds, Sem.run_bind, Sem.run_pure, Result.andThen_ok])
theorem loadC_z (hr : HR β h w) (hw : Wf h) {id off k : Nat} {cs : List Value} {x : Bx} (hl : loadC h id off k = some cs) (hx : β id = some x) : k = 0 \/ x.s + (off - x.lo) + k <= x.z := by
 rcases Nat.eq_zero_or_pos k with h0 | h0
 ·exact .inl h0
 right
 unfold loadC at hl
 cases hf : h.fam id with
 | none => rw [hf] at hl; cases hl
 | some f =>
 rw [hf] at hl
 simp only at hl
 split at hl
 case isFalse => cases hl
 rename_i hc
 obtain ⟨r1, c, el, fz, r2, r3, r4, r5⟩ := hr.row _ _ _ hx hf
 have hN : off + k <= f.data.length := by
  have := hc.2
  unfold Fam.rb at this
  split at this
  ·have := hw.curn _ _ hf ‹_›; omega
  ·have := hw.stale _ _ hf ‹_›; omega
 obtain ⟨v', k1, _⟩ := r4 (off + k - 1) _ ow ow (List.getElem?_eq_getElem ow)
 have : x.s + (off + k - 1 - x.lo) < c.size := by
  rcases Nat.lt_or_ge (x.s + (off + k - 1 - x.lo)) c.size with q | q
  ·exact q
  ·rw [Array.getElem?_eq_none q] at k1; cases k1
 omega
theorem sliceG_sound (hr : HR β h w) (hw : Wf h) {sz len cap C : Nat} {ad ad' : Option Addr} {v : Value} {lo hi mx lo' hi' mx' : Option Value} {s' : Option Value -> Option Value -> Option Value -> Sem Value}
  (hs : sliceG h sz (.slice ad len cap) ad len cap lo hi mx = some v) (hx : VR β (.slice ad len cap) (.slice ad' len C)) (hlo : OVR β lo lo') (hhi : OVR β hi hi') (hmx : OVR β mx mx')
  (hgo : ∀ {l hh M : Nat}, nat? lo 0 = some l -> nat? hi len = some hh -> nat? mx C = some M -> l <= hh -> hh <= M -> M <= C -> (mx.isSome = true -> hi.isSome = true) →
   (s' lo hi mx).run P w = .ok (.slice (if M = l then ad' else ad'.map (·.add (l * sz))) (hh - l) (M - l)) w) : ∃ v', (s' lo' hi' mx').run P w = .ok v' w /\ VR β v v' := by
 unfold sliceG at hs
 split at hs
 case h_2 => cases hs
 rename_i l hh m hl hhh hm
 rw [ovr_nat hl hlo, ovr_nat hhh hhi, ovr_nat hm hmx]
 split at hs
 ·rename_i hmk
  obtain ⟨k1, rfl, rfl⟩ := hmk
  split at hs
  case isFalse => cases hs
  rename_i hz
  obtain ⟨rfl, rfl, rfl, z4⟩ := hz
  cases hs
  cases ad with
  | some _ => cases k1
  | none =>
  have hM : ∃ M, nat? mx C = some M /\ M <= C := by
   cases mx with
   | none => exact ⟨C, rfl, Nat.le_refl _⟩
   | some mv => exact ⟨0, (by cases mv <;> exact hm), Nat.zero_le _⟩
  obtain ⟨M, hM1, hM2⟩ := hM
  exact ⟨.slice (if M = 0 then ad' else ad'.map (·.add (0 * sz))) (0 - 0) (M - 0), hgo hl hhh hM1 (Nat.le_refl _) (Nat.zero_le _) hM2 z4, .empty⟩
 rename_i hnmk
 split at hs
 ·-- some places are known to be there
  rename_i hsp
  obtain ⟨hmx0, hlc⟩ := hsp
  split at hs
  case h_2 => cases hs
  rename_i id off
  split at hs
  case isFalse => cases hs
  rename_i hc
  obtain ⟨⟨c4, c5, c6⟩, c1, c2⟩ := hc
  generalize spareK sz len cap = k' at *
  cases hs
  obtain ⟨b, a', cap', hb, hblo, hcr, ha, hq⟩ := slice_inv hx
  cases hq
  have hmxn : mx = none := by
   cases mx with
   | none => rfl
   | some _ => cases hmx0
  subst hmxn
  obtain ⟨e, k, e1, e2, e3, e4, e5⟩ : ∃ e k, 0 < e /\ e < 4294967296 /\ cap = len + e + 4294967296 * k /\ len + k <= C /\ b.s + (off - b.lo) + C * e <= b.z := by
   rcases hcr with ⟨q, _⟩ | q
   ·omega
   ·exact q
  have he : e = sz := by omega
  have hk : k = k' := by omega
  subst he
  subst hk
  have hgo' := hgo (M := C) hl hhh rfl c1 ow (Nat.le_refl _) (fun q => by cases q)
  have hmap : (if C = l then some a' else (some a').map (·.add (l * e))) = some (if C = l then a' else a'.add (l * e)) := by
   split <;> rfl
  rw [hmap] at hgo'
  rw [hgo']
  refine ⟨_, rfl, .slice hb ow (.inr ⟨e, len + k - hh, c4, c5, rfl, by omega, ?_⟩) ?_⟩
  ·have e1 : l * e + (C - l) * e = C * e := by rw [<-Nat.add_mul]; congr 1; omega
   omega
  ·by_cases q : C = l
   ·left; omega
   ·right
    rw [if_neg q, ha.resolve_left ow, at_add hblo]
 rename_i hnsp
 split at hs
 case isFalse => cases hs
 rename_i hc
 obtain ⟨c1, c2, c3, c4, c5, c6, hx2⟩ := hc
 have go : ∀ {M : Nat}, nat? mx C = some M -> hh <= M -> M <= C -> (s' lo hi mx).run P w = .ok (.slice (if M = l then ad' else ad'.map (·.add (l * sz))) (hh - l) (M - l)) w :=
  fun a b c => hgo hl hhh a c1 b c c5
 split at hs
 ·-- nil
  split at hs
  case isFalse => cases hs
  rename_i h0
  obtain ⟨rfl, rfl⟩ := h0
  cases hs
  have : Value.slice ad' 0 C = .slice none 0 0 := hx.free0_eq rfl
  cases this
  have hm0 : m = 0 := by omega
  subst hm0
  rw [go hm c2 c3]
  refine ⟨_, rfl, ?_⟩
  have hl0 : l = 0 := by omega
  have hh0 : hh = 0 := by omega
  subst hl0; subst hh0
  simp
  exact .free _ rfl
 ·rename_i id off
  obtain ⟨b, a', cap', hb, hblo, hcr, ha, hq⟩ := slice_inv hx
  cases hq
  have hle := hcr.le
  -- the new address
  have haddr : ∀ {M : Nat}, M <= C -> M - l = 0 \/ (if M = l then a' else a'.add (l * sz)) = b.at_ (off + l * sz) := by
   intro M hM
   by_cases q : M = l
   ·left; omega
   ·rcases Nat.lt_or_ge l M with q2 | q2
    ·right
     rw [if_neg q, ha.resolve_left ow, at_add hblo]
    ·left; omega
  have hmap : ∀ {M : Nat}, (if M = l then some a' else (some a').map (·.add (l * sz))) = some (if M = l then a' else a'.add (l * sz)) := by
   intro M; split <;> rfl
  have hM : ∃ M, nat? mx C = some M /\ M = m /\ M <= C := by
   cases mx with
   | none =>
    have hm' : m = len := by simp [nat?] at hm; exact hm.symm
    have : cap = len := by
     rcases hx2 with q | q
     ·simp at q
     ·exact q
    rcases hcr with ⟨_, q⟩ | ⟨e, k, q1, _, q2, q3, q4⟩
    ·exact ⟨C, rfl, by omega, Nat.le_refl _⟩
    ·omega
   | some u =>
    refine ⟨m, ?_, rfl, by omega⟩
    rcases nat_inv hm with ⟨q, _⟩ | ⟨k, z, q1, q2, q3⟩
    ·cases q
    ·cases q1; simp [nat?, q2, q3]
  obtain ⟨M, m1, m2, m3⟩ := hM
  subst m2
  rw [go m1 c2 m3, hmap]
  refine ⟨_, rfl, ?_⟩
  split at hs
  ·rename_i hhm
   cases hs
   subst hhm
   by_cases q : hh = l
   ·subst q
    simp only [if_true]
    exact .slice hb hblo (.inl ⟨rfl, rfl⟩) (.inl ow)
   ·rw [if_neg q]
    exact .slice hb ow (.inl ⟨rfl, rfl⟩) (haddr m3)
  ·rename_i hhm
   split at hs
   case isFalse => cases hs
   rename_i hld
   cases hs
   obtain ⟨cs, hcs⟩ := Option.isSome_iff_exists.1 hld
   refine .slice hb ow (.inr ⟨sz, M - hh, c4, c6, rfl, by omega, ?_⟩) (haddr m3)
   rcases loadC_z hr hw hcs hb with q | q
   ·have : len = 0 := by rcases Nat.mul_eq_zero.1 q with q | q <;> omega
    omega
   ·have e1 : l * sz + (M - l) * sz = M * sz := by rw [<-Nat.add_mul]; congr 1; omega
    have e2 : M * sz <= len * sz := Nat.mul_le_mul_right _ c3
    omega
 ·cases hs
theorem sliceG_some {sz len cap : Nat} {x y : Value} {a : Addr} {lo hi mx : Option Value} : sliceG h sz x (some a) len cap lo hi mx = sliceG h sz y (some a) len cap lo hi mx := by
 unfold sliceG
 simp only [Option.isNone_some, Bool.false_eq_true, false_and, if_false]
theorem slice_sound (hr : HR β h w) (hw : Wf h) {t : TypeId} {x x' v : Value} {lo hi mx lo' hi' mx' : Option Value} (hs : sliceV P h t x lo hi mx = some v) (hx : VR β x x')
  (hlo : OVR β lo lo') (hhi : OVR β hi hi') (hmx : OVR β mx mx') : ∃ v', (Instr.sliceAt t x' lo' hi' mx').run P w = .ok v' w /\ VR β v v' := by
 unfold sliceV at hs
 split at hs
 case h_4 => cases hs
 case h_1 =>
  rename_i el ad len cap hu
  split at hs
  case h_2 => cases hs
  rename_i sz hsz
  have shape : ∃ a' c', x' = .slice a' len c' := by
   cases hx with
   | free _ hf =>
    cases ad with
    | some _ => simp [free0] at hf
    | none => exact ⟨_, _, rfl⟩
   | slice => exact ⟨_, _, rfl⟩
   | empty => exact ⟨_, _, rfl⟩
   | gsl => exact ⟨_, _, rfl⟩
  obtain ⟨a', c', rfl⟩ := shape
  refine sliceG_sound (s' := fun lo hi mx => Instr.sliceAt t (.slice a' len c') lo hi mx) hr hw hs hx hlo hhi hmx ?_
  intro l hh M h1 h2 h3 h4 h5 h6 h7
  simp only [Instr.sliceAt, Instr.slice, Sem.run_bind, run_underlying hu, Result.andThen_ok, run_bounds h1 h2 h3 h4 h5 h6 h7, run_sz hsz, Sem.run_pure]
 case h_2 =>
  rename_i n el id off hu
  split at hs
  case h_2 => cases hs
  rename_i sz hsz
  split at hs
  case isFalse => cases hs
  obtain ⟨b, hb, hlo2, rfl⟩ := ptr_inv hx
  rw [sliceG_some (y := .slice (some ⟨id, off, none⟩) n n)] at hs
  refine sliceG_sound (s' := fun lo hi mx => Instr.sliceAt t (.pointer (some (b.at_ off))) lo hi mx) hr hw hs (.slice hb hlo2 (.inl ⟨rfl, rfl⟩) (.inr rfl)) hlo hhi hmx ?_
  intro l hh M h1 h2 h3 h4 h5 h6 h7
  simp only [Instr.sliceAt, Instr.sureAddr, Sem.run_bind, run_underlying hu, Result.andThen_ok, Sem.run_pure, run_bounds h1 h2 h3 h4 h5 h6 h7, run_sz hsz]
  split <;> rfl
 case h_3 =>
  rename_i n el id off hu
  split at hs
  case h_2 => cases hs
  rename_i sz l hh hsz hl hhh
  split at hs
  case isFalse => cases hs
  rename_i hc
  obtain ⟨c1, c2, c3, c4⟩ := hc
  cases hs
  have := gptr_inv hx
  subst this
  cases mx with
  | some _ => cases c1
  | none =>
  rw [ovr_nat hl hlo, ovr_nat hhh hhi]
  cases mx' with
  | some _ => exact hmx.elim
  | none =>
  refine ⟨.slice (some ⟨id, off + l * sz, none⟩) (hh - l) (n - l), ?_, .gsl ow⟩
  simp only [Instr.sliceAt, Instr.sureAddr, Sem.run_bind, run_underlying hu, Result.andThen_ok, Sem.run_pure, run_bounds (mx := none) (m := n) hl hhh rfl c3 c4 (Nat.le_refl _) (fun q => by cases q), run_sz hsz, if_neg (show ¬ n = l by omega), g_add]
theorem evP_sound (he : EnvW β e a.tmps) : ∀ {xs : List (Nat × Operand)} {vs : List (Nat × Value)}, evP e xs = some vs →
  ∃ vs', xs.map (fun q => (q.1, a.eval q.2)) = vs' /\ vs.length = vs'.length /\ ∀ (i : Nat) (p p' : Nat × Value), vs[i]? = some p -> vs'[i]? = some p' -> p'.1 = p.1 /\ VR β p.2 p'.2
 | [], vs, hv => by cases hv; exact ⟨[], rfl, rfl, fun i p p' q => by simp at q⟩
 | (k, x) :: r, vs, hv => by
  simp only [evP] at hv
  cases h1 : ev e x with
  | none => rw [h1] at hv; cases hv
  | some v =>
   cases h2 : evP e r with
   | none => rw [h1, h2] at hv; cases hv
   | some ws =>
    rw [h1, h2] at hv
    cases hv
    obtain ⟨ws', q1, q2, q3⟩ := evP_sound he h2
    refine ⟨(k, a.eval x) :: ws', by simp [q1], by simp [q2], fun i p p' m1 m2 => ?_⟩
    cases i with
    | zero => simp at m1 m2; subst m1; subst m2; exact ⟨rfl, ev_sound he h1⟩
    | succ i => exact q3 i p p' (by simpa using m1) (by simpa using m2)
theorem foldl_set_vr {β : Ren} (off : Nat) : ∀ (l l' : List (Value × Nat)), l.length = l'.length -> (∀ (i : Nat) (p p' : Value × Nat), l[i]? = some p -> l'[i]? = some p' -> p'.2 = p.2 /\ VR β p.1 p'.1) →
  ∀ (cs cs' : Array Value), VRl β cs.toList cs'.toList -> VRl β (l.foldl (fun cs x => cs.setIfInBounds (off + x.2) x.1) cs).toList (l'.foldl (fun cs x => cs.setIfInBounds (off + x.2) x.1) cs').toList
 | [], [], _, _, cs, cs', hc => hc
 | [], _ :: _, hl, _, _, _, _ => by simp at hl
 | _ :: _, [], hl, _, _, _, _ => by simp at hl
 | x :: l, x' :: l', hl, hp, cs, cs', hc => by
  obtain ⟨e1, e2⟩ := hp 0 x x' rfl rfl
  simp only [List.foldl_cons]
  refine foldl_set_vr off l l' (by simpa using hl) (fun i p p' a b => hp (i + 1) p p' (by simpa using a) (by simpa using b)) _ _ ?_
  rw [e1]
  have hsz : cs.size = cs'.size := by simpa using hc.1
  refine ⟨by simp [hsz], fun i v v' a b => ?_⟩
  simp only [Array.getElem?_toList] at a b
  by_cases hi : off + x.2 = i
  ·subst hi
   by_cases hlt : off + x.2 < cs.size
   ·rw [Array.getElem?_setIfInBounds_self_of_lt hlt] at a
    rw [Array.getElem?_setIfInBounds_self_of_lt ow] at b
    cases a; cases b; exact e2
   ·rw [Array.getElem?_eq_none (by simp; omega)] at a; cases a
  ·rw [Array.getElem?_setIfInBounds_ne hi] at a b
   exact hc.2 i v v' (by simpa using a) (by simpa using b)
theorem fill_vr {β : Ren} (place : Nat -> Option (Nat × Nat)) : ∀ (ps ps' : List (Nat × Value)), ps.length = ps'.length →
  (∀ (i : Nat) (p p' : Nat × Value), ps[i]? = some p -> ps'[i]? = some p' -> p'.1 = p.1 /\ VR β p.2 p'.2) →
  ∀ (cs cs' r : Array Value), VRl β cs.toList cs'.toList -> Instr.fill place cs ps = some r -> ∃ r', Instr.fill place cs' ps' = some r' /\ VRl β r.toList r'.toList
 | [], [], _, _, cs, cs', r, hc, hf => by
  simp only [Instr.fill, Option.some.injEq] at hf
  subst hf
  exact ⟨cs', rfl, hc⟩
 | [], _ :: _, hl, _, _, _, _, _, _ => by simp at hl
 | _ :: _, [], hl, _, _, _, _, _, _ => by simp at hl
 | (k, v) :: ps, (k', v') :: ps', hl, hp, cs, cs', r, hc, hf => by
  obtain ⟨e1, e2⟩ := hp 0 _ _ rfl rfl
  simp only at e1 e2
  subst e1
  simp only [Instr.fill] at hf ⊢
  cases hpl : place k' with
  | none => rw [hpl] at hf; cases hf
  | some os =>
   obtain ⟨off, size⟩ := os
   rw [hpl] at hf
   simp only at hf ⊢
   have hcl := e2.cells
   have h1 : v'.cells.size = v.cells.size := by simpa using hcl.1.symm
   have h2 : cs'.size = cs.size := by simpa using hc.1.symm
   rw [h1, h2]
   split at hf
   ·cases hf
   ·rename_i hcond
    rw [if_neg hcond]
    refine fill_vr place ps ps' (by simpa using hl) (fun i p p' a b => hp (i + 1) p p' (by simpa using a) (by simpa using b)) _ _ r ?_ hf
    have hz : ∀ (A : Array Value) (B : Array Value), (A.zipIdx.foldl (fun cs (x : Value × Nat) => cs.setIfInBounds (off + x.2) x.1) B) = (A.toList.zipIdx.foldl (fun cs (x : Value × Nat) => cs.setIfInBounds (off + x.2) x.1) B) := by
     intro A B
     rw [<-Array.foldl_toList, Array.toList_zipIdx]
    have := foldl_set_vr (β := β) off v.cells.toList.zipIdx v'.cells.toList.zipIdx (by simp [hcl.1]) (fun i p p' a b => by
     rw [List.getElem?_zipIdx] at a b
     cases q1 : v.cells.toList[i]? with
     | none => rw [q1] at a; cases a
     | some u =>
      cases q2 : v'.cells.toList[i]? with
      | none => rw [q2] at b; cases b
      | some u' =>
       rw [q1] at a; rw [q2] at b
       cases a; cases b
       exact ⟨rfl, hcl.2 i _ _ q1 q2⟩) cs cs' hc
    rw [<-hz, <-hz] at this
    exact this
end
end Go.AM
namespace Go.AM
section
variable {P : Program} {β : Ren} {h : AH} {w : World} {e : Tr Value} {a : Act}
theorem quick_zero {t : TypeId} {z : Value} (hq : quick P (zeroValue t) = some z) : (P.info? t).bind (·.zero) = some z := by
 unfold zeroValue typeInfo at hq
 simp only [quick_bind] at hq
 cases h1 : P.info? t with
 | none => simp [program, quick, h1, stuck] at hq
 | some i =>
  simp only [program, quick, h1, Option.bind_some] at hq
  change (quick P (match i.zero with | some v => pure v | none => unsupported _)) = some z at hq
  cases h2 : i.zero with
  | none => rw [h2] at hq; cases hq
  | some v =>
   rw [h2] at hq
   have : some v = some z := hq
   simpa [h2] using this
theorem build_sound {t : TypeId} {ps ps' : List (Nat × Value)} {v z : Value} (hz : (P.info? t).bind (·.zero) = some z) (hf : free1 z = true) (hq : quick P (Instr.build t ⟨ps⟩) = some v)
  (hl : ps.length = ps'.length) (hp : ∀ (i : Nat) (p p' : Nat × Value), ps[i]? = some p -> ps'[i]? = some p' -> p'.1 = p.1 /\ VR β p.2 p'.2) :
  ∃ v', (Instr.build t ⟨ps'⟩).run P w = .ok v' w /\ VR β v v' := by
 unfold Instr.build at hq ⊢
 simp only [quick_bind, Option.bind_eq_some_iff] at hq
 obtain ⟨z0, hz0, d, hd, hq⟩ := hq
 have : z0 = z := by
  have := quick_zero hz0
  rw [hz] at this
  cases this; rfl
 subst this
 have hzc : VRl β z0.cells.toList z0.cells.toList := (VR.of_free1 hf).cells
 cases d with
 | struct fields =>
  simp only [quick_bind, Option.bind_eq_some_iff] at hq
  obtain ⟨places, hpl, hq⟩ := hq
  cases hfl : Instr.fill (places[·]?) z0.cells ps with
  | none => simp only [hfl] at hq; cases hq
  | some cells =>
   simp only [hfl] at hq
   obtain ⟨cells', hc1, hc2⟩ := fill_vr (β := β) (places[·]?) ps ps' hl hp _ _ _ hzc hfl
   have hv : v = .agg cells := by simpa [quick, pure] using hq.symm
   subst hv
   refine ⟨.agg cells', ?_, ?_⟩
   ·simp only [Sem.run_bind, quick_run hz0, quick_run hd, Result.andThen_ok, quick_run hpl, hc1, Sem.run_pure]
   ·exact hc2.toArr
 | array n el =>
  simp only [quick_bind, Option.bind_eq_some_iff] at hq
  obtain ⟨size, hsz, hq⟩ := hq
  cases hfl : Instr.fill (fun i => some (i * size, size)) z0.cells ps with
  | none => simp only [hfl] at hq; cases hq
  | some cells =>
   simp only [hfl] at hq
   obtain ⟨cells', hc1, hc2⟩ := fill_vr (β := β) (fun i => some (i * size, size)) ps ps' hl hp _ _ _ hzc hfl
   have hv : v = .agg cells := by simpa [quick, pure] using hq.symm
   subst hv
   refine ⟨.agg cells', ?_, ?_⟩
   ·simp only [Sem.run_bind, quick_run hz0, quick_run hd, Result.andThen_ok, quick_run hsz, hc1, Sem.run_pure]
   ·exact hc2.toArr
 | _ => cases hq
theorem zerosC_length (z : List Value) : ∀ n, (zerosC z n).length = n * z.length
 | 0 => by simp [zerosC]
 | n + 1 => by rw [zerosC, List.length_append, zerosC_length z n, Nat.succ_mul]; omega
theorem zerosC_get (z : List Value) : ∀ n i, i < n * z.length -> (zerosC z n)[i]? = z[i % z.length]?
 | 0, i, h => by simp at h
 | n + 1, i, h => by
  rw [zerosC]
  by_cases hi : i < z.length
  ·rw [List.getElem?_append_left hi, Nat.mod_eq_of_lt hi]
  ·rw [List.getElem?_append_right ow, zerosC_get z n (i - z.length) (by rw [Nat.succ_mul] at h; omega)]
   rw [Nat.mod_eq_sub_mod (show i ≥ z.length by omega)]
theorem zeros_range {z : Array Value} {sz n : Nat} (hz : z.size = sz) (h0 : 0 < sz) : (Array.range (n * sz)).map (fun i => z[i % z.size]!) = ⟨zerosC z.toList n⟩ := by
 refine Array.ext_getElem? fun i => ?_
 have hR : (⟨zerosC z.toList n⟩ : Array Value)[i]? = (zerosC z.toList n)[i]? := List.getElem?_toArray
 rw [hR]
 by_cases hi : i < n * sz
 ·have : i % z.size < z.size := Nat.mod_lt _ ow
  have e := zerosC_get z.toList n i (by simpa [hz] using hi)
  simp only [Array.length_toList] at e
  rw [e]
  simp [hi, this]
 ·rw [Array.getElem?_eq_none (by simp; omega), List.getElem?_eq_none (by simp [zerosC_length, hz]; omega)]
theorem zerosC_free {z : List Value} (hz : z.all free1 = true) : ∀ n, (zerosC z n).all free1 = true
 | 0 => rfl
 | n + 1 => by rw [zerosC, List.all_append, hz, zerosC_free hz n]; rfl
theorem free0_free1 {v : Value} (h : free0 v = true) : free1 v = true := by cases v <;> first | exact h | (simp [free0] at h)
theorem free1_cases {z : Value} (hz : free1 z = true) : (∃ cs : Array Value, z = .agg cs /\ cs.toList.all free0 = true) \/ (free0 z = true /\ z.cells.toList = [z]) := by
 cases z with
 | agg cs => exact .inl ⟨cs, rfl, hz⟩
 | _ => exact .inr ⟨hz, rfl⟩
theorem cells_free0 {z : Value} (hz : free1 z = true) : z.cells.toList.all free0 = true := by
 rcases free1_cases hz with ⟨cs, rfl, hc⟩ | ⟨h0, h1⟩
 ·exact hc
 ·rw [h1]; simp [h0]
theorem cells_free {z : Value} (hz : free1 z = true) : z.cells.toList.all free1 = true := by
 have := cells_free0 hz
 rw [List.all_eq_true] at this ⊢
 exact fun v hv => free0_free1 (this v hv)
theorem bytes_free : ∀ l : List UInt8, (l.map fun b => Value.int .u8 b.toNat).all free1 = true
 | [] => rfl
 | b :: l => by rw [List.map_cons, List.all_cons, bytes_free l]; rfl
theorem newRow_sound (hr : HR β h w) (hw : Wf h) {cells cells' : List Value} (el : TypeId) (hc : VRl β cells cells') :
  HR (upd β h.next ⟨w.heap.size, 0, 0, cells'.length⟩) (newRow h cells).2 (w.alloc (.cells ⟨cells'⟩ el)) /\ Wf (newRow h cells).2 ∧
  Evo β h w (upd β h.next ⟨w.heap.size, 0, 0, cells'.length⟩) (newRow h cells).2 (w.alloc (.cells ⟨cells'⟩ el)) := by
 have := hr_newRow hr hw cells ⟨cells'⟩ el (by simp [hc.1]) (fun p v hp => by
  have hlt : p < cells'.length := by
   rw [<-hc.1]
   rcases Nat.lt_or_ge p cells.length with q | q
   ·exact q
   ·rw [List.getElem?_eq_none q] at hp; cases hp
  exact ⟨cells'[p], by simp [hlt], hc.2 p _ _ hp (List.getElem?_eq_getElem hlt)⟩)
 exact this
theorem box_sound (hr : HR β h w) (hw : Wf h) {t : TypeId} {v v' : Value} (hv : VR β v v') {s : Sem Next} (hs : s.run P w = .ok (.value (.pointer (some ⟨w.heap.size, 0, none⟩))) (w.alloc (.cells v'.cells t))) :
  OkOp P β h w s (AM.newRow h v.cells.toList).1 (AM.newRow h v.cells.toList).2 := by
 obtain ⟨k1, k2, k3⟩ := newRow_sound hr hw t hv.cells
 refine ⟨_, _, _, .inl hs, ?_, k1, k2, k3⟩
 exact .ptr (upd_same _ _ _) (Nat.zero_le _)
theorem slice_new {β : Ren} {id len cap cap' g z : Nat} (hc : CapR ⟨g, 0, 0, z⟩ 0 len cap cap') : VR (upd β id ⟨g, 0, 0, z⟩) (.slice (some ⟨id, 0, none⟩) len cap) (.slice (some ⟨g, 0, none⟩) len cap') :=
 .slice (upd_same _ _ _) (Nat.zero_le _) hc (.inr rfl)
theorem cellsV_sound (hr : HR β h w) (hw : Wf h) {t el : TypeId} {sz m : Nat} {x x' : Value} {cs : List Value} (hu : P.underlying t = some (.slice el)) (hsz : szOf P el = some sz) (hc : cellsV P h t x = some (m, cs)) (hx : VR β x x') :
  (Builtin.lenOf x').run P w = .ok m w /\ ∃ cs', VRl β cs cs' /\ (Builtin.firstCells sz m x').run P w = .ok ⟨cs'⟩ w ∧
   (∀ n, n <= m -> cs.length = m * sz -> (Builtin.firstCells sz n x').run P w = .ok ⟨cs'.take (n * sz)⟩ w) := by
 unfold cellsV at hc
 split at hc
 ·rename_i s
  cases hc
  have : x' = .string s := hx.free0_eq rfl
  subst this
  refine ⟨rfl, _, .free (bytes_free _), ?_, fun n hn hl => ?_⟩
  ·have : (s.extract 0 s.size) = s := ByteArray.extract_zero_size
   simp only [Builtin.firstCells, this]
   exact congrArg (Result.ok · w) (Array.ext' (by simp))
  ·have hsz1 : s.size = 0 \/ sz = 1 := by
    have hl : s.size = s.size * sz := by
     rw [List.length_map, Array.length_toList] at hl
     exact hl
    rcases Nat.eq_zero_or_pos s.size with q | q
    ·exact .inl q
    ·right
     rcases Nat.lt_trichotomy sz 1 with r | r | r
     ·have : sz = 0 := by omega
      subst this; rw [Nat.mul_zero] at hl; omega
     ·exact r
     ·have : s.size * 2 <= s.size * sz := Nat.mul_le_mul_left _ r
      omega
   simp only [Builtin.firstCells, Sem.run_pure]
   congr 1
   apply Array.ext_getElem?
   intro i
   rcases hsz1 with q | q
   ·have hn0 : n = 0 := by omega
    subst hn0
    simp
   ·subst q
    simp only [Array.getElem?_map, List.getElem?_toArray, Nat.mul_one]
    have he : (s.extract 0 n).data = s.data.extract 0 n := by
     simp [ByteArray.data_extract]
    rw [he]
    by_cases hi : i < n
    ·rw [List.getElem?_take_of_lt hi]
     simp [Array.getElem?_extract]
     rw [if_pos ow]
    ·have h1 : (s.data.extract 0 n)[i]? = none := Array.getElem?_eq_none (by simp; omega)
     rw [h1, List.getElem?_eq_none (by simp; omega)]
     rfl
 ·cases hc
  have : x' = .slice none 0 0 := hx.free0_eq rfl
  subst this
  exact ⟨rfl, [], .nil, rfl, fun n _ _ => by simp [Builtin.firstCells]⟩
 ·cases hc
  have shape : ∃ a' c', x' = .slice a' 0 c' := by cases hx <;> exact ⟨_, _, rfl⟩
  obtain ⟨a', c', rfl⟩ := shape
  cases a' with
  | none =>
   refine ⟨rfl, [], .nil, rfl, fun n hn _ => ?_⟩
   simp [Builtin.firstCells]
  | some a' =>
   refine ⟨rfl, [], .nil, by simp [Builtin.firstCells, loadCells, loadCellsFrom], fun n hn _ => ?_⟩
   have : n = 0 := by omega
   subst this
   simp [Builtin.firstCells, loadCells, loadCellsFrom]
 ·rename_i id off len cap
  rw [hu] at hc
  simp only [hsz] at hc
  cases hld : loadC h id off (len * sz) with
  | none => rw [hld] at hc; cases hc
  | some cs0 =>
   rw [hld] at hc
   cases hc
   obtain ⟨b, a', cap', hb, hblo, hcr, ha, rfl⟩ := slice_inv hx
   obtain ⟨_, hlen, cs', k1, k2, k3⟩ := hr_load P hr hw hld hb
   have hcl : cs'.length = m * sz := by rw [<-k1.1]; exact hlen
   have hload : ∀ n, n <= m -> (loadCells a' (n * sz)).run P w = .ok ⟨cs'.take (n * sz)⟩ w := by
    intro n hn
    rcases Nat.eq_zero_or_pos (n * sz) with q | q
    ·rw [q]; simp [loadCells, loadCellsFrom]
    ·have hcap := hcr.le
     have hn0 : 0 < n := Nat.pos_of_mul_pos_right q
     have ha' : a' = b.at_ off := ha.resolve_left ow
     subst ha'
     have hle : n * sz <= m * sz := Nat.mul_le_mul_right _ hn
     have h1 := run_loadCells_list (P := P) w (b.at_ off) (cs'.take (n * sz)) (fun j v hj => by
      have hjn : j < n * sz := by
       rcases Nat.lt_or_ge j (n * sz) with r | r
       ·exact r
       ·rw [List.getElem?_eq_none (by simp; omega)] at hj; cases hj
      rw [List.getElem?_take_of_lt hjn] at hj
      rw [at_add hblo]
      exact k3 j v hj)
     have h2 : (cs'.take (n * sz)).length = n * sz := by simp; omega
     rwa [h2] at h1
   refine ⟨rfl, cs', k1, ?_, fun n hn _ => ?_⟩
   ·have := hload m (Nat.le_refl _)
    rw [List.take_of_length_le ow] at this
    simpa [Builtin.firstCells] using this
   ·simpa [Builtin.firstCells] using hload n hn
 ·cases hc
end
end Go.AM
namespace Go.AM
theorem growBy_le (n : Nat) : ∀ r c, 256 <= c -> c <= 2 * n -> Builtin.growBy n r c <= 2 * n
 | 0, c, _, h => h
 | r + 1, c, h1, h2 => by
  unfold Builtin.growBy
  split
  ·exact h2
  ·exact growBy_le n r _ ow ow
theorem nextcap_le {n c : Nat} (h : c < n) : Builtin.nextslicecap n c <= 2 * n := by
 unfold Builtin.nextslicecap
 split
 ·omega
 ·split
  ·omega
  ·exact growBy_le n 4 c ow ow
section
variable {P : Program} {β : Ren} {h : AH} {w : World} {e : Tr Value} {a : Act}
theorem isInt_run {u : TypeId} (hz : isIntT P u = false) : ∃ d, P.underlying u = some d /\ (match d with | .int _ => true | _ => false) = false := by
 unfold isIntT at hz
 cases h1 : P.underlying u with
 | none => rw [h1] at hz; cases hz
 | some d =>
  refine ⟨d, rfl, ?_⟩
  rw [h1] at hz
  cases d <;> first | rfl | (simp at hz)
theorem append_fits {tys : Array TypeId} {ty t u el : TypeId} {sz n len cap : Nat} {base : Option Addr} {x : Value} {cs : List Value} {w' : World} (h0 : tys[0]? = some t) (h1 : tys[1]? = some u) (hz : isIntT P u = false)
  (hu : P.underlying t = some (.slice el)) (hsz : szOf P el = some sz) (hlen : (Builtin.lenOf x).run P w = .ok n w) (hc : (Builtin.firstCells sz n x).run P w = .ok ⟨cs⟩ w) (hfit : len + n <= cap)
  (hst : match base with | none => w' = w | some a => (storeCells (a.add (len * sz)) cs).run P w = .ok () w') :
  (Builtin.append_ tys ty #[.slice base len cap, x]).run P w = .ok (.slice base (len + n) cap) w' := by
 obtain ⟨d, hd, hd2⟩ := isInt_run hz
 unfold Builtin.append_
 simp only [h0, h1, List.getElem?_toArray, List.getElem?_cons_zero, List.getElem?_cons_succ, Sem.run_bind, run_underlying hu, Result.andThen_ok, run_sz hsz, run_underlying hd, Sem.run_pure]
 split
 ·rename_i k; simp at hd2
 ·cases base with
  | none =>
   simp only [Bool.false_eq_true, if_false, hlen, Sem.run_bind, Result.andThen_ok, Sem.run_ite, if_pos hfit, Bool.not_false, if_true, hc, Sem.run_pure]
   rw [show w' = w from hst]
  | some a => simp only [Bool.false_eq_true, if_false, hlen, Sem.run_bind, Result.andThen_ok, Sem.run_ite, if_pos hfit, Bool.not_false, if_true, hc, Sem.run_pure, hst]
theorem append_grows {tys : Array TypeId} {ty t u el : TypeId} {i : TypeInfo} {z : Value} {n len cap : Nat} {base : Option Addr} {x : Value} {old cs : List Value} (h0 : tys[0]? = some t) (h1 : tys[1]? = some u) (hz : isIntT P u = false)
  (hu : P.underlying t = some (.slice el)) (hi : P.info? el = some i) (hiz : i.zero = some z) (hlen : (Builtin.lenOf x).run P w = .ok n w) (hc : (Builtin.firstCells i.size n x).run P w.drew = .ok ⟨cs⟩ w.drew)
  (ho : (Builtin.firstCells i.size len (.slice base len cap)).run P w.drew = .ok ⟨old⟩ w.drew) (hfit : cap < len + n) (hb : 2 * (len + n) * i.bytes <= 281474976710656) (hn : len + n < BIG) :
  ∃ (newCap : Nat) (rest : Array Value), len + n <= newCap /\ rest.size = (newCap - (len + n)) * z.cells.size ∧
  (Builtin.append_ tys ty #[.slice base len cap, x]).run P w = .ok (.slice (some ⟨w.heap.size, 0, none⟩) (len + n) newCap) (w.drew.alloc (.cells (⟨old⟩ ++ ⟨cs⟩ ++ rest) el)) := by
 obtain ⟨d, hd, hd2⟩ := isInt_run hz
 have hnext : ¬ Builtin.nextslicecap (len + n) cap * i.bytes > 2 ^ 48 := by
  have := Nat.mul_le_mul_right i.bytes (nextcap_le hfit)
  omega
 have hbig : ¬ ((len + n : Nat) : Int) > IntKind.i64.max := by
  have : IntKind.i64.max = 9223372036854775807 := by decide
  unfold BIG at hn
  omega
 refine ⟨(Question.appendCap (len + n) cap el).cut (w.tape w.drawn (.appendCap (len + n) cap el)), Builtin.zeroCells z.cells ((Question.appendCap (len + n) cap el).cut (w.tape w.drawn (.appendCap (len + n) cap el)) - (len + n)), by simp [Question.cut], by simp [Builtin.zeroCells], ?_⟩
 unfold Builtin.append_
 simp only [h0, h1, List.getElem?_toArray, List.getElem?_cons_zero, List.getElem?_cons_succ, Sem.run_bind, run_underlying hu, Result.andThen_ok, run_sz (show szOf P el = some i.size by simp [szOf, hi]), run_underlying hd]
 have hq : (Question.appendCap (len + n) cap el).forced = false := rfl
 have hfit' : ¬ len + n <= cap := by omega
 have hw : w.drew.heap.size = w.heap.size := rfl
 change (Builtin.firstCells i.size n x).run P { w with drawn := w.drawn + 1 } = .ok ⟨cs⟩ { w with drawn := w.drawn + 1 } at hc
 change (Builtin.firstCells i.size len (.slice base len cap)).run P { w with drawn := w.drawn + 1 } = .ok ⟨old⟩ { w with drawn := w.drawn + 1 } at ho
 have hzv : ∀ W, (zeroValue el).run P W = .ok z W := fun W => run_zeroV (by simp [hi, hiz])
 simp only [Sem.run_pure, Result.andThen_ok]
 split
 ·rename_i k; simp at hd2
 ·simp only [Bool.false_eq_true, if_false, hlen, Sem.run_bind, Result.andThen_ok, Sem.run_ite, if_neg hfit', Bool.not_false, if_true, run_info hi, hbig, false_and, if_neg hnext, run_choose, hq, run_askRoom, ho, hc, hzv, Sem.run_pure]
  rfl
theorem HR.drew (hr : HR β h w) : HR β h w.drew := ⟨hr.dom, fun id x f a b => (hr.row id x f a b).mono (.refl _) rfl, hr.map, hr.loop, hr.disj, ⟨hr.more.iter, hr.more.glob, hr.more.apart⟩⟩
theorem Evo.of_drew {β' : Ren} {h' : AH} {w' : World} (e : Evo β h w.drew β' h' w') : Evo β h w β' h' w' :=
 {sub := e.sub, new := e.new, all := e.all, blk := e.blk, size := e.size, os := e.os, tape := e.tape, output := e.output, frame := e.frame, next := e.next, wr := e.wr, root := e.root, ro := e.ro, objs := e.objs }
theorem append_gen (hr : HR β h w) (hw : Wf h) {tys : Array TypeId} {ty t el : TypeId} {s s' x' v : Value} {m : Nat} {cs cs' cs'' : List Value} {h' : AH} (hu : P.underlying t = some (.slice el)) (ha : appendV P h t s m cs = some (v, h')) (hs : VR β s s') (k2 : VRl β cs cs') (k4 : VRl β cs cs'')
  (hfits : ∀ {i : TypeInfo} {base : Option Addr} {len cap : Nat} {w' : World}, P.info? el = some i -> len + m <= cap -> (match base with | none => w' = w | some a => (storeCells (a.add (len * i.size)) cs').run P w = .ok () w') -> (Builtin.append_ tys ty #[.slice base len cap, x']).run P w = .ok (.slice base (len + m) cap) w')
  (hgrows : ∀ {i : TypeInfo} {z : Value} {base : Option Addr} {len cap : Nat} {old : List Value}, P.info? el = some i -> i.zero = some z -> (Builtin.firstCells i.size len (.slice base len cap)).run P w.drew = .ok ⟨old⟩ w.drew -> cap < len + m -> 2 * (len + m) * i.bytes <= 281474976710656 -> len + m < BIG →
   ∃ (newCap : Nat) (rest : Array Value), len + m <= newCap /\ rest.size = (newCap - (len + m)) * z.cells.size /\ (Builtin.append_ tys ty #[.slice base len cap, x']).run P w = .ok (.slice (some ⟨w.heap.size, 0, none⟩) (len + m) newCap) (w.drew.alloc (.cells (⟨old⟩ ++ ⟨cs''⟩ ++ rest) el))) :
  ∃ v' w' β', (Builtin.append_ tys ty #[s', x']).run P w = .ok v' w' /\ VR β' v v' /\ HR β' h' w' /\ Wf h' /\ Evo β h w β' h' w' := by
 unfold appendV at ha
 split at ha
 case h_2 => cases ha
 rename_i el' base len cap hu'
 rw [hu] at hu'
 cases hu'
 cases hi : P.info? el with
 | none => rw [hi] at ha; cases ha
 | some i =>
 rw [hi] at ha
 simp only at ha
 split at ha
 case isFalse => cases ha
 rename_i hcond
 obtain ⟨c1, c2, c3, c4, c5, c6, c7⟩ := hcond
 obtain ⟨z, hiz, hzsz⟩ : ∃ z, i.zero = some z /\ z.cells.size = i.size := by
  cases hq : i.zero with
  | none => rw [hq] at c6; cases c6
  | some z => rw [hq] at c6; exact ⟨z, rfl, by simpa using c6⟩
 have hsz : szOf P el = some i.size := by simp [szOf, hi]
 have hl' : cs'.length = m * i.size := by rw [<-k2.1]; exact c2
 -- the shapes of s'
 by_cases hm : m = 0
 ·-- nothing is appended
  rw [if_pos hm] at ha
  cases ha
  subst hm
  have hcs' : cs' = [] := List.eq_nil_of_length_eq_zero (by simpa using hl')
  subst hcs'
  have hsome : ∀ {a' : Addr} {len cap' : Nat}, len <= cap' -> (Builtin.append_ tys ty #[.slice (some a') len cap', x']).run P w = .ok (.slice (some a') len cap') w := by
   intro a' len cap' hle
   have := hfits (base := some a') (len := len) (cap := cap') (w' := w) hi ow rfl
   simpa using this
  cases hs with
  | free v hf =>
   cases base with
   | some _ => simp [free0] at hf
   | none =>
    have hlc : len = 0 /\ cap = 0 := by
     cases len <;> cases cap <;> simp [free0] at hf <;> exact ⟨rfl, rfl⟩
    obtain ⟨rfl, rfl⟩ := hlc
    refine ⟨.slice none 0 0, w, β, ?_, .free _ rfl, hr, hw, .refl _ _ _⟩
    have := hfits (base := none) (len := 0) (cap := 0) (w' := w) hi ow rfl
    simpa using this
  | slice q1 q2 q3 q4 => exact ⟨_, w, β, hsome q3.le, .slice q1 q2 q3 q4, hr, hw, .refl _ _ _⟩
  | gsl q => exact ⟨_, w, β, hsome q, .gsl q, hr, hw, .refl _ _ _⟩
  | empty =>
   rename_i a' c'
   cases a' with
   | some a' => exact ⟨_, w, β, hsome (Nat.zero_le _), .empty, hr, hw, .refl _ _ _⟩
   | none =>
    refine ⟨.slice none 0 c', w, β, ?_, .empty, hr, hw, .refl _ _ _⟩
    have := hfits (base := none) (len := 0) (cap := c') (w' := w) hi ow rfl
    simpa using this
 rw [if_neg hm] at ha
 have hnew : ∀ {old old' : List Value} {len' : Nat} {rest : Array Value}, VRl β old old' -> VR (upd β h.next ⟨w.heap.size, 0, 0, ((⟨old'⟩ : Array Value) ++ ⟨cs''⟩ ++ rest).size⟩) (.pointer (some ⟨h.next, 0, none⟩)) (.pointer (some ⟨w.heap.size, 0, none⟩)) ∧
   HR (upd β h.next ⟨w.heap.size, 0, 0, ((⟨old'⟩ : Array Value) ++ ⟨cs''⟩ ++ rest).size⟩) (newRow h (old ++ cs)).2 (w.drew.alloc (.cells (⟨old'⟩ ++ ⟨cs''⟩ ++ rest) el)) /\ Wf (newRow h (old ++ cs)).2 ∧
   Evo β h w (upd β h.next ⟨w.heap.size, 0, 0, ((⟨old'⟩ : Array Value) ++ ⟨cs''⟩ ++ rest).size⟩) (newRow h (old ++ cs)).2 (w.drew.alloc (.cells (⟨old'⟩ ++ ⟨cs''⟩ ++ rest) el)) := by
  intro old old' len' rest hold
  have happ := hold.append k4
  have := hr_newRow (w := w.drew) hr.drew hw (old ++ cs) (⟨old'⟩ ++ ⟨cs''⟩ ++ rest) el (by simp [hold.1, k4.1]) (fun p v hp => by
   have hlt : p < (old' ++ cs'').length := by
    rw [<-happ.1]
    rcases Nat.lt_or_ge p (old ++ cs).length with q | q
    ·exact q
    ·rw [List.getElem?_eq_none q] at hp; cases hp
   have e1 : ((⟨old'⟩ : Array Value) ++ ⟨cs''⟩ ++ rest)[p]? = (old' ++ cs'')[p]? := by
    rw [<-Array.getElem?_toList]
    simp only [Array.toList_append]
    rw [List.getElem?_append_left hlt]
   rw [e1]
   exact ⟨_, List.getElem?_eq_getElem hlt, happ.2 p _ _ hp (List.getElem?_eq_getElem hlt)⟩)
  exact ⟨.ptr (upd_same _ _ _) (Nat.zero_le _), this.1, this.2.1, this.2.2.of_drew⟩
 have hzs : ∀ {old' : List Value} {N newCap : Nat} {rest : Array Value}, old'.length = N * i.size -> N + m <= newCap -> rest.size = (newCap - (N + m)) * z.cells.size -> z.cells.size = i.size →
   CapR ⟨w.heap.size, 0, 0, ((⟨old'⟩ : Array Value) ++ ⟨cs''⟩ ++ rest).size⟩ 0 (N + m) (N + m + i.size) newCap := by
  intro old' N newCap rest q1 q2 q3 q4
  refine .inr ⟨i.size, 0, c1, c7, rfl, q2, ?_⟩
  have : cs''.length = m * i.size := by rw [<-k4.1]; exact c2
  simp only [Array.size_append, List.size_toArray, q1, this, q3, q4, Nat.zero_add, Nat.sub_zero]
  rw [<-Nat.add_mul, <-Nat.add_mul]
  exact Nat.mul_le_mul_right _ ow
 have hoc : cs'.all oneC = true := all_oneC k2 c5
 -- the old cells, out of the abstract heap
 have hold : ∀ {id off : Nat} {old : List Value} {x : Bx} {a' : Addr} {cap' : Nat}, loadC h id off (len * i.size) = some old -> β id = some x -> (len = 0 \/ a' = x.at_ off) →
   ∃ old', VRl β old old' /\ old'.length = len * i.size /\ (Builtin.firstCells i.size len (.slice (some a') len cap')).run P w.drew = .ok ⟨old'⟩ w.drew := by
  intro id off old x a' cap' q1 q2 q3
  obtain ⟨_, p1, old', p2, p3, _⟩ := hr_load (w := w.drew) P hr.drew hw q1 q2
  refine ⟨old', p2, by rw [<-p2.1]; exact p1, ?_⟩
  rcases q3 with q3 | q3
  ·subst q3
   have : old' = [] := List.eq_nil_of_length_eq_zero (by rw [<-p2.1, p1]; simp)
   subst this
   simp [Builtin.firstCells, loadCells, loadCellsFrom]
  ·subst q3
   simpa [Builtin.firstCells] using p3
 cases base with
 | none =>
  simp only at ha
  split at ha
  case isFalse => cases ha
  rename_i hq
  obtain ⟨rfl, rfl⟩ := hq
  cases ha
  have : s' = .slice none 0 0 := hs.free0_eq rfl
  subst this
  obtain ⟨newCap, rest, q1, q2, q3⟩ := hgrows (base := none) (len := 0) (cap := 0) (old := []) hi hiz (by simp [Builtin.firstCells]) ow c3 c4
  obtain ⟨p1, p2, p3, p4⟩ := hnew (old := []) (old' := []) (len' := 0) (rest := rest) .nil
  refine ⟨_, _, _, q3, ?_, p2, p3, p4⟩
  rw [Nat.zero_add]
  have := hzs (old' := []) (N := 0) (newCap := newCap) (rest := rest) (by simp) q1 q2 hzsz
  rw [Nat.zero_add] at this
  exact slice_new this
 | some ad =>
  obtain ⟨id, off, spot⟩ := ad
  cases spot with
  | some _ => cases ha
  | none =>
  simp only at ha
  cases hld : loadC h id off (len * i.size) with
  | none => rw [hld] at ha; cases ha
  | some old =>
  rw [hld] at ha
  simp only at ha
  obtain ⟨b, a', cap', hb, hblo, hcr, haddr, rfl⟩ := slice_inv hs
  split at ha
  ·-- the capacity is the length: a new row
   rename_i hcap
   cases ha
   have hc' : cap' = len := by
    rcases hcr with ⟨_, q⟩ | ⟨e, k, q1, _, q2, _⟩
    ·exact q
    ·omega
   subst hc'
   obtain ⟨old', o1, o2, o3⟩ := hold (a' := a') (cap' := cap') hld hb haddr
   obtain ⟨newCap, rest, q1, q2, q3⟩ := hgrows hi hiz o3 ow c3 c4
   obtain ⟨p1, p2, p3, p4⟩ := hnew (len' := 0) (rest := rest) o1
   exact ⟨_, _, _, q3, slice_new (hzs o2 q1 q2 hzsz), p2, p3, p4⟩
  ·rename_i hcap
   split at ha
   case isFalse => cases ha
   rename_i hcap2
   have hcle := hcr.le
   obtain ⟨e', k', e1, e5, e2, e3, e4⟩ : ∃ e' k', 0 < e' /\ e' < 4294967296 /\ cap = len + e' + 4294967296 * k' /\ len + k' <= cap' /\ b.s + (off - b.lo) + cap' * e' <= b.z := by
    rcases hcr with ⟨q, _⟩ | q
    ·omega
    ·exact q
   obtain ⟨s1, s2, s3⟩ := hcap2
   have : e' = i.size := by omega
   subst this
   have hkk : spareK i.size len cap = k' := by omega
   rw [hkk] at ha
   clear s3 hkk
   split at ha
   ·-- in place, as is known
    rename_i h2 hst
    split at hst
    case isFalse => cases hst
    rename_i hmk
    cases ha
    have ha' : a' = b.at_ off := haddr.resolve_left ow
    subst ha'
    obtain ⟨w', t1, t2, t3, t4⟩ := storeC_sound P hr hw hst hb k2
    have hrun := hfits (base := some (b.at_ off)) (len := len) (cap := cap') (w' := w') hi ow (show (storeCells ((b.at_ off).add (len * i.size)) cs').run P w = .ok () w' by rw [at_add hblo]; exact t1)
    exact ⟨_, w', β, hrun, .slice hb hblo (.inr ⟨i.size, k' - m, e1, e5, rfl, by omega, e4⟩) (.inr rfl), t2, t3, t4⟩
   rename_i hnst
   clear hnst
   cases hf : h.fam id with
   | none => rw [hf] at ha; cases ha
   | some f =>
   rw [hf] at ha
   simp only at ha
   split at ha
   case isTrue => cases ha
   rename_i hro
   have hro : f.ro = false := by simpa using hro
   obtain ⟨n0, hroot⟩ := fam_root hf
   rw [hroot] at ha
   simp only [Option.some.injEq, Prod.mk.injEq] at ha
   obtain ⟨ha1, ha2⟩ := ha
   have hbounds : f.lo <= off /\ off + len * i.size <= f.rb id := by
    unfold loadC at hld
    rw [hf] at hld
    simp only at hld
    split at hld
    ·assumption
    ·cases hld
   obtain ⟨r1, c, elc, fz, r2, r3, r4, r5⟩ := hr.row _ _ _ hb hf
   obtain ⟨r6, r7⟩ := r5 hro
   have hN : off + len * i.size <= f.data.length := by
    have := hbounds.2
    unfold Fam.rb at this
    split at this
    ·have := hw.curn _ _ hf ‹_›; omega
    ·have := hw.stale _ _ hf ‹_›; omega
   by_cases hfit : len + m <= cap'
   ·-- in place
    have ha' : a' = b.at_ off := haddr.resolve_left ow
    subst ha'
    have hmul : len * i.size + m * i.size <= cap' * i.size := by rw [<-Nat.add_mul]; exact Nat.mul_le_mul_right _ hfit
    obtain ⟨w', s1, s2⟩ := run_stores P b.g elc fz (b.s + (off + len * i.size - b.lo)) cs' 0 w c r2 r6 ow hoc
    have hadd : (b.at_ off).add (len * i.size) = ⟨b.g, b.s + (off + len * i.size - b.lo), none⟩ := at_add hblo
    have hrun := hfits (base := some (b.at_ off)) (len := len) (cap := cap') (w' := w') hi hfit (show (storeCells ((b.at_ off).add (len * i.size)) cs').run P w = .ok () w' by rw [hadd]; exact s1)
    obtain ⟨c', t1, t2, t3⟩ := s2.ex _ _ _ r2
    have hal := hr_alias (w' := w') hr hw (pos := off + len * i.size) (news := cs) (y := ⟨b.g, b.s + (off - b.lo), off, b.z⟩) hf hro hb hroot hbounds.1 ow hbounds.2 rfl
     ⟨c', elc, fz, t1, by rw [t2]; exact r3, by rw [t2]; exact r6, by simp only; rw [c2]; omega, fun p v p1 p2 p3 => by
      simp only
      by_cases hp : p < off + len * i.size
      ·rw [List.getElem?_append_left (by simp; omega), List.getElem?_take_of_lt hp] at p3
       obtain ⟨v', m1, m2⟩ := r4 p v ow ow p3
       refine ⟨v', ?_, m2⟩
       rw [t3, if_neg ow, show b.s + (off - b.lo) + (p - off) = b.s + (p - b.lo) by omega]
       exact m1
      ·rw [List.getElem?_append_right (by simp; omega)] at p3
       have hlt : (List.take (off + len * i.size) f.data).length = off + len * i.size := by simp; omega
       rw [hlt] at p3
       have hlt2 : p - (off + len * i.size) < cs'.length := by rw [<-k2.1]; omega
       refine ⟨cs'[p - (off + len * i.size)], ?_, k2.2 _ _ _ p3 (List.getElem?_eq_getElem hlt2)⟩
       rw [t3, if_pos ow, show b.s + (off - b.lo) + (p - off) - (b.s + (off + len * i.size - b.lo) + 0) = p - (off + len * i.size) by omega]
       exact List.getElem?_eq_getElem hlt2⟩
     (.inr ⟨rfl, by simp only; omega, cs', by simpa using s2⟩)
     (by simp only; rw [s2.size]; exact (hr.dom _ _ hb).2) (Nat.le_of_eq s2.size.symm) s2.os s2.tape s2.output
    subst ha1; subst ha2
    refine ⟨_, w', _, hrun, ?_, hal.1, hal.2.1, hal.2.2⟩
    refine .slice (upd_same _ _ _) (Nat.le_refl _) (.inr ⟨i.size, 0, c1, c7, rfl, hfit, by simp only; omega⟩) (.inr ?_)
    simp [Bx.at_]
   ·-- a new block
    obtain ⟨old', o1, o2, o3⟩ := hold (a' := a') (cap' := cap') hld hb (by
     rcases haddr with q | q
     ·left; omega
     ·exact .inr q)
    obtain ⟨newCap, rest, q1, q2, q3⟩ := hgrows hi hiz o3 ow c3 c4
    have hcs'' : cs''.length = m * i.size := by rw [<-k4.1]; exact c2
    have hsize : ((⟨old'⟩ : Array Value) ++ ⟨cs''⟩ ++ rest).size = newCap * i.size := by
     simp only [Array.size_append, List.size_toArray, o2, hcs'', q2, hzsz]
     rw [<-Nat.add_mul, <-Nat.add_mul]
     congr 1
     omega
    have hge : (len + m) * i.size <= newCap * i.size := Nat.mul_le_mul_right _ q1
    have hdat : loadC h id off (len * i.size) = some ((f.data.drop off).take (len * i.size)) := by
     unfold loadC; rw [hf]; simp only; rw [if_pos hbounds]
    rw [hld] at hdat
    cases hdat
    have hal := hr_alias (w' := w.drew.alloc (.cells (⟨old'⟩ ++ ⟨cs''⟩ ++ rest) el)) hr hw (pos := off + len * i.size) (news := cs) (y := ⟨w.heap.size, 0, off, ((⟨old'⟩ : Array Value) ++ ⟨cs''⟩ ++ rest).size⟩) hf hro hb hroot hbounds.1 ow hbounds.2 rfl
     ⟨_, el, (0, 0), heap_new (w := w.drew), rfl, fun p _ q => by simp at q, by simp only; rw [hsize, c2]; rw [Nat.add_mul] at hge; omega, fun p v p1 p2 p3 => by
      simp only
      have e1 : ((⟨old'⟩ : Array Value) ++ ⟨cs''⟩ ++ rest)[0 + (p - off)]? = (old' ++ cs'')[p - off]? := by
       rw [<-Array.getElem?_toList, Nat.zero_add]
       simp only [Array.toList_append]
       rw [List.getElem?_append_left (by simp; omega)]
      rw [e1]
      by_cases hp : p < off + len * i.size
      ·rw [List.getElem?_append_left (by simp; omega), List.getElem?_take_of_lt hp] at p3
       have hlt : p - off < old'.length := by omega
       rw [List.getElem?_append_left hlt]
       refine ⟨_, List.getElem?_eq_getElem hlt, o1.2 (p - off) _ _ ?_ (List.getElem?_eq_getElem hlt)⟩
       rw [List.getElem?_take_of_lt ow, List.getElem?_drop, show off + (p - off) = p by omega]
       exact p3
      ·rw [List.getElem?_append_right (by simp; omega)] at p3
       have hlt : (List.take (off + len * i.size) f.data).length = off + len * i.size := by simp; omega
       rw [hlt] at p3
       rw [List.getElem?_append_right ow, o2, show p - off - len * i.size = p - (off + len * i.size) by omega]
       have hlt2 : p - (off + len * i.size) < cs''.length := by rw [<-k4.1]; omega
       exact ⟨_, List.getElem?_eq_getElem hlt2, k4.2 _ _ _ p3 (List.getElem?_eq_getElem hlt2)⟩⟩
     (.inl ⟨Nat.le_refl _, fun b hb => heap_old (w := w.drew) hb⟩)
     (by simp) (by simp) rfl rfl rfl
    subst ha1; subst ha2
    refine ⟨_, _, _, q3, ?_, hal.1, hal.2.1, hal.2.2⟩
    refine .slice (upd_same _ _ _) (Nat.le_refl _) (.inr ⟨i.size, 0, c1, c7, rfl, q1, by simp only; rw [hsize]; omega⟩) (.inr ?_)
    simp [Bx.at_]
theorem append_sound (hr : HR β h w) (hw : Wf h) {tys : Array TypeId} {ty t u : TypeId} {s s' x x' v : Value} {m : Nat} {cs : List Value} {h' : AH} (h0 : tys[0]? = some t) (h1 : tys[1]? = some u) (hz : isIntT P u = false)
  (hc : cellsV P h t x = some (m, cs)) (ha : appendV P h t s m cs = some (v, h')) (hs : VR β s s') (hx : VR β x x') :
  ∃ v' w' β', (Builtin.append_ tys ty #[s', x']).run P w = .ok v' w' /\ VR β' v v' /\ HR β' h' w' /\ Wf h' /\ Evo β h w β' h' w' := by
 have ha' := ha
 unfold appendV at ha'
 split at ha'
 case h_2 => cases ha'
 rename_i el base len cap hu
 clear ha'
 obtain ⟨i, hi⟩ : ∃ i, P.info? el = some i := by
  unfold appendV at ha
  rw [hu] at ha
  cases hq : P.info? el with
  | none => simp only [hq] at ha; cases ha
  | some i => exact ⟨i, rfl⟩
 have hsz : szOf P el = some i.size := by simp [szOf, hi]
 obtain ⟨k1, cs', k2, k3, _⟩ := cellsV_sound hr hw hu hsz hc hx
 obtain ⟨_, cs'', k4, k5, _⟩ := cellsV_sound (w := w.drew) hr.drew hw hu hsz hc hx
 refine append_gen hr hw hu ha hs k2 k4 (fun {_ base _ _ _} hi' hfit hst => ?_) (fun hi' hiz ho hfit hb hn => ?_)
 ·rw [hi] at hi'
  cases hi'
  exact append_fits h0 h1 hz hu hsz k1 k3 hfit (by cases base <;> exact hst)
 ·rw [hi] at hi'
  cases hi'
  exact append_grows h0 h1 hz hu hi hiz k1 k5 ho hfit hb hn
theorem appended_run {el : TypeId} {z : Value} {sz n : Nat} {W : World} (hz : (zeroValue el).run P W = .ok z W) (hs : z.cells.size = sz) (h0 : 0 < sz) :
  (if n * sz = 0 then (pure #[] : Sem (Array Value)) else do pure (Builtin.zeroCells (← zeroValue el).cells n)).run P W = .ok ⟨zerosC z.cells.toList n⟩ W := by
 split
 ·rename_i hn
  have : n = 0 := by
   rcases Nat.eq_zero_or_pos n with q | q
   ·exact q
   ·have := Nat.mul_pos q h0; omega
  subst this
  rfl
 ·simp only [Sem.run_bind, hz, Result.andThen_ok, Sem.run_pure]
  have : Builtin.zeroCells z.cells n = ⟨zerosC z.cells.toList n⟩ := by
   unfold Builtin.zeroCells
   rw [hs]
   have := zeros_range (z := z.cells) (n := n) hs h0
   rw [hs] at this
   exact this
  rw [this]
theorem append_fitsZ {tys : Array TypeId} {ty t u el : TypeId} {k0 : IntKind} {i : TypeInfo} {z : Value} {len cap : Nat} {base : Option Addr} {n : Int} {w' : World} (h0 : tys[0]? = some t) (h1 : tys[1]? = some u) (hui : P.underlying u = some (.int k0))
  (hu : P.underlying t = some (.slice el)) (hi : P.info? el = some i) (hiz : i.zero = some z) (hzs : z.cells.size = i.size) (hp : 0 < i.size) (hn0 : 0 <= n) (hn1 : n <= 4611686018427387904) (hn2 : n * i.bytes <= 281474976710656) (hfit : len + n.toNat <= cap)
  (hst : match base with | none => w' = w | some a => (storeCells (a.add (len * i.size)) (zerosC z.cells.toList n.toNat)).run P w = .ok () w') :
  (Builtin.append_ tys ty #[.slice base len cap, .int .i64 n]).run P w = .ok (.slice base (len + n.toNat) cap) w' := by
 have hwr : IntKind.i64.wrap n = n := IntWalk.i64_in _ ow
 have has : ∀ W, (asInt (.int .i64 n)).run P W = .ok n W := fun W => rfl
 have hzv : ∀ W, (zeroValue el).run P W = .ok z W := fun W => run_zeroV (by simp [hi, hiz])
 have hap := fun W => appended_run (P := P) (n := n.toNat) (hzv W) hzs hp
 have hl : ¬ n < 0 := by omega
 have hb : ¬ n * (i.bytes : Int) > 2 ^ 48 := by omega
 unfold Builtin.append_
 simp only [h0, h1, List.getElem?_toArray, List.getElem?_cons_zero, List.getElem?_cons_succ, Sem.run_bind, run_underlying hu, Result.andThen_ok, run_sz (show szOf P el = some i.size by simp [szOf, hi]), run_underlying hui, Sem.run_pure]
 cases base with
 | none =>
  simp only [if_true, has, hwr, Result.andThen_ok, Sem.run_bind, Sem.run_ite, if_neg hl, Sem.run_pure, run_info hi, if_neg hb, if_pos hfit, Bool.not_true, Bool.false_eq_true, if_false]
  have := hap w
  simp only [Sem.run_ite, Sem.run_bind, Sem.run_pure] at this
  rw [this]
  simp only [Result.andThen_ok, Sem.run_pure]
  rw [show w' = w from hst]
 | some a =>
  simp only [if_true, has, hwr, Result.andThen_ok, Sem.run_bind, Sem.run_ite, if_neg hl, Sem.run_pure, run_info hi, if_neg hb, if_pos hfit, Bool.not_true, Bool.false_eq_true, if_false]
  have := hap w
  simp only [Sem.run_ite, Sem.run_bind, Sem.run_pure] at this
  rw [this]
  simp only [Result.andThen_ok, Sem.run_bind, hst, Sem.run_pure]
theorem append_growsZ {tys : Array TypeId} {ty t u el : TypeId} {k0 : IntKind} {i : TypeInfo} {z : Value} {len cap : Nat} {base : Option Addr} {n : Int} {old : List Value} (h0 : tys[0]? = some t) (h1 : tys[1]? = some u) (hui : P.underlying u = some (.int k0))
  (hu : P.underlying t = some (.slice el)) (hi : P.info? el = some i) (hiz : i.zero = some z) (hzs : z.cells.size = i.size) (hp : 0 < i.size) (hn0 : 0 <= n) (hn1 : n <= 4611686018427387904) (hn2 : n * i.bytes <= 281474976710656)
  (ho : (Builtin.firstCells i.size len (.slice base len cap)).run P w.drew = .ok ⟨old⟩ w.drew) (hfit : cap < len + n.toNat) (hb : 2 * (len + n.toNat) * i.bytes <= 281474976710656) (hn : len + n.toNat < BIG) :
  ∃ (newCap : Nat) (rest : Array Value), len + n.toNat <= newCap /\ rest.size = (newCap - (len + n.toNat)) * z.cells.size ∧
  (Builtin.append_ tys ty #[.slice base len cap, .int .i64 n]).run P w = .ok (.slice (some ⟨w.heap.size, 0, none⟩) (len + n.toNat) newCap) (w.drew.alloc (.cells (⟨old⟩ ++ ⟨zerosC z.cells.toList n.toNat⟩ ++ rest) el)) := by
 have hwr : IntKind.i64.wrap n = n := IntWalk.i64_in _ ow
 have has : ∀ W, (asInt (.int .i64 n)).run P W = .ok n W := fun W => rfl
 have hzv : ∀ W, (zeroValue el).run P W = .ok z W := fun W => run_zeroV (by simp [hi, hiz])
 have hap := fun W => appended_run (P := P) (n := n.toNat) (hzv W) hzs hp
 have hl : ¬ n < 0 := by omega
 have hb1 : ¬ n * (i.bytes : Int) > 2 ^ 48 := by omega
 have hnext : ¬ Builtin.nextslicecap (len + n.toNat) cap * i.bytes > 2 ^ 48 := by
  have := Nat.mul_le_mul_right i.bytes (nextcap_le hfit)
  omega
 have hbig : ¬ ((len + n.toNat : Nat) : Int) > IntKind.i64.max := by
  have : IntKind.i64.max = 9223372036854775807 := by decide
  unfold BIG at hn
  omega
 refine ⟨(Question.appendCap (len + n.toNat) cap el).cut (w.tape w.drawn (.appendCap (len + n.toNat) cap el)), Builtin.zeroCells z.cells ((Question.appendCap (len + n.toNat) cap el).cut (w.tape w.drawn (.appendCap (len + n.toNat) cap el)) - (len + n.toNat)), by simp [Question.cut], by simp [Builtin.zeroCells], ?_⟩
 unfold Builtin.append_
 simp only [h0, h1, List.getElem?_toArray, List.getElem?_cons_zero, List.getElem?_cons_succ, Sem.run_bind, run_underlying hu, Result.andThen_ok, run_sz (show szOf P el = some i.size by simp [szOf, hi]), run_underlying hui]
 have hq : (Question.appendCap (len + n.toNat) cap el).forced = false := rfl
 have hfit' : ¬ len + n.toNat <= cap := by omega
 change (Builtin.firstCells i.size len (.slice base len cap)).run P { w with drawn := w.drawn + 1 } = .ok ⟨old⟩ { w with drawn := w.drawn + 1 } at ho
 have hap2 := hap { w with drawn := w.drawn + 1 }
 simp only [Sem.run_ite, Sem.run_bind, Sem.run_pure] at hap2
 simp only [Sem.run_pure, Result.andThen_ok]
 simp only [if_true, has, hwr, Sem.run_bind, Result.andThen_ok, Sem.run_ite, if_neg hl, Sem.run_pure, run_info hi, if_neg hb1, if_neg hfit', hbig, false_and, if_neg hnext, run_choose, hq, run_askRoom, ho, Bool.not_true, Bool.false_eq_true, if_false]
 rw [hap2]
 simp only [Result.andThen_ok, Sem.run_bind, hzv, Sem.run_pure]
 rfl
theorem append_soundZ (hr : HR β h w) (hw : Wf h) {tys : Array TypeId} {ty t u : TypeId} {s s' x x' v : Value} {m : Nat} {cs : List Value} {h' : AH} (h0 : tys[0]? = some t) (h1 : tys[1]? = some u)
  (hc : zerosV P t u x = some (m, cs)) (ha : appendV P h t s m cs = some (v, h')) (hs : VR β s s') (hx : VR β x x') :
  ∃ v' w' β', (Builtin.append_ tys ty #[s', x']).run P w = .ok v' w' /\ VR β' v v' /\ HR β' h' w' /\ Wf h' /\ Evo β h w β' h' w' := by
 unfold zerosV at hc
 split at hc
 case h_2 => cases hc
 rename_i k0 el n hui hu
 split at hc
 case h_2 => cases hc
 rename_i i hi
 split at hc
 case h_2 => cases hc
 rename_i z hiz
 split at hc
 case isFalse => cases hc
 rename_i hcond
 obtain ⟨q0, q1, q2, q3⟩ := hcond
 cases hc
 have e : x' = .int .i64 n := hx.free0_eq rfl
 subst e
 obtain ⟨hp, hzs⟩ : 0 < i.size /\ z.cells.size = i.size := by
  unfold appendV at ha
  rw [hu] at ha
  cases s with
  | slice base len cap =>
   simp only [hi] at ha
   split at ha
   case isFalse => cases ha
   rename_i hcd
   refine ⟨hcd.1, ?_⟩
   have := hcd.2.2.2.2.2.1
   rw [hiz] at this
   simpa using this
  | _ => simp at ha
 refine append_gen hr hw hu ha hs (VRl.free (zerosC_free (cells_free q0) n.toNat)) (VRl.free (zerosC_free (cells_free q0) n.toNat)) (fun {_ base _ _ _} hi' hfit hst => ?_) (fun hi' hiz' ho hfit hb hn => ?_)
 ·rw [hi] at hi'
  cases hi'
  exact append_fitsZ h0 h1 hui hu hi hiz hzs hp q1 q2 q3 hfit (by cases base <;> exact hst)
 ·rw [hi] at hi'
  cases hi'
  rw [hiz] at hiz'
  cases hiz'
  exact append_growsZ h0 h1 hui hu hi hiz hzs hp q1 q2 q3 ho hfit hb hn
end
end Go.AM
namespace Go.AM
section
variable {P : Program} {β : Ren} {h : AH} {w : World} {e : Tr Value} {a : Act}
def FindR (β : Ren) : Option (Nat × Value) -> Option (Nat × Value) -> Prop
 | none, none => True
 | some (i, v), some (i', v') => i' = i /\ VR β v v'
 | _, _ => False
theorem findNow_es {d : TypeDesc} {k : Value} : ∀ {es es' : List MapEntry} {n : Nat} {r : Option (Nat × Value)}, EsR β es es' -> Instr.findNow d k es n = some r →
  ∃ r', Instr.findNow d k es' n = some r' /\ FindR β r r'
 | [], [], n, r, _, hf => by cases hf; exact ⟨none, rfl, trivial⟩
 | [], _ :: _, _, _, h, _ => by have := h.1; simp at this
 | _ :: _, [], _, _, h, _ => by have := h.1; simp at this
 | x :: es, x' :: es', n, r, hes, hf => by
  have hx := hes.2 0 x x' rfl rfl
  have ht : EsR β es es' := ⟨by simpa using hes.1, fun i p q a b => hes.2 (i + 1) p q (by simpa using a) (by simpa using b)⟩
  simp only [Instr.findNow, hx.key] at hf ⊢
  split at hf
  ·cases hf
   exact ⟨_, rfl, rfl, hx.val⟩
  ·exact findNow_es ht hf
  ·cases hf
theorem findNow_none {d : TypeDesc} {k : Value} : ∀ {es es' : List MapEntry} {n : Nat}, EsR β es es' -> Instr.findNow d k es n = none -> Instr.findNow d k es' n = none
 | [], [], n, _, hf => by cases hf
 | [], _ :: _, _, h, _ => by have := h.1; simp at this
 | _ :: _, [], _, h, _ => by have := h.1; simp at this
 | x :: es, x' :: es', n, hes, hf => by
  have hx := hes.2 0 x x' rfl rfl
  have ht : EsR β es es' := ⟨by simpa using hes.1, fun i p q a b => hes.2 (i + 1) p q (by simpa using a) (by simpa using b)⟩
  simp only [Instr.findNow, hx.key] at hf ⊢
  split at hf
  ·cases hf
  ·exact findNow_none ht hf
  ·rfl
theorem findAsking_es {kt : TypeId} {k : Value} : ∀ {es es' : List MapEntry} {n : Nat} {r : Option (Nat × Value)}, EsR β es es' -> quick P (Instr.findAsking kt k es n) = some r →
  ∃ r', quick P (Instr.findAsking kt k es' n) = some r' /\ FindR β r r'
 | [], [], n, r, _, hf => by cases hf; exact ⟨none, rfl, trivial⟩
 | [], _ :: _, _, _, h, _ => by have := h.1; simp at this
 | _ :: _, [], _, _, h, _ => by have := h.1; simp at this
 | x :: es, x' :: es', n, r, hes, hf => by
  have hx := hes.2 0 x x' rfl rfl
  have ht : EsR β es es' := ⟨by simpa using hes.1, fun i p q a b => hes.2 (i + 1) p q (by simpa using a) (by simpa using b)⟩
  simp only [Instr.findAsking, hx.key, quick_bind, Option.bind_eq_some_iff] at hf ⊢
  obtain ⟨b, hb, hf⟩ := hf
  cases b with
  | true =>
   have hr : r = some (n, x.val) := by
    have : some (some (n, x.val)) = some r := hf
    cases this; rfl
   subst hr
   exact ⟨some (n, x'.val), ⟨true, hb, rfl⟩, rfl, hx.val⟩
  | false =>
   obtain ⟨r', q1, q2⟩ := findAsking_es (kt := kt) (k := k) (n := n + 1) (r := r) ht hf
   exact ⟨r', ⟨false, hb, q1⟩, q2⟩
theorem findV_es {kt : TypeId} {k : Value} {es es' : List MapEntry} {r : Option (Nat × Value)} (hes : EsR β es es') (hf : findV P kt k es = some r) :
  ∃ r', quick P (Instr.findKey kt k es') = some r' /\ FindR β r r' := by
 unfold findV Instr.findKey at hf
 unfold Instr.findKey
 simp only [quick_bind, Option.bind_eq_some_iff] at hf ⊢
 obtain ⟨d, hd, hf⟩ := hf
 cases hn : Instr.findNow d k es 0 with
 | none =>
  rw [hn] at hf
  obtain ⟨r', q1, q2⟩ := findAsking_es (P := P) hes hf
  refine ⟨r', ⟨d, hd, ?_⟩, q2⟩
  rw [findNow_none hes hn]
  exact q1
 | some r0 =>
  rw [hn] at hf
  have : r0 = r := by
   have : some r0 = some r := hf
   cases this; rfl
  subst this
  obtain ⟨r', q1, q2⟩ := findNow_es hes hn
  refine ⟨r', ⟨d, hd, ?_⟩, q2⟩
  rw [q1]
  rfl
theorem map_inv {v' : Value} {id : Nat} (hv : VR β (.map (some id)) v') : ∃ x, β id = some x /\ v' = .map (some x.g) := by
 cases hv with
 | free v hf => simp [free0] at hf
 | map h1 => exact ⟨_, h1, rfl⟩
theorem mapOf_sound (hr : HR β h w) {m m' : Value} {es : List MapEntry} (hm : mapOf h m = some es) (hv : VR β m m') :
  (m' = .map none /\ es = []) \/ ∃ g es' ck, m' = .map (some g) /\ w.heap[g]? = some (.map es' ck) /\ EsR β es es'.toList := by
 unfold mapOf at hm
 split at hm
 ·cases hm
  left
  exact ⟨hv.free0_eq rfl, rfl⟩
 ·rename_i r
  obtain ⟨x, hx, rfl⟩ := map_inv hv
  right
  cases hg : h.t.get r with
  | none => rw [hg] at hm; cases hm
  | some o =>
   rw [hg] at hm
   cases o with
   | map es0 ck =>
    cases hm
    obtain ⟨es', e1, e2⟩ := hr.map _ _ _ _ hx hg
    exact ⟨_, es', ck, rfl, e1, e2⟩
   | _ => cases hm
 ·cases hm
theorem run_getMap {g : Nat} {es : Array MapEntry} {ck : Nat} (hg : w.heap[g]? = some (.map es ck)) : (getObj g).run P w = .ok (.map es ck) w := by
 simp [getObj, Sem.run, hg]
theorem lookup_sound (hr : HR β h w) {t : TypeId} {m m' k k' v : Value} {ok : Bool} (hl : lookupV P h t m k ok = some v) (hm : VR β m m') (hk : VR β k k') :
  ∃ v', (Instr.lookup t m' k' ok).run P w = .ok v' w /\ VR β v v' := by
 unfold lookupV at hl
 split at hl
 case h_2 => cases hl
 rename_i kt el hu
 split at hl
 case isFalse => cases hl
 rename_i hfk
 have : k' = k := hk.free1_eq hfk
 subst this
 split at hl
 case h_2 => cases hl
 rename_i es z hmo hz
 have hemp : ∀ {es' : Array MapEntry}, EsR β es es'.toList -> es'.isEmpty = es.isEmpty := by
  intro es' he
  have h1 : es.length = es'.size := by rw [he.1, Array.length_toList]
  unfold Array.isEmpty
  cases es with
  | nil => simp at h1; simp [<-h1]
  | cons x l =>
   have h0 : es'.size ≠ 0 := by simp at h1; omega
   simp [h0]
 have key : ∀ {es' : Array MapEntry} {v : Value}, EsR β es es'.toList →
   (match quick P (Instr.checkKey es.isEmpty 10000 kt k'), findV P kt k' es with
    | some _, some (some (_, v)) => some (if ok = true then .tuple #[v, .bool true] else v)
    | some _, some none => if free1 z = true then some (if ok = true then .tuple #[z, .bool false] else z) else none
    | _, _ => none) = some v →
   ∃ v', (do
    Instr.checkKey es'.isEmpty 10000 kt k'
    let (v, ok') ← match ← Instr.findKey kt k' es'.toList with
     | some (_, v) => pure (v, true)
     | none => pure (← zeroValue el, false)
    pure (if ok then .tuple #[v, .bool ok'] else v) : Sem Value).run P w = .ok v' w /\ VR β v v' := by
  intro es' v he hq
  split at hq
  ·rename_i u1 i v0 hck hfv
   cases hq
   obtain ⟨r', q1, q2⟩ := findV_es he hfv
   cases r' with
   | none => exact q2.elim
   | some iv =>
    obtain ⟨i', v'⟩ := iv
    obtain ⟨_, q3⟩ := q2
    refine ⟨if ok then .tuple #[v', .bool true] else v', ?_, ?_⟩
    ·rw [hemp he]
     simp only [Sem.run_bind, quick_run hck, Result.andThen_ok, quick_run q1, Sem.run_pure]
    ·cases ok with
     | true =>
      exact VRl.toTup (l := [v0, .bool true]) (l' := [v', .bool true]) (.cons q3 (.cons (.free _ rfl) .nil))
     | false => exact q3
  ·rename_i u1 hck hfv
   split at hq
   case isFalse => cases hq
   rename_i hfz
   cases hq
   obtain ⟨r', q1, q2⟩ := findV_es he hfv
   cases r' with
   | some iv => exact q2.elim
   | none =>
    refine ⟨if ok then .tuple #[z, .bool false] else z, ?_, ?_⟩
    ·rw [hemp he]
     simp only [Sem.run_bind, quick_run hck, Result.andThen_ok, quick_run q1, Sem.run_pure, run_zeroV hz]
    ·cases ok with
     | true => exact VRl.toTup (l := [z, .bool false]) (l' := [z, .bool false]) (.cons (.of_free1 hfz) (.cons (.free _ rfl) .nil))
     | false => exact .of_free1 hfz
  ·cases hq
 rcases mapOf_sound hr hmo hm with ⟨rfl, he⟩ | ⟨g, es', ck, rfl, hg, he⟩
 ·subst he
  obtain ⟨v', q1, q2⟩ := key (es' := #[]) ⟨rfl, fun i a b p => by simp at p⟩ hl
  refine ⟨v', ?_, q2⟩
  unfold Instr.lookup
  simp only [Sem.run_bind, run_underlying hu, Result.andThen_ok, Sem.run_pure] at q1 ⊢
  exact q1
 ·obtain ⟨v', q1, q2⟩ := key he hl
  refine ⟨v', ?_, q2⟩
  unfold Instr.lookup
  simp only [Sem.run_bind, run_underlying hu, Result.andThen_ok, Sem.run_pure, run_getMap hg] at q1 ⊢
  exact q1
end
end Go.AM
namespace Go.AM
section
variable {P : Program} {β : Ren} {h : AH} {w : World} {e : Tr Value} {a : Act}
theorem run_setMap {g : Nat} {es : Array MapEntry} {ck : Nat} (o : Obj) (hg : w.heap[g]? = some (.map es ck)) : (setObj g o).run P w = .ok () { w with heap := w.heap.setIfInBounds g o } := by
 simp [setObj, Sem.run, hg]
theorem mapUpdate_sound (hr : HR β h w) (hw : Wf h) {t : TypeId} {m m' k k' x x' : Value} {h' : AH} (hl : mapUpdateV P h t m k x = some h') (hm : VR β m m') (hk : VR β k k') (hx : VR β x x') :
  ∃ w', (Instr.mapUpdate t m' k' x').run P w = .ok () w' /\ HR β h' w' /\ Wf h' /\ Evo β h w β h' w' := by
 unfold mapUpdateV at hl
 split at hl
 case h_2 => cases hl
 rename_i kt el r hu
 split at hl
 case isFalse => cases hl
 rename_i hfk
 have : k' = k := hk.free1_eq hfk
 subst this
 obtain ⟨b, hb, rfl⟩ := map_inv hm
 cases hg : h.t.get r with
 | none => rw [hg] at hl; cases hl
 | some o =>
 rw [hg] at hl
 cases o with
 | row => cases hl
 | alias => cases hl
 | loop => cases hl
 | iter => cases hl
 | map es ck =>
 simp only at hl
 obtain ⟨es', e1, e2⟩ := hr.map _ _ _ _ hb hg
 have hgs : b.g < w.heap.size := (hr.dom _ _ hb).2
 have hset : ∀ (o : Obj), ({ w with heap := w.heap.setIfInBounds b.g o } : World).heap[b.g]? = some o /\ (∀ c, c ≠ b.g -> ({ w with heap := w.heap.setIfInBounds b.g o } : World).heap[c]? = w.heap[c]?) := by
  intro o
  refine ⟨by simp [hgs], fun c hc => ?_⟩
  simp only
  rw [Array.getElem?_setIfInBounds_ne (Ne.symm hc)]
 split at hl
 ·rename_i u1 i v0 hck hfv
  obtain ⟨r', q1, q2⟩ := findV_es e2 hfv
  cases r' with
  | none => exact q2.elim
  | some iv =>
  obtain ⟨i', v'⟩ := iv
  obtain ⟨q2, q3⟩ := q2
  subst q2
  cases hei : es[i']? with
  | none => rw [hei] at hl; cases hl
  | some en =>
  rw [hei] at hl
  simp only at hl
  cases hkt : quick P (Instr.keyThatStays en.key k') with
  | none => rw [hkt] at hl; cases hl
  | some k2 =>
  rw [hkt] at hl
  simp only at hl
  split at hl
  case isFalse => cases hl
  rename_i hf2
  cases hl
  have hlt : i' < es'.size := by
   have := e2.1
   have h1 : i' < es.length := by
    rcases Nat.lt_or_ge i' es.length with q | q
    ·exact q
    ·rw [List.getElem?_eq_none q] at hei; cases hei
   simp at this; omega
  have hei' : es'[i']? = some es'[i'] := Array.getElem?_eq_getElem hlt
  have hent := e2.2 i' en es'[i'] hei (by simp)
  have hes2 : EsR β (es.modify i' fun e => { e with key := k2, val := x }) (es'.modify i' fun e => { e with key := k2, val := x' }).toList := by
   refine ⟨by simpa using e2.1, fun j p q a b => ?_⟩
   rw [List.getElem?_modify] at a
   rw [Array.getElem?_toList, Array.getElem?_modify] at b
   by_cases hj : i' = j
   ·subst hj
    simp only [if_true, hei', hei, Option.map_some, Option.some.injEq, Functor.map] at a b
    subst a; subst b
    exact ⟨rfl, hf2, hx, hent.born⟩
   ·simp only [if_neg hj] at a b
    refine e2.2 j p q ?_ (by simpa using b)
    cases hq : es[j]? with
    | none => rw [hq] at a; cases a
    | some u => rw [hq] at a; exact a
  obtain ⟨s1, s2⟩ := hset (.map (es'.modify i' fun e => { e with key := k2, val := x' }) ck)
  obtain ⟨p1, p2, p3⟩ := hr_setMap (w' := { w with heap := w.heap.setIfInBounds b.g (.map (es'.modify i' fun e => { e with key := k2, val := x' }) ck) }) hr hw hb hg hes2 s1 s2 (by simp) rfl rfl rfl
  refine ⟨_, ?_, p1, p2, p3⟩
  unfold Instr.mapUpdate
  simp only [Sem.run_bind, run_underlying hu, Result.andThen_ok, run_getMap e1, quick_run hck, quick_run q1, hei', Option.map_some, Option.getD_some, hent.key, quick_run hkt, run_setMap _ e1]
 ·rename_i u1 hck hfv
  cases hl
  obtain ⟨r', q1, q2⟩ := findV_es e2 hfv
  cases r' with
  | some iv => exact q2.elim
  | none =>
  have hes2 : EsR β (es ++ [{ key := k', val := x, born := ck }]) (es'.push { key := k', val := x', born := ck }).toList := by
   refine ⟨by simpa using e2.1, fun j p q a b => ?_⟩
   simp only [Array.toList_push] at b
   by_cases hj : j < es.length
   ·rw [List.getElem?_append_left hj] at a
    rw [List.getElem?_append_left (by rw [<-e2.1]; exact hj)] at b
    exact e2.2 j p q a b
   ·rw [List.getElem?_append_right ow] at a
    rw [List.getElem?_append_right (by rw [<-e2.1]; omega), <-e2.1] at b
    cases hq : j - es.length with
    | zero =>
     rw [hq] at a b
     simp at a b
     subst a; subst b
     exact ⟨rfl, hfk, hx, rfl⟩
    | succ n => rw [hq] at a; simp at a
  obtain ⟨s1, s2⟩ := hset (.map (es'.push { key := k', val := x', born := ck }) (ck + 1))
  obtain ⟨p1, p2, p3⟩ := hr_setMap (w' := { w with heap := w.heap.setIfInBounds b.g (.map (es'.push { key := k', val := x', born := ck }) (ck + 1)) }) hr hw hb hg hes2 s1 s2 (by simp) rfl rfl rfl
  refine ⟨_, ?_, p1, p2, p3⟩
  unfold Instr.mapUpdate
  simp only [Sem.run_bind, run_underlying hu, Result.andThen_ok, run_getMap e1, quick_run hck, quick_run q1, run_setMap _ e1]
 ·cases hl
theorem eqIn_slice (d : Nat) {t el : TypeId} {a : Option Addr} {l c : Nat} (hu : P.underlying t = some (.slice el)) : (Op.equalIn (d + 1) t (.slice a l c) (.slice none 0 0)).run P w = .ok a.isNone w := by
 cases a <;> simp [Op.equalIn, run_underlying hu]
theorem eqIn_slice' (d : Nat) {t el : TypeId} {a : Option Addr} {l c : Nat} (hu : P.underlying t = some (.slice el)) : (Op.equalIn (d + 1) t (.slice none 0 0) (.slice a l c)).run P w = .ok a.isNone w := by
 cases a <;> simp [Op.equalIn, run_underlying hu]
theorem eqIn_map (d : Nat) {t k el : TypeId} {a : Option Nat} (hu : P.underlying t = some (.map k el)) : (Op.equalIn (d + 1) t (.map a) (.map none)).run P w = .ok a.isNone w := by
 cases a <;> simp [Op.equalIn, run_underlying hu]
theorem eqIn_map' (d : Nat) {t k el : TypeId} {a : Option Nat} (hu : P.underlying t = some (.map k el)) : (Op.equalIn (d + 1) t (.map none) (.map a)).run P w = .ok a.isNone w := by
 cases a <;> simp [Op.equalIn, run_underlying hu]
theorem eqIn_ptr (d : Nat) {t el : TypeId} {a : Option Addr} (hu : P.underlying t = some (.pointer el)) : (Op.equalIn (d + 1) t (.pointer a) (.pointer none)).run P w = .ok a.isNone w := by
 cases a <;> simp [Op.equalIn, run_underlying hu]
theorem eqIn_ptr' (d : Nat) {t el : TypeId} {a : Option Addr} (hu : P.underlying t = some (.pointer el)) : (Op.equalIn (d + 1) t (.pointer none) (.pointer a)).run P w = .ok a.isNone w := by
 cases a <;> simp [Op.equalIn, run_underlying hu]
theorem eqIn_func (d : Nat) {t : TypeId} {p r : Array TypeId} {v : Bool} {f : Fn} {a c : Array Value} (hu : P.underlying t = some (.func p r v)) : (Op.equalIn (d + 1) t (.func f a c) .nilFunc).run P w = .ok false w := by
 simp [Op.equalIn, run_underlying hu]
theorem eqIn_func' (d : Nat) {t : TypeId} {p r : Array TypeId} {v : Bool} {f : Fn} {a c : Array Value} (hu : P.underlying t = some (.func p r v)) : (Op.equalIn (d + 1) t .nilFunc (.func f a c)).run P w = .ok false w := by
 simp [Op.equalIn, run_underlying hu]
theorem slice_shape {a : Option Addr} {l c : Nat} {v' : Value} (hn : ¬ (a.isNone && c != 0) = true) (hv : VR β (.slice a l c) v') : ∃ a' l' c', v' = .slice a' l' c' /\ a'.isNone = a.isNone := by
 cases hv <;> first | exact ⟨_, _, _, rfl, rfl⟩ | exact absurd rfl hn
theorem map_shape {a : Option Nat} {v' : Value} (hv : VR β (.map a) v') : ∃ a', v' = .map a' /\ a'.isNone = a.isNone := by cases hv <;> exact ⟨_, rfl, rfl⟩
theorem ptr_shape {a : Option Addr} {v' : Value} (hv : VR β (.pointer a) v') : ∃ a', v' = .pointer a' /\ a'.isNone = a.isNone := by cases hv <;> exact ⟨_, rfl, rfl⟩
theorem func_shape {f : Fn} {a c : Array Value} {v' : Value} (hv : VR β (.func f a c) v') : ∃ f' a' c', v' = .func f' a' c' := by
 cases hv with
 | func => exact ⟨_, _, _, rfl⟩
 | yield => exact ⟨_, _, _, rfl⟩
 | free _ hf => simp [free0] at hf
theorem nilEq_eq {t : TypeId} {x x' y y' : Value} {b : Bool} (hn : nilEq P t x y = some b) (hx : VR β x x') (hy : VR β y y') : (Op.equal t x' y').run P w = .ok b w ∧
  (∀ k n, x' ≠ .int k n) /\ (∀ k n, x' ≠ .float k n) /\ (∀ k n m, x' ≠ .complex k n m) /\ (∀ s, x' ≠ .string s) := by
 have e : ∀ u v, Op.equal t u v = Op.equalIn (9999 + 1) t u v := fun _ _ => rfl
 rw [e]
 unfold nilEq at hn
 split at hn
 case h_9 => cases hn
 case h_1 =>
  rename_i hu
  split at hn
  case isTrue => cases hn
  rename_i hnn
  cases hn
  obtain ⟨a', l', c', rfl, hq⟩ := slice_shape hnn hx
  rw [hy.free0_eq rfl, <-hq]
  exact ⟨eqIn_slice _ ‹_›, by simp, by simp, by simp, by simp⟩
 case h_2 =>
  rename_i hu
  split at hn
  case isTrue => cases hn
  rename_i hnn
  cases hn
  obtain ⟨a', l', c', rfl, hq⟩ := slice_shape hnn hy
  rw [hx.free0_eq rfl, <-hq]
  exact ⟨eqIn_slice' _ ‹_›, by simp, by simp, by simp, by simp⟩
 all_goals
  rename_i hu
  cases hn
 ·obtain ⟨a', rfl, hq⟩ := map_shape hx
  rw [hy.free0_eq rfl, <-hq]
  exact ⟨eqIn_map _ ‹_›, by simp, by simp, by simp, by simp⟩
 ·obtain ⟨a', rfl, hq⟩ := map_shape hy
  rw [hx.free0_eq rfl, <-hq]
  exact ⟨eqIn_map' _ ‹_›, by simp, by simp, by simp, by simp⟩
 ·obtain ⟨a', rfl, hq⟩ := ptr_shape hx
  rw [hy.free0_eq rfl, <-hq]
  exact ⟨eqIn_ptr _ ‹_›, by simp, by simp, by simp, by simp⟩
 ·obtain ⟨a', rfl, hq⟩ := ptr_shape hy
  rw [hx.free0_eq rfl, <-hq]
  exact ⟨eqIn_ptr' _ ‹_›, by simp, by simp, by simp, by simp⟩
 ·obtain ⟨f', a', c', rfl⟩ := func_shape hx
  rw [hy.free0_eq rfl]
  exact ⟨eqIn_func _ ‹_›, by simp, by simp, by simp, by simp⟩
 ·obtain ⟨f', a', c', rfl⟩ := func_shape hy
  rw [hx.free0_eq rfl]
  exact ⟨eqIn_func' _ ‹_›, by simp, by simp, by simp, by simp⟩
theorem eqOp_run {t : TypeId} {u v : Value} {c : Bool} (hq : (Op.equal t u v).run P w = .ok c w) (h1 : ∀ k n, u ≠ .int k n) (h2 : ∀ k n, u ≠ .float k n) (h3 : ∀ k n m, u ≠ .complex k n m) (h4 : ∀ s, u ≠ .string s) :
  (binOp .eql t u v).run P w = .ok (.bool c) w /\ (binOp .neq t u v).run P w = .ok (.bool !c) w := by
 have e1 : binOp .eql t u v = (do pure (.bool (← Op.equal t u v)) : Sem Value) := by
  unfold binOp
  cases u <;> first | exact absurd rfl (h1 _ _) | exact absurd rfl (h2 _ _) | exact absurd rfl (h3 _ _ _) | exact absurd rfl (h4 _) | rfl
 have e2 : binOp .neq t u v = (do pure (.bool (!(← Op.equal t u v))) : Sem Value) := by
  unfold binOp
  cases u <;> first | exact absurd rfl (h1 _ _) | exact absurd rfl (h2 _ _) | exact absurd rfl (h3 _ _ _) | exact absurd rfl (h4 _) | rfl
 rw [e1, e2]
 simp only [Sem.run_bind, hq, Result.andThen_ok, Sem.run_pure, and_self]
theorem nilEq_sound {t : TypeId} {x x' y y' : Value} {b : Bool} (hn : nilEq P t x y = some b) (hx : VR β x x') (hy : VR β y y') : (binOp .eql t x' y').run P w = .ok (.bool b) w /\ (binOp .neq t x' y').run P w = .ok (.bool !b) w := by
 obtain ⟨a, b, c, d, e⟩ := nilEq_eq (w := w) hn hx hy
 exact eqOp_run a b c d e
theorem keep_some {o : Option Value} {v : Value} (h : keep o = some v) : o = some v /\ AM.free v = true := by
 unfold keep at h
 split at h
 ·split at h
  ·cases h; exact ⟨rfl, ‹_›⟩
  ·cases h
 ·cases h
theorem guard_run {op : BinOp} {t : TypeId} {xo yo : Operand} {x y : Value} (h1 : ¬ (x = .nilIface /\ y = .nilIface)) (h2 : ∀ a b, ¬ (x = .agg a /\ y = .agg b)) : (eqGuard op t xo yo x y).run P w = .ok () w := by
 unfold eqGuard
 by_cases hop : (match op with | .eql => true | .neq => true | _ => false) = true
 ·cases op <;> simp at hop <;>
  ·cases x <;> first
    | rfl
    | (cases y <;> first | rfl | exact absurd ⟨rfl, rfl⟩ h1 | exact absurd ⟨rfl, rfl⟩ (h2 _ _))
 ·cases op <;> first | rfl | (simp at hop)
theorem binV_sound {op : BinOp} {t : TypeId} {xo yo : Operand} {x x' y y' v : Value} (hb : binV P op t xo yo x y = some v) (hx : VR β x x') (hy : VR β y y') :
  (do eqGuard op t xo yo x' y'; binOp op t x' y').run P w = .ok v w /\ AM.free v = true := by
 unfold binV at hb
 split at hb
 ·rename_i hf
  simp only [Bool.and_eq_true] at hf
  rw [hx.free1_eq hf.1, hy.free1_eq hf.2]
  obtain ⟨h1, h2⟩ := keep_some hb
  exact ⟨quick_run h1 w, h2⟩
 ·split at hb
  ·rename_i b hn
   cases hb
   refine ⟨?_, rfl⟩
   rw [Sem.run_bind, guard_run, Result.andThen_ok]
   ·exact (nilEq_sound hn hx hy).1
   ·rintro ⟨rfl, rfl⟩
    cases hx with
    | free _ hf => simp [nilEq] at hn
   ·rintro a b ⟨rfl, rfl⟩
    cases hx with
    | free _ hf => simp [free0] at hf
    | agg => simp [nilEq] at hn
  ·rename_i b hn
   cases hb
   refine ⟨?_, rfl⟩
   rw [Sem.run_bind, guard_run, Result.andThen_ok]
   ·exact (nilEq_sound hn hx hy).2
   ·rintro ⟨rfl, rfl⟩
    cases hx with
    | free _ hf => simp [nilEq] at hn
   ·rintro a b ⟨rfl, rfl⟩
    cases hx with
    | free _ hf => simp [free0] at hf
    | agg => simp [nilEq] at hn
  ·cases hb
end
end Go.AM
namespace Go.AM
section
variable {P : Program} {β : Ren} {h : AH} {w : World} {e : Tr Value} {a : Act}
theorem agg_inv {cs : Array Value} {v' : Value} (hv : VR β (.agg cs) v') : ∃ cs', v' = .agg cs' /\ cs.size = cs'.size /\ ∀ (i : Nat) (u u' : Value), cs[i]? = some u -> cs'[i]? = some u' -> VR β u u' := by
 cases hv with
 | free _ hf => simp [free0] at hf
 | agg h1 h2 => exact ⟨_, rfl, h1, h2⟩
theorem part_sound {t : TypeId} {cs cs' : Array Value} {off : Nat} {v : Value} (hq : quick P (part t cs off) = some v) (h1 : cs.size = cs'.size) (h2 : ∀ (i : Nat) (u u' : Value), cs[i]? = some u -> cs'[i]? = some u' -> VR β u u') :
  ∃ v', (part t cs' off).run P w = .ok v' w /\ VR β v v' := by
 unfold part at hq ⊢
 simp only [quick_bind, Option.bind_eq_some_iff] at hq
 obtain ⟨b, hb, hq⟩ := hq
 cases b with
 | true =>
  simp only [if_true, quick_bind, Option.bind_eq_some_iff] at hq
  obtain ⟨n, hn, hq⟩ := hq
  have hv : v = .agg (cs.extract off (off + n)) := by
   have : some (Value.agg (cs.extract off (off + n))) = some v := hq
   cases this; rfl
  subst hv
  refine ⟨.agg (cs'.extract off (off + n)), by simp only [Sem.run_bind, quick_run hb, Result.andThen_ok, if_true, quick_run hn, Sem.run_pure], .agg (by simp [h1]) fun i u u' p q => ?_⟩
  rw [Array.getElem?_extract] at p q
  split at p
  ·rename_i hlt
   rw [if_pos ow] at q
   exact h2 _ _ _ p q
  ·cases p
 | false =>
  simp only [Bool.false_eq_true, if_false] at hq
  cases ho : cs[off]? with
  | none => rw [ho] at hq; cases hq
  | some u =>
   rw [ho] at hq
   have hv : v = u := by
    have : some u = some v := hq
    cases this; rfl
   subst hv
   have hlt : off < cs'.size := by
    rw [<-h1]
    rcases Nat.lt_or_ge off cs.size with q | q
    ·exact q
    ·rw [Array.getElem?_eq_none q] at ho; cases ho
   refine ⟨cs'[off], ?_, h2 _ _ _ ho (Array.getElem?_eq_getElem hlt)⟩
   simp only [Sem.run_bind, quick_run hb, Result.andThen_ok, Bool.false_eq_true, if_false, Array.getElem?_eq_getElem hlt, Sem.run_pure]
theorem field_sound {t : TypeId} {x x' v : Value} {i : Nat} (hq : quick P (Instr.field t x i) = some v) (hx : VR β x x') : ∃ v', (Instr.field t x' i).run P w = .ok v' w /\ VR β v v' := by
 unfold Instr.field at hq ⊢
 simp only [quick_bind, Option.bind_eq_some_iff] at hq
 obtain ⟨d, hd, hq⟩ := hq
 cases d with
 | struct fields =>
  simp only at hq
  cases hf : fields[i]? with
  | none => rw [hf] at hq; cases hq
  | some f =>
   rw [hf] at hq
   simp only [quick_bind, Option.bind_eq_some_iff] at hq
   obtain ⟨cs, hcs, hq⟩ := hq
   cases x with
   | agg cs0 =>
    have : cs0 = cs := by
     have : some cs0 = some cs := hcs
     cases this; rfl
    subst this
    obtain ⟨cs', rfl, h1, h2⟩ := agg_inv hx
    obtain ⟨v', k1, k2⟩ := part_sound (w := w) hq h1 h2
    refine ⟨v', ?_, k2⟩
    simp only [Sem.run_bind, quick_run hd, Result.andThen_ok, hf, asAgg, Sem.run_pure, k1]
   | _ => cases hcs
 | _ => cases hq
theorem extract_sound {x x' v : Value} {i : Nat} (hq : quick P (Instr.extract x i) = some v) (hx : VR β x x') : ∃ v', (Instr.extract x' i).run P w = .ok v' w /\ VR β v v' := by
 cases x with
 | tuple vs =>
  simp only [Instr.extract] at hq
  cases ho : vs[i]? with
  | none => rw [ho] at hq; cases hq
  | some u =>
   rw [ho] at hq
   have : u = v := by
    have : some u = some v := hq
    cases this; rfl
   subst this
   cases hx with
   | free _ hf => simp [free0] at hf
   | tuple h1 h2 =>
    rename_i vs'
    have hlt : i < vs'.size := by
     rw [<-h1]
     rcases Nat.lt_or_ge i vs.size with q | q
     ·exact q
     ·rw [Array.getElem?_eq_none q] at ho; cases ho
    refine ⟨vs'[i], ?_, h2 _ _ _ ho (Array.getElem?_eq_getElem hlt)⟩
    simp only [Instr.extract, Array.getElem?_eq_getElem hlt, Sem.run_pure]
 | _ => cases hq
theorem buildSlice_sound (hr : HR β h w) (hw : Wf h) {t el : TypeId} {len sz : Nat} {z : Value} {ps ps' : List (Nat × Value)} {cs : Array Value} (hu : P.underlying t = some (.slice el)) (hsz : szOf P el = some sz)
  (hz : (P.info? el).bind (·.zero) = some z) (h1 : len * sz <= 16777216) (h2 : z.cells.size = sz) (h3 : 0 < sz) (h4 : free1 z = true)
  (hf : Instr.fill (fun i => some (i * sz, sz)) ⟨zerosC z.cells.toList len⟩ ps = some cs)
  (hl : ps.length = ps'.length) (hp : ∀ (i : Nat) (p p' : Nat × Value), ps[i]? = some p -> ps'[i]? = some p' -> p'.1 = p.1 /\ VR β p.2 p'.2) :
  ∃ v' w' β', (Instr.buildSlice t len ⟨ps'⟩).run P w = .ok v' w' /\ VR β' (.slice (some ⟨h.next, 0, none⟩) len len) v' /\ HR β' (newRow h cs.toList).2 w' /\ Wf (newRow h cs.toList).2 /\ Evo β h w β' (newRow h cs.toList).2 w' := by
 have hzz : VRl β (⟨zerosC z.cells.toList len⟩ : Array Value).toList (⟨zerosC z.cells.toList len⟩ : Array Value).toList := VRl.free (zerosC_free (cells_free h4) len)
 obtain ⟨cs', k1, k2⟩ := fill_vr (β := β) (fun i => some (i * sz, sz)) ps ps' hl hp _ _ _ hzz hf
 obtain ⟨p1, p2, p3⟩ := newRow_sound hr hw el k2
 refine ⟨_, _, _, ?_, slice_new (.inl ⟨rfl, rfl⟩), p1, p2, p3⟩
 unfold Instr.buildSlice
 have h5 : ¬ len * sz > 2 ^ 24 := by omega
 simp only [Sem.run_bind, run_underlying hu, Result.andThen_ok, run_sz hsz, if_neg h5]
 by_cases h0 : len * sz = 0
 ·have hl0 : len = 0 := by
   rcases Nat.mul_eq_zero.1 h0 with q | q
   ·exact q
   ·omega
  subst hl0
  simp only [h0, if_true]
  simp only [Sem.run_bind, Sem.run_pure, Result.andThen_ok]
  rw [show (Array.map (fun x => (#[] : Array Value)[x % (#[] : Array Value).size]!) (Array.range 0)) = ⟨zerosC z.cells.toList 0⟩ by simp [zerosC]]
  simp only [k1]
  rfl
 ·simp only [if_neg h0, Sem.run_bind, run_zeroV hz, Sem.run_pure, Result.andThen_ok, zeros_range h2 h3, k1]
  rfl
theorem makeSlice_sound (hr : HR β h w) (hw : Wf h) {t el : TypeId} {n m : Int} {i : TypeInfo} {z : Value} (hu : P.underlying t = some (.slice el)) (hi : P.info? el = some i) (hiz : i.zero = some z)
  (c1 : 0 <= n) (c2 : n <= m) (c3 : m < BIG) (c4 : m * i.bytes <= 140737488355328) (c5 : z.cells.size = i.size) (c6 : 0 < i.size) (c7 : free1 z = true) (c8 : i.size < 4294967296) :
  ∃ v' w' β', (Instr.makeSlice t (.int .i64 n) (.int .i64 m)).run P w = .ok v' w' /\ VR β' (.slice (some ⟨h.next, 0, none⟩) n.toNat (if n = m then n.toNat else n.toNat + i.size)) v' ∧
   HR β' (newRow h (zerosC z.cells.toList m.toNat)).2 w' /\ Wf (newRow h (zerosC z.cells.toList m.toNat)).2 /\ Evo β h w β' (newRow h (zerosC z.cells.toList m.toNat)).2 w' := by
 obtain ⟨p1, p2, p3⟩ := newRow_sound hr hw el (VRl.free (β := β) (zerosC_free (cells_free c7) m.toNat))
 unfold BIG at c3
 have wn : IntKind.i64.wrap n = n := IntWalk.i64_in n ow
 have wm : IntKind.i64.wrap m = m := IntWalk.i64_in m ow
 have hlen : (zerosC z.cells.toList m.toNat).length = m.toNat * i.size := by rw [zerosC_length]; simp [c5]
 refine ⟨.slice (some ⟨w.heap.size, 0, none⟩) n.toNat m.toNat, _, _, ?_, slice_new ?_, p1, p2, p3⟩
 ·unfold Instr.makeSlice
  have hb : ¬ (2 : Int) ^ 48 < (i.bytes : Int) * m := by rw [Int.mul_comm]; omega
  simp only [Sem.run_bind, run_underlying hu, Result.andThen_ok, asInt, asIntOf, Sem.run_pure, run_info hi, wn, wm]
  have hcond : (decide (m < 0) || decide ((i.bytes : Int) * m > 2 ^ 48) || decide (n < 0) || decide (n > m)) = false := by
   simp only [Bool.or_eq_false_iff, decide_eq_false_iff_not]
   refine ⟨⟨⟨by omega, ?_⟩, by omega⟩, by omega⟩
   exact hb
  simp only [hcond, Bool.false_eq_true, if_false, Sem.run_bind, Result.andThen_ok, run_askRoom, run_sz (show szOf P el = some i.size by simp [szOf, hi])]
  by_cases h0 : m.toNat * i.size = 0
  ·have hm0 : m.toNat = 0 := by
    rcases Nat.mul_eq_zero.1 h0 with q | q
    ·exact q
    ·omega
   simp only [h0, if_true]
   simp only [Sem.run_bind, Sem.run_pure, Result.andThen_ok]
   rw [show (Array.map (fun x => (#[] : Array Value)[x % (#[] : Array Value).size]!) (Array.range 0)) = ⟨zerosC z.cells.toList m.toNat⟩ by rw [hm0]; simp [zerosC]]
   rfl
  ·simp only [if_neg h0, Sem.run_bind, run_zeroV (show (P.info? el).bind (·.zero) = some z by simp [hi, hiz]), Sem.run_pure, Result.andThen_ok, zeros_range c5 c6]
   rfl
 ·by_cases hq : n = m
  ·subst hq
   rw [if_pos rfl]
   exact .inl ⟨rfl, rfl⟩
  ·rw [if_neg hq]
   refine .inr ⟨i.size, 0, c6, c8, rfl, by omega, by simp only [hlen]; omega⟩
theorem wf_newObj (hw : Wf h) {o : AObj} (ho : o.flat = true) : Wf { h with t := h.t.set h.next o, next := h.next + 1 } := by
 have hf : ∀ {id f}, ({ h with t := h.t.set h.next o, next := h.next + 1 } : AH).fam id = some f -> id < h.next /\ h.fam id = some f := by
  intro id f hq
  by_cases h1 : id = h.next
  ·subst h1
   rw [fam_flat (Tr.get_set_eq _ _ _) ho] at hq
   cases hq
  ·have hl : id < h.next := by
    unfold AH.fam at hq
    simp only [Tr.get_set_ne _ _ h1] at hq
    cases hg : h.t.get id with
    | none => rw [hg] at hq; cases hq
    | some o => exact hw.lt _ _ hg
   exact ⟨hl, by rw [<-hq]; exact (fam_set_next hw hl).symm⟩
 constructor
 ·intro id o ho
  by_cases h1 : id = h.next
  ·subst h1; exact Nat.lt_succ_self _
  ·exact Nat.lt_succ_of_lt (hw.lt id o (by simpa [Tr.get_set_ne _ _ h1] using ho))
 ·intro id f q; exact hw.lon _ _ (hf q).2
 ·intro id f q; exact hw.curn _ _ (hf q).2
 ·intro id f q; exact hw.stale _ _ (hf q).2
 ·intro id f q; exact Nat.lt_succ_of_lt (hw.cur _ _ (hf q).2)
 ·intro id r lo n hq
  by_cases h1 : id = h.next
  ·subst h1; rw [Tr.get_set_eq] at hq; cases hq; cases ho
  ·obtain ⟨d, c, l, ro, n0, hr, hc⟩ := hw.ali id r lo n (by simpa [Tr.get_set_ne _ _ h1] using hq)
   have : r < h.next := hw.lt _ _ hr
   exact ⟨d, c, l, ro, n0, by simpa [Tr.get_set_ne _ _ (show r ≠ h.next by omega)] using hr, hc⟩
theorem makeMap_sound (hr : HR β h w) (hw : Wf h) : HR (upd β h.next ⟨w.heap.size, 0, 0, 0⟩) { h with t := h.t.set h.next (.map [] 0), next := h.next + 1 } (w.alloc (.map #[] 0)) ∧
  Wf { h with t := h.t.set h.next (.map [] 0), next := h.next + 1 } /\ Evo β h w (upd β h.next ⟨w.heap.size, 0, 0, 0⟩) { h with t := h.t.set h.next (.map [] 0), next := h.next + 1 } (w.alloc (.map #[] 0)) := by
 have k := hr_new hr hw (.map [] 0) (.map #[] 0) 0 (fun d c l ro n0 q => by cases q) (fun es ck q => by cases q; exact ⟨#[], rfl, rfl, fun i a b p => by simp at p⟩) (fun r q => by cases q) (fun m s e l q => by cases q) (fun r lo n q => by cases q)
 exact ⟨k.1, wf_newObj hw rfl, k.2⟩
theorem bytesL_inv : ∀ {cs : List Value} {l : List UInt8}, bytesL cs = some l -> ∃ ns : List Int, cs = ns.map (Value.int .u8) /\ l = ns.map fun n => UInt8.ofNat n.toNat
 | [], l, hq => by cases hq; exact ⟨[], rfl, rfl⟩
 | c :: r, l, hq => by
  unfold bytesL at hq
  split at hq
  ·rename_i hc; cases hc
  ·rename_i n r' hc
   cases hc
   cases h1 : bytesL r with
   | none => rw [h1] at hq; cases hq
   | some l' =>
    rw [h1] at hq
    cases hq
    obtain ⟨ns, rfl, rfl⟩ := bytesL_inv h1
    exact ⟨n :: ns, rfl, rfl⟩
  ·cases hq
theorem push_bytes : ∀ (ns : List Int) (r : ByteArray), ns.foldl (fun r n => r.push (UInt8.ofNat n.toNat)) r = ⟨⟨r.data.toList ++ ns.map fun n => UInt8.ofNat n.toNat⟩⟩
 | [], r => by simp
 | n :: ns, r => by
  simp only [List.foldl_cons]
  rw [push_bytes ns]
  simp [ByteArray.push]
theorem ints_free : ∀ ns : List Int, (ns.map (Value.int .u8)).all free1 = true
 | [] => rfl
 | n :: ns => by simp only [List.map_cons, List.all_cons, ints_free ns]; rfl
theorem conv_sound (hr : HR β h w) (hw : Wf h) {s d : TypeId} {x x' v : Value} {h' : AH} (hc : convV P h s d x = some (v, h')) (hx : VR β x x') :
  ∃ v' w' β', (convert s d x').run P w = .ok v' w' /\ VR β' v v' /\ HR β' h' w' /\ Wf h' /\ Evo β h w β' h' w' := by
 have free : ∀ {y : Value}, free1 y = true -> VR β y x' -> (keep (quick P (convert s d y))).map (·, h) = some (v, h') -> ∃ v' w' β', (convert s d x').run P w = .ok v' w' /\ VR β' v v' /\ HR β' h' w' /\ Wf h' /\ Evo β h w β' h' w' := by
  intro y hf hv hq
  cases hk : keep (quick P (convert s d y)) with
  | none => rw [hk] at hq; cases hq
  | some r =>
   rw [hk] at hq
   cases hq
   unfold keep at hk
   split at hk
   ·rename_i v0 h1
    split at hk
    ·rename_i h2
     cases hk
     rw [hv.free1_eq hf]
     exact ⟨_, w, β, quick_run h1 w, .of_free h2, hr, hw, .refl _ _ _⟩
    ·cases hk
   ·cases hk
 unfold convV at hc
 split at hc
 ·rename_i a len cap
  split at hc
  case h_2 => cases hc
  rename_i el hs hd
  have run : ∀ (a' : Option Addr) (c' : Nat), P.underlying el = some (.int .u8) -> (convert s d (.slice a' len c')).run P w = (Conv.bytesToString (.slice a' len c')).run P w := fun a' c' he => run_convert_bytes_string w s d el a' len c' hs he hd
  have zero : ∀ (a' : Option Addr) (c' : Nat), (Conv.bytesToString (.slice a' 0 c')).run P w = .ok (.string ⟨⟨[]⟩⟩) w := by
   intro a' c'
   cases a' with
   | none => rfl
   | some a' => exact run_bytesToString w a' 0 c' [] rfl
  split at hc
  ·rename_i id off he
   cases hl : loadC h id off len with
   | none => rw [hl] at hc; cases hc
   | some cs =>
    rw [hl] at hc
    simp only at hc
    cases hb : bytesL cs with
    | none => rw [hb] at hc; cases hc
    | some l =>
     rw [hb] at hc
     cases hc
     obtain ⟨ns, rfl, rfl⟩ := bytesL_inv hb
     obtain ⟨b, a', cap', hb, hblo, hcr, ha, rfl⟩ := slice_inv hx
     obtain ⟨_, h1, cs', h2, h3, _⟩ := hr_load P hr hw hl hb
     have := VRl.free_eq h2 (ints_free ns)
     subst this
     refine ⟨_, w, β, ?_, .free _ rfl, hr, hw, .refl _ _ _⟩
     rw [run _ _ he]
     by_cases h0 : len = 0
     ·subst h0
      rw [zero]
      have : ns = [] := List.eq_nil_of_length_eq_zero (by simpa using h1)
      subst this
      rfl
     ·have := hcr.le
      rw [ha.resolve_left ow, run_bytesToString w _ len cap' ns h3, push_bytes]
      rfl
  ·rename_i he
   split at hc
   case isFalse => cases hc
   rename_i h0
   subst h0
   cases hc
   have shape : ∃ a' c', x' = .slice a' 0 c' := by
    cases hx with
    | free _ hf => exact ⟨_, _, rfl⟩
    | empty => exact ⟨_, _, rfl⟩
   obtain ⟨a', c', rfl⟩ := shape
   exact ⟨_, w, β, by rw [run _ _ he, zero]; rfl, .free _ rfl, hr, hw, .refl _ _ _⟩
  ·cases hc
 ·rename_i b
  split at hc
  ·rename_i el hs hd
   split at hc
   case h_2 => cases hc
   rename_i he
   cases hc
   have : x' = .string b := hx.free0_eq rfl
   subst this
   have hg : b.size <= grownCap w b.size 0 el := by unfold grownCap; simp [Question.cut]
   have hsz : (bytesRow b (grownCap w b.size 0 el)).size = grownCap w b.size 0 el := by
    have : b.data.size = b.size := rfl
    simp [bytesRow, this]
    omega
   obtain ⟨k1, k2, k3⟩ := hr_newRow (hr.drew) hw (b.data.toList.map fun c => .int .u8 c.toNat) (bytesRow b (grownCap w b.size 0 el)) el (by rw [hsz]; simpa using hg)
    (fun p v hp => by
     have hlt : p < b.data.size := by
      have := (List.getElem?_eq_some_iff.1 hp).1
      simpa using this
     refine ⟨v, ?_, ?_⟩
     ·unfold bytesRow
      rw [Array.getElem?_append_left (by simpa using hlt)]
      simpa using hp
     ·have hm := List.mem_of_getElem? hp
      simp only [List.mem_map] at hm
      obtain ⟨q, _, rfl⟩ := hm
      exact .free _ rfl)
    ((bytesRow b (grownCap w b.size 0 el)).size, (bytesRow b (grownCap w b.size 0 el)).size + 1) (fun p hp q => by simp only at q; omega)
   refine ⟨_, _, _, run_bytes_of_string w s d el b hs hd he, ?_, k1, k2, k3.of_drew⟩
   refine .slice (upd_same _ _ _) (Nat.le_refl _) (.inr ⟨1, 0, by omega, by omega, rfl, hg, ?_⟩) (.inr rfl)
   simp only [hsz]
   omega
  ·exact free rfl hx hc
 ·split at hc
  case isFalse => cases hc
  rename_i hf
  exact free hf hx hc
theorem rangeM_sound (hr : HR β h w) (hw : Wf h) {t : TypeId} {x x' v : Value} {h' : AH} (hc : rangeV P h t x = some (v, h')) (hx : VR β x x') :
  ∃ v' w' β', (Instr.range t x').run P w = .ok v' w' /\ VR β' v v' /\ HR β' h' w' /\ Wf h' /\ Evo β h w β' h' w' := by
 unfold rangeV at hc
 split at hc
 ·rename_i k el hu
  cases hc
  have : x' = .map none := hx.free0_eq rfl
  subst this
  obtain ⟨k1, k2⟩ := hr_new hr hw (.iter none 0 [] 0) (.mapIter none 0 #[] 0) 0 (fun d c l ro n0 q => by cases q) (fun es ck q => by cases q) (fun r q => by cases q)
   (fun m s e l q => by cases q; exact ⟨none, rfl, trivial⟩) (fun r lo n q => by cases q)
  refine ⟨.pointer (some ⟨w.heap.size, 0, none⟩), _, _, ?_, .ptr (upd_same _ _ _) (Nat.le_refl _), k1, wf_newObj hw rfl, k2⟩
  unfold Instr.range
  simp only [Sem.run_bind, run_underlying hu, Result.andThen_ok]
  rfl
 ·rename_i k el m hu
  split at hc
  case h_2 => cases hc
  rename_i es ck hm
  cases hc
  obtain ⟨b, hb, rfl⟩ := map_inv hx
  obtain ⟨es', e1, e2⟩ := hr.map _ _ _ _ hb hm
  obtain ⟨k1, k2⟩ := hr_new hr hw (.iter (some m) ck [] ck) (.mapIter (some b.g) ck #[] ck) 0 (fun d c l ro n0 q => by cases q) (fun es ck q => by cases q) (fun r q => by cases q)
   (fun m s e l q => by cases q; exact ⟨some b.g, rfl, b, hb, rfl⟩) (fun r lo n q => by cases q)
  refine ⟨.pointer (some ⟨w.heap.size, 0, none⟩), _, _, ?_, .ptr (upd_same _ _ _) (Nat.le_refl _), k1, wf_newObj hw rfl, k2⟩
  unfold Instr.range
  simp only [Sem.run_bind, run_underlying hu, Result.andThen_ok, run_getMap e1]
  rfl
 ·cases hc
theorem run_getIter {g s k : Nat} {m : Option Nat} {e : Array Nat} (hg : w.heap[g]? = some (.mapIter m s e k)) : (getObj g).run P w = .ok (.mapIter m s e k) w := by
 simp [getObj, Sem.run, hg]
theorem run_setIter {g s k : Nat} {m : Option Nat} {e : Array Nat} (o : Obj) (hg : w.heap[g]? = some (.mapIter m s e k)) : (setObj g o).run P w = .ok () { w with heap := w.heap.setIfInBounds g o } := by
 simp [setObj, Sem.run, hg]
theorem Evo.of_cut {β' : Ren} {h' : AH} {w' w1 : World} (hw1 : w1 = w \/ w1 = w.drew) (e : Evo β h w1 β' h' w') : Evo β h w β' h' w' := by
 rcases hw1 with rfl | rfl
 ·exact e
 ·exact e.of_drew
theorem es_filter {es es' : List MapEntry} (he : EsR β es es') (p : Nat -> Bool) : EsR β (es.filter fun e => p e.born) (es'.filter fun e => p e.born) := by
 induction es generalizing es' with
 | nil =>
  have : es' = [] := List.eq_nil_of_length_eq_zero he.1.symm
  subst this
  exact ⟨rfl, fun i a b q => by simp at q⟩
 | cons x es ih =>
  match es', he with
  | [], he => have := he.1; simp at this
  | y :: es', he =>
   have h0 := he.2 0 x y rfl rfl
   have ht := ih (es' := es') ⟨by simpa using he.1, fun i p q a b => he.2 (i + 1) p q (by simpa using a) (by simpa using b)⟩
   simp only [List.filter_cons, h0.born]
   split
   ·refine ⟨by simp [ht.1], fun i a b q1 q2 => ?_⟩
    cases i with
    | zero => simp at q1 q2; subst q1; subst q2; exact h0
    | succ i => exact ht.2 i a b (by simpa using q1) (by simpa using q2)
   ·exact ht
theorem next_sound (hr : HR β h w) (hw : Wf h) {t : TypeId} {x x' : Value} {l : List (Value × AH)} (hc : nextL h x = some l) (hx : VR β x x') :
  ∃ r ∈ l, ∃ v' w', (Instr.next x' false t).run P w = .ok v' w' /\ VR β r.1 v' /\ HR β r.2 w' /\ Wf r.2 /\ Evo β h w β r.2 w' := by
 unfold nextL at hc
 split at hc
 case h_2 => cases hc
 rename_i id
 obtain ⟨b, hb, hblo, rfl⟩ := ptr_inv hx
 split at hc
 case h_3 => cases hc
 ·rename_i s e k hm
  cases hc
  obtain ⟨e0, m', e1, e2⟩ := hr.more.iter _ _ _ _ _ _ hb hm
  have : m' = none := by
   cases m' with
   | none => rfl
   | some _ => exact e2.elim
  subst this
  have hb0 : b.at_ 0 = ⟨b.g, 0, none⟩ := by unfold Bx.at_; rw [e0]; simp
  refine ⟨_, List.mem_singleton.2 rfl, .tuple #[.bool false], w, ?_, .of_free rfl, hr, hw, .refl _ _ _⟩
  rw [hb0]
  simp only [Instr.next, Sem.run_bind, run_getIter e1, Result.andThen_ok]
  rfl
 ·rename_i m since seen last hm
  split at hc
  case h_2 => cases hc
  rename_i es ck hmm
  split at hc
  case isFalse => cases hc
  rename_i hcond
  obtain ⟨rfl, rfl, hborn⟩ := hcond
  obtain ⟨e0, m', e1, e2⟩ := hr.more.iter _ _ _ _ _ _ hb hm
  obtain ⟨y, hy, rfl⟩ : ∃ y, β m = some y /\ m' = some y.g := by
   cases m' with
   | none => exact e2.elim
   | some g => obtain ⟨y, h1, h2⟩ := e2; exact ⟨y, h1, by rw [h2]⟩
  obtain ⟨es', f1, f2⟩ := hr.map _ _ _ _ hy hmm
  have hb0 : b.at_ 0 = ⟨b.g, 0, none⟩ := by unfold Bx.at_; rw [e0]; simp
  have hblt : ∀ a ∈ es'.toList, a.born < last := by
   intro a ha
   obtain ⟨i, hi, rfl⟩ := List.mem_iff_getElem.1 ha
   have hi' : i < es.length := by rw [f2.1]; exact hi
   have := (f2.2 i _ _ (List.getElem?_eq_getElem hi') (List.getElem?_eq_getElem hi)).born
   rw [this]
   have := List.all_eq_true.1 hborn _ (List.getElem_mem hi')
   rw [Nat.blt_eq] at this; exact this
  have hleft := es_filter f2 (fun n => !seen.contains n)
  have c1 : (!(⟨seen⟩ : Array Nat).isEmpty && !es'.isEmpty && es'.all (·.born ≥ last)) = false := by
   cases hq : (!(⟨seen⟩ : Array Nat).isEmpty && !es'.isEmpty && es'.all (·.born ≥ last)) with
   | false => rfl
   | true =>
    simp only [Bool.and_eq_true] at hq
    obtain ⟨⟨_, q1⟩, q2⟩ := hq
    cases hl : es'.toList with
    | nil =>
     have : es' = #[] := by cases es'; cases hl; rfl
     subst this
     cases q1
    | cons a r =>
     have h3 := hblt a (by rw [hl]; exact List.mem_cons_self ..)
     have h4 := Array.all_eq_true_iff_forall_mem.1 q2 a (by rw [<-Array.mem_toList_iff, hl]; exact List.mem_cons_self ..)
     simp at h4
     omega
  have c2 : (es'.filter fun e => !(⟨seen⟩ : Array Nat).contains e.born) = ⟨es'.toList.filter fun e => !seen.contains e.born⟩ := by
   apply Array.ext'
   rw [Array.toList_filter]
   simp
  generalize hL : (es.filter fun e => !seen.contains e.born) = L at hc hleft
  generalize hL' : (es'.toList.filter fun e => !seen.contains e.born) = L' at hleft c2
  have hltL : ∀ a ∈ L', a.born < last := by
   intro a ha
   rw [<-hL'] at ha
   exact hblt a (List.mem_filter.1 ha).1
  have c3 : ((⟨L'⟩ : Array MapEntry).filter (·.born < last)) = ⟨L'⟩ := by
   apply Array.ext'
   rw [Array.toList_filter]
   exact List.filter_eq_self.2 fun a ha => by simpa using hltL a ha
  have c4 : ((⟨L'⟩ : Array MapEntry).filter (·.born ≥ last)) = #[] := by
   apply Array.ext'
   rw [Array.toList_filter]
   exact List.filter_eq_nil_iff.2 fun a ha => by have := hltL a ha; simp; omega
  have start : (Instr.next (.pointer (some (b.at_ 0))) false t).run P w = (do
    let candidates := (if (⟨L'⟩ : Array MapEntry).isEmpty then #[none] else #[]) ++ ((⟨L'⟩ : Array MapEntry) ++ #[]).map some
    match candidates[<-choose (.mapNext candidates.size)]? with
    | some (some e) =>
     setObj b.g (.mapIter (some y.g) last ((⟨seen⟩ : Array Nat).push e.born) last)
     pure (.tuple #[.bool true, e.key, e.val])
    | some none => pure (.tuple #[.bool false])
    | none => stuck "Next: no such candidate" : Sem Value).run P w := by
   rw [hb0]
   simp only [Instr.next, Sem.run_bind, run_getIter e1, Result.andThen_ok, run_getMap f1, c1, c2, c3, c4, Bool.false_eq_true, if_false]
   rfl
  rw [start]
  cases hLc : L with
  | nil =>
   rw [hLc] at hc hleft
   cases hc
   have : L' = [] := List.eq_nil_of_length_eq_zero hleft.1.symm
   subst this
   refine ⟨_, List.mem_singleton.2 rfl, .tuple #[.bool false], w, ?_, .of_free rfl, hr, hw, .refl _ _ _⟩
   simp [Question.forced]
  | cons x0 r0 =>
   rw [hLc] at hc hleft
   simp only [Option.some.injEq] at hc
   have hne : L' ≠ [] := fun q => by rw [q] at hleft; have := hleft.1; simp at this
   have hcand : ((if (⟨L'⟩ : Array MapEntry).isEmpty then #[none] else #[]) ++ ((⟨L'⟩ : Array MapEntry) ++ #[]).map some) = ⟨L'.map some⟩ := by
    have : (⟨L'⟩ : Array MapEntry).isEmpty = false := by cases L' with | nil => exact absurd rfl hne | cons => rfl
    rw [this]
    apply Array.ext'
    simp
   have hpos : 0 < L'.length := List.length_pos_iff.2 hne
   obtain ⟨i, w1, hi, hw1, hrun⟩ : ∃ i w1, i < L'.length /\ (w1 = w \/ w1 = w.drew) /\ (choose (.mapNext (L'.map some).length)).run P w = .ok i w1 := by
    by_cases q : (L'.map some).length <= 1
    ·exact ⟨0, w, hpos, .inl rfl, by simp [Question.forced]; intro q2; simp at q; omega⟩
    ·refine ⟨_, w.drew, ?_, .inr rfl, by rw [run_choose, if_neg (by simp [Question.forced]; simp at q; omega)]; rfl⟩
     simp [Question.cut]
     exact Nat.mod_lt _ hpos
   have hr1 : HR β h w1 := by rcases hw1 with rfl | rfl; exact hr; exact hr.drew
   have e1' : w1.heap[b.g]? = some (.mapIter (some y.g) last ⟨seen⟩ last) := by rcases hw1 with rfl | rfl <;> exact e1
   have hgs : b.g < w1.heap.size := (Array.getElem?_eq_some_iff.1 e1').1
   have hi' : i < (x0 :: r0).length := by rw [hleft.1]; exact hi
   have hen := hleft.2 i _ _ (List.getElem?_eq_getElem hi') (List.getElem?_eq_getElem hi)
   obtain ⟨k1, k2, k3⟩ := hr_setObj (o2 := .iter (some m) last (seen ++ [(x0 :: r0)[i].born]) last) (w' := { w1 with heap := w1.heap.setIfInBounds b.g (.mapIter (some y.g) last ((⟨seen⟩ : Array Nat).push L'[i].born) last) }) hr1 hw hb hm rfl rfl
    (fun es c0 q => by cases q) (fun r q => by cases q)
    (fun m s e l q => by
     cases q
     refine ⟨e0, some y.g, ?_, y, hy, rfl⟩
     rw [hen.born]
     simp [hgs])
    (fun b' hb' => by simp only; rw [Array.getElem?_setIfInBounds_ne (Ne.symm hb')]) (by simp) rfl rfl rfl
   refine ⟨(.tuple #[.bool true, (x0 :: r0)[i].key, (x0 :: r0)[i].val], _), ?_, .tuple #[.bool true, L'[i].key, L'[i].val], _, ?_, ?_, k1, k2, k3.of_cut hw1⟩
   ·rw [<-hc]
    exact List.mem_map.2 ⟨(x0 :: r0)[i], List.getElem_mem hi', rfl⟩
   ·simp only [hcand]
    have hsz : (⟨L'.map some⟩ : Array (Option MapEntry)).size = (L'.map some).length := rfl
    rw [hsz, Sem.run_bind, hrun]
    simp only [Result.andThen_ok]
    have : (⟨L'.map some⟩ : Array (Option MapEntry))[i]? = some (some L'[i]) := by simp [hi]
    simp only [this]
    simp only [Sem.run_bind, run_setIter _ e1', Result.andThen_ok, Sem.run_pure]
   ·refine .tuple rfl fun j u u' p q => ?_
    have hj : j < 3 := (Array.getElem?_eq_some_iff.1 p).1
    match j, hj with
    | 0, _ => cases p; cases q; exact .free _ rfl
    | 1, _ => cases p; cases q; rw [hen.key]; exact .of_free1 hen.fk
    | 2, _ => cases p; cases q; exact hen.val
theorem es_find {es es' : List MapEntry} (he : EsR β es es') (n : Nat) {a : MapEntry} (hf : es.find? (fun e => e.born == n) = some a) : ∃ b, es'.find? (fun e => e.born == n) = some b /\ EntR β a b := by
 induction es generalizing es' with
 | nil => cases hf
 | cons x es ih =>
  match es', he with
  | [], he => have := he.1; simp at this
  | y :: es', he =>
   have h0 := he.2 0 x y rfl rfl
   simp only [List.find?_cons, h0.born] at hf ⊢
   split at hf
   ·cases hf; exact ⟨y, rfl, h0⟩
   ·exact ih (es' := es') ⟨by simpa using he.1, fun i p q a b => he.2 (i + 1) p q (by simpa using a) (by simpa using b)⟩ hf
theorem entry_sound (hr : HR β h w) {x x' v : Value} (hc : entryV h x = some v) (hx : VR β x x') : ∃ v', (Instr.entry x').run P w = .ok v' w /\ VR β v v' := by
 unfold entryV at hc
 split at hc
 case h_2 => cases hc
 rename_i id
 obtain ⟨b, hb, hblo, rfl⟩ := ptr_inv hx
 split at hc
 case h_2 => cases hc
 rename_i m since seen last hm
 split at hc
 case h_2 => cases hc
 rename_i es ck stamp hmm hlast
 split at hc
 case isFalse => cases hc
 rename_i hck
 subst hck
 split at hc
 case h_2 => cases hc
 rename_i en hen
 cases hc
 obtain ⟨e0, m', e1, e2⟩ := hr.more.iter _ _ _ _ _ _ hb hm
 obtain ⟨y, hy, rfl⟩ : ∃ y, β m = some y /\ m' = some y.g := by
  cases m' with
  | none => exact e2.elim
  | some g => obtain ⟨y, h1, h2⟩ := e2; exact ⟨y, h1, by rw [h2]⟩
 obtain ⟨es', f1, f2⟩ := hr.map _ _ _ _ hy hmm
 obtain ⟨eb, g1, g2⟩ := es_find f2 stamp hen
 have hb0 : b.at_ 0 = ⟨b.g, 0, none⟩ := by unfold Bx.at_; rw [e0]; simp
 have hback : (⟨seen⟩ : Array Nat).back? = some stamp := by rw [<-hlast]; simp [Array.back?, List.getLast?_eq_getElem?]
 have hfind : es'.find? (fun e => e.born == stamp) = some eb := by rw [<-g1]; simp
 refine ⟨.tuple #[eb.key, eb.val], ?_, ?_⟩
 ·rw [hb0]
  simp only [Instr.entry, Sem.run_bind, run_getIter e1, Result.andThen_ok, hback, run_getMap f1, hfind, bne_self_eq_false, Bool.false_eq_true, if_false]
  rfl
 ·refine .tuple rfl fun j u u' p q => ?_
  have hj : j < 2 := (Array.getElem?_eq_some_iff.1 p).1
  match j, hj with
  | 0, _ => cases p; cases q; rw [g2.key]; exact .of_free1 g2.fk
  | 1, _ => cases p; cases q; exact g2.val
theorem mkIface_sound {t : TypeId} {x' : Value} {u : TypeDesc} (hu : P.underlying t = some u) (hn : ∀ ms, u ≠ .interface ms) : (Instr.makeInterface t x').run P w = .ok (.iface t x') w := by
 unfold Instr.makeInterface
 simp only [Sem.run_bind, run_underlying hu, Result.andThen_ok, Sem.run_pure]
theorem assert_sound {x x' v : Value} {st t : TypeId} {ok : Bool} (hc : assertV P x t ok = some v) (hx : VR β x x') : ∃ v', (Instr.typeAssert x' st t ok).run P w = .ok v' w /\ VR β v v' := by
 unfold assertV at hc
 split at hc
 case h_1 => cases hc
 case h_3 => cases hc
 rename_i u t' y hnot hu
 cases hx with
 | free _ hf => cases hf
 | iface hy =>
  rename_i y'
  have pair : ∀ {a a' : Value} {q : Bool}, VR β a a' -> VR β (.tuple #[a, .bool q]) (.tuple #[a', .bool q]) := by
   intro a a' q hv
   refine .tuple rfl fun j u u' p q => ?_
   have hj : j < 2 := (Array.getElem?_eq_some_iff.1 p).1
   match j, hj with
   | 0, _ => cases p; cases q; exact hv
   | 1, _ => cases p; cases q; exact .free _ rfl
  split at hc
  ·rename_i ht
   cases hc
   refine ⟨if ok then .tuple #[y', .bool true] else y', ?_, ?_⟩
   ·unfold Instr.typeAssert
    simp only [Sem.run_bind, run_underlying hu, Result.andThen_ok]
    rw [if_pos ht]
    rfl
   ·cases ok
    ·exact hy
    ·exact pair hy
  ·rename_i ht
   split at hc
   case isFalse => cases hc
   rename_i hok
   split at hc
   case h_2 => cases hc
   rename_i z hz
   split at hc
   case isFalse => cases hc
   rename_i hzf
   cases hc
   subst hok
   refine ⟨.tuple #[z, .bool false], ?_, pair (.of_free1 hzf)⟩
   unfold Instr.typeAssert
   simp only [Sem.run_bind, run_underlying hu, Result.andThen_ok]
   rw [if_neg ht]
   simp only [if_true, Sem.run_bind, run_zeroV hz, Result.andThen_ok, Sem.run_pure]
end
end Go.AM
namespace Go.AM
section
variable {P : Program} {β : Ren} {h : AH} {w : World} {e : Tr Value} {a : Act}
theorem OkOp.val {s : Sem Value} {v v' : Value} {h' : AH} {w' : World} {β' : Ren} (hs : s.run P w = .ok v' w') (h1 : VR β' v v') (h2 : HR β' h' w') (h3 : Wf h') (h4 : Evo β h w β' h' w') :
  OkOp P β h w (do let u ← s; Pure.pure (Next.value u) : Sem Next) v h' :=
 ⟨v', w', β', .inl (by simp only [Sem.run_bind, hs, Result.andThen_ok, Sem.run_pure]), h1, h2, h3, h4⟩
theorem OkOp.same (hr : HR β h w) (hw : Wf h) {s : Sem Value} {v v' : Value} (hs : s.run P w = .ok v' w) (h1 : VR β v v') : OkOp P β h w (do let u ← s; Pure.pure (Next.value u) : Sem Next) v h :=
 .val hs h1 hr hw (.refl _ _ _)
theorem OkOp.unit {s : Sem Unit} {h' : AH} {w' : World} {β' : Ren} (hs : s.run P w = .ok () w') (h2 : HR β' h' w') (h3 : Wf h') (h4 : Evo β h w β' h' w') :
  OkOp P β h w (do s; Pure.pure Next.skip : Sem Next) undef h' :=
 ⟨undef, w', β', .inr ⟨by simp only [Sem.run_bind, hs, Result.andThen_ok, Sem.run_pure], rfl⟩, .of_free rfl, h2, h3, h4⟩
theorem map_inv' {α γ : Type} {o : Option α} {f : α -> γ} {y : γ} (hq : o.map f = some y) : ∃ x, o = some x /\ f x = y := by
 cases o with
 | none => cases hq
 | some x => exact ⟨x, rfl, by simpa using hq⟩
theorem arr_pairs (parts : Array (Nat × Operand)) (f : Operand -> Value) : (parts.map fun (i, x) => (i, f x)) = ⟨parts.toList.map fun q => (q.1, f q.2)⟩ := by
 apply Array.ext'
 simp
theorem ovr_free {o o' : Option Value} (ho : OVR β o o') (hf : o.all free1 = true) : o' = o := by
 cases o <;> cases o'
 ·rfl
 ·exact ho.elim
 ·exact ho.elim
 ·rw [VR.free1_eq (β := β) ho (by simpa using hf)]
set_option maxHeartbeats 1000000 in
theorem aop_sound (hr : HR β h w) (hw : Wf h) (he : EnvW β e a.tmps) (o : Oper) {v : Value} {h' : AH} (ha : aop P e h o.op = some (v, h')) : OkOp P β h w (execOp a.eval o) v h' := by
 obtain ⟨dst, op, ty, pos, after, guard⟩ := o
 simp only at ha
 cases op <;> simp only [aop] at ha <;> simp only [execOp]
 case move x =>
  obtain ⟨u, h1, h2⟩ := map_inv' ha
  cases h2
  exact .pure hr hw (by simp) (ev_sound he h1)
 case assign x =>
  obtain ⟨u, h1, h2⟩ := map_inv' ha
  cases h2
  exact .pure hr hw (by simp) (ev_sound he h1)
 case pick c x y =>
  split at ha
  case h_2 => cases ha
  rename_i q hq
  obtain ⟨u, h1, h2⟩ := map_inv' ha
  cases h2
  have hc : a.eval c = .bool q := (ev_sound he hq).free0_eq rfl
  refine .pure hr hw ?_ (ev_sound he h1)
  rw [hc]
  cases q <;> simp [asBool]
 case alloc t =>
  cases hz : (P.info? t).bind (·.zero) with
  | none => rw [hz] at ha; cases ha
  | some z =>
   rw [hz] at ha
   simp only at ha
   split at ha
   case isFalse => cases ha
   rename_i hf
   cases ha
   refine box_sound (t := t) (v' := z) hr hw (.of_free1 hf) ?_
   simp only [Instr.alloc, Sem.run_bind, run_zeroV hz, Result.andThen_ok, newVar]
   rfl
 case box t x =>
  obtain ⟨u, h1, h2⟩ := map_inv' ha
  have h3 : v = (newRow h u.cells.toList).1 /\ h' = (newRow h u.cells.toList).2 := by rw [h2]; exact ⟨rfl, rfl⟩
  obtain ⟨rfl, rfl⟩ := h3
  refine box_sound (t := t) hr hw (ev_sound he h1) ?_
  simp only [Instr.box, Sem.run_bind, newVar]
  rfl
 case build t parts =>
  split at ha
  case h_2 => cases ha
  rename_i ps z hps hz
  split at ha
  case isFalse => cases ha
  rename_i hf
  obtain ⟨u, h1, h2⟩ := map_inv' ha
  cases h2
  obtain ⟨ps', q1, q2, q3⟩ := evP_sound he hps
  obtain ⟨v', k1, k2⟩ := build_sound (w := w) hz hf h1 q2 q3
  rw [arr_pairs, q1]
  exact .same hr hw k1 k2
 case buildSlice t len parts =>
  split at ha
  case h_2 => cases ha
  rename_i ps el hps hu
  split at ha
  case h_2 => cases ha
  rename_i sz z hsz hz
  split at ha
  case isFalse => cases ha
  rename_i hc
  split at ha
  case h_2 => cases ha
  rename_i cs hfl
  cases ha
  obtain ⟨ps', q1, q2, q3⟩ := evP_sound he hps
  obtain ⟨v', w', β', k1, k2, k3, k4, k5⟩ := buildSlice_sound hr hw hu hsz hz hc.1 hc.2.1 hc.2.2.1 hc.2.2.2 hfl q2 q3
  rw [arr_pairs, q1]
  exact .val k1 k2 k3 k4 k5
 case load t x =>
  split at ha
  case h_2 => cases ha
  rename_i p hp
  obtain ⟨u, h1, h2⟩ := map_inv' ha
  cases h2
  obtain ⟨v', a', k1, k2, k3⟩ := loadV_sound hr hw h1 (ev_sound he hp)
  refine .same hr hw ?_ k3
  simp only [Instr.loadAt, k1, Instr.sureAddr, Sem.run_bind, Sem.run_pure, Result.andThen_ok, k2]
 case store t x y =>
  split at ha
  case h_2 => cases ha
  rename_i p u hp hu
  obtain ⟨h1, h2, h3⟩ := map_inv' ha
  cases h3
  obtain ⟨a', w', k1, k2, k3, k4, k5⟩ := storeV_sound hr hw h2 (ev_sound he hp) (ev_sound he hu)
  refine .unit (w' := w') ?_ k3 k4 k5
  simp only [Instr.storeAt, k1, Instr.sureAddr, Sem.run_bind, Sem.run_pure, Result.andThen_ok, k2]
 case nilCheck x =>
  split at ha
  case h_2 => cases ha
  rename_i ad hp
  cases ha
  have hv := ev_sound he hp
  obtain ⟨ad', q1, q2⟩ := ptr_shape hv
  rw [q1]
  cases ad' with
  | none => cases q2
  | some x' => rw [q1] at hv; exact .pure hr hw rfl hv
 case binOp op t x y yt =>
  split at ha
  case h_2 => cases ha
  rename_i u1 u2 h1 h2
  obtain ⟨r, h3, h4⟩ := map_inv' ha
  cases h4
  obtain ⟨k1, k2⟩ := binV_sound (w := w) h3 (ev_sound he h1) (ev_sound he h2)
  exact .same hr hw k1 (.of_free k2)
 case unOp op t x =>
  split at ha
  case h_2 => cases ha
  rename_i u hu
  split at ha
  case isFalse => cases ha
  rename_i hf
  obtain ⟨r, h3, h4⟩ := map_inv' ha
  cases h4
  obtain ⟨k1, k2⟩ := keep_some h3
  rw [(ev_sound he hu).free1_eq hf]
  exact .same hr hw (quick_run k1 w) (.of_free k2)
 case convert s d x =>
  split at ha
  case h_2 => cases ha
  rename_i u hu
  obtain ⟨v', w', β', k1, k2, k3, k4, k5⟩ := conv_sound hr hw ha (ev_sound he hu)
  exact .val k1 k2 k3 k4 k5
 case sliceToArrayPointer t x =>
  split at ha
  case h_2 => cases ha
  rename_i id off len cap n el hu ht
  split at ha
  case isFalse => cases ha
  rename_i hc
  cases ha
  obtain ⟨b, a', cap', hb, hblo, hcr, hq, hx⟩ := slice_inv (ev_sound he hu)
  have := hcr.le
  rw [hx, hq.resolve_left ow]
  refine .same hr hw (v' := .pointer (some (b.at_ off))) ?_ (.ptr hb hblo)
  simp only [Instr.arrayAt, Sem.run_bind, run_underlying ht, Result.andThen_ok, Sem.run_pure, if_neg (show ¬ len < n by omega)]
 case makeInterface t x =>
  split at ha
  ·cases ha
  ·rename_i u d hn h1 h2
   cases ha
   exact .same hr hw (mkIface_sound h2 fun ms q => hn ms q) (.iface (ev_sound he h1))
  ·cases ha
 case typeAssert x st t ok =>
  split at ha
  case h_2 => cases ha
  rename_i u hu
  obtain ⟨r, h3, h4⟩ := map_inv' ha
  cases h4
  obtain ⟨v', k1, k2⟩ := assert_sound (w := w) (st := st) h3 (ev_sound he hu)
  exact .same hr hw k1 k2
 case range t x =>
  split at ha
  case h_2 => cases ha
  rename_i u hu
  obtain ⟨v', w', β', k1, k2, k3, k4, k5⟩ := rangeM_sound hr hw ha (ev_sound he hu)
  exact .val k1 k2 k3 k4 k5
 case next x str =>
  cases str with
  | true => cases ha
  | false =>
   simp only at ha
   split at ha
   case h_2 => cases ha
   rename_i u hu
   split at ha
   case h_2 => cases ha
   rename_i r hl
   cases ha
   obtain ⟨r', hr', v', w', k1, k2, k3, k4, k5⟩ := next_sound (t := ty) hr hw hl (ev_sound he hu)
   rw [List.mem_singleton] at hr'
   subst hr'
   exact .val k1 k2 k3 k4 k5
 case entry x =>
  split at ha
  case h_2 => cases ha
  rename_i u hu
  obtain ⟨r, h3, h4⟩ := map_inv' ha
  cases h4
  obtain ⟨v', k1, k2⟩ := entry_sound (w := w) hr h3 (ev_sound he hu)
  exact .same hr hw k1 k2
 case makeFunc fn first cap =>
  cases fn <;> simp only at ha <;> try cases ha
  rename_i f
  split at ha
  case h_2 => cases ha
  rename_i x y h1 h2
  cases ha
  have k1 := evs_sound he h1
  have k2 := evs_sound he h2
  refine .same hr hw (v' := .func (.func f) (first.map a.eval) (cap.map a.eval)) (by simp only [Instr.makeFunc, Sem.run_pure]) (.func ?_ ?_ ?_ ?_)
  ·simpa using k1.1
  ·intro i u u' p q
   exact k1.2 i u u' (by simpa using p) (by simpa using q)
  ·simpa using k2.1
  ·intro i u u' p q
   exact k2.2 i u u' (by simpa using p) (by simpa using q)
 case makeMap t r =>
  cases r with
  | some _ => cases ha
  | none =>
   simp only [Option.some.injEq, Prod.mk.injEq] at ha
   obtain ⟨rfl, rfl⟩ := ha
   obtain ⟨k1, k2, k3⟩ := makeMap_sound hr hw
   refine .val (v' := .map (some w.heap.size)) ?_ ?_ k1 k2 k3
   ·simp only [Instr.makeMap]; rfl
   ·exact .map (upd_same _ _ _)
 case makeSlice t l c =>
  split at ha
  case h_2 => cases ha
  rename_i n m el hl hc hu
  cases hi : P.info? el with
  | none => rw [hi] at ha; cases ha
  | some i =>
  rw [hi] at ha
  simp only at ha
  cases hz : i.zero with
  | none => rw [hz] at ha; cases ha
  | some z =>
  rw [hz] at ha
  simp only at ha
  split at ha
  case isFalse => cases ha
  rename_i hq
  cases ha
  obtain ⟨c1, c2, c3, c4, c5, c6, c7, c8⟩ := hq
  obtain ⟨v', w', β', k1, k2, k3, k4, k5⟩ := makeSlice_sound hr hw hu hi hz c1 c2 c3 c4 c5 c6 c7 c8
  rw [(ev_sound he hl).free0_eq rfl, (ev_sound he hc).free0_eq rfl]
  exact .val k1 k2 k3 k4 k5
 case slice t x lo hi mx =>
  split at ha
  ·rename_i s l hh m h1 h2 h3 h4
   split at ha
   case isFalse => cases ha
   rename_i hf
   simp only [Bool.and_eq_true] at hf
   obtain ⟨r, h5, h6⟩ := map_inv' ha
   cases h6
   obtain ⟨k1, k2⟩ := keep_some h5
   rw [(ev_sound he h1).free0_eq rfl, ovr_free (evO_sound he h2) hf.1.1, ovr_free (evO_sound he h3) hf.1.2, ovr_free (evO_sound he h4) hf.2]
   exact .same hr hw (quick_run k1 w) (.of_free k2)
  ·rename_i u l hh m _ h1 h2 h3 h4
   obtain ⟨r, h5, h6⟩ := map_inv' ha
   cases h6
   obtain ⟨v', k1, k2⟩ := slice_sound hr hw h5 (ev_sound he h1) (evO_sound he h2) (evO_sound he h3) (evO_sound he h4)
   exact .same hr hw k1 k2
  ·cases ha
 case fieldAddr t x i =>
  split at ha
  case h_2 => cases ha
  rename_i u hu
  obtain ⟨r, h5, h6⟩ := map_inv' ha
  cases h6
  obtain ⟨v', k1, k2⟩ := fieldAddr_sound (w := w) h5 (ev_sound he hu)
  exact .same hr hw k1 k2
 case field t x i =>
  split at ha
  case h_2 => cases ha
  rename_i u hu
  obtain ⟨r, h5, h6⟩ := map_inv' ha
  cases h6
  obtain ⟨v', k1, k2⟩ := field_sound (w := w) h5 (ev_sound he hu)
  exact .same hr hw k1 k2
 case indexAddr t x i =>
  split at ha
  case h_2 => cases ha
  rename_i u n h1 h2
  obtain ⟨r, h5, h6⟩ := map_inv' ha
  cases h6
  obtain ⟨v', k1, k2⟩ := indexAddr_sound (w := w) h5 (ev_sound he h1) (ev_sound he h2)
  exact .same hr hw k1 k2
 case index t x i =>
  split at ha
  case h_2 => cases ha
  rename_i u n h1 h2
  split at ha
  case isFalse => cases ha
  rename_i hf
  simp only [Bool.and_eq_true] at hf
  obtain ⟨r, h5, h6⟩ := map_inv' ha
  cases h6
  obtain ⟨k1, k2⟩ := keep_some h5
  rw [(ev_sound he h1).free1_eq hf.1, (ev_sound he h2).free1_eq hf.2]
  exact .same hr hw (quick_run k1 w) (.of_free k2)
 case lookup t m k ok =>
  split at ha
  case h_2 => cases ha
  rename_i u n h1 h2
  obtain ⟨r, h5, h6⟩ := map_inv' ha
  cases h6
  obtain ⟨v', k1, k2⟩ := lookup_sound hr h5 (ev_sound he h1) (ev_sound he h2)
  exact .same hr hw k1 k2
 case mapUpdate t m k x =>
  split at ha
  case h_2 => cases ha
  rename_i u n y h1 h2 h3
  obtain ⟨r, h5, h6⟩ := map_inv' ha
  cases h6
  obtain ⟨w', k1, k2, k3, k4⟩ := mapUpdate_sound hr hw h5 (ev_sound he h1) (ev_sound he h2) (ev_sound he h3)
  exact .unit k1 k2 k3 k4
 case insert t m k x =>
  split at ha
  case h_2 => cases ha
  rename_i u n y h1 h2 h3
  obtain ⟨r, h5, h6⟩ := map_inv' ha
  cases h6
  obtain ⟨w', k1, k2, k3, k4⟩ := mapUpdate_sound hr hw h5 (ev_sound he h1) (ev_sound he h2) (ev_sound he h3)
  exact .unit k1 k2 k3 k4
 case extract t i =>
  split at ha
  case h_2 => cases ha
  rename_i u hu
  obtain ⟨r, h5, h6⟩ := map_inv' ha
  cases h6
  obtain ⟨v', k1, k2⟩ := extract_sound (w := w) h5 (ev_sound he hu)
  exact .same hr hw k1 k2
 all_goals cases ha
end
end Go.AM
