/- How the code is read: plain states and the machine. Texts joined, in their order. -/
import Derived.Tactics
import Derived.RowKit
import Derived.KernelRfl
import Derived.Orders
import Derived.Below
import Derived.Laws.MakeOwn
import Derived.Laws.OwnMore
import Derived.Maps.AppendAt
import Derived.OwnWalk
import Derived.Deep.Draws
import Derived.Laws.StructEq
import Derived.Laws.Entries
import Derived.Laws.Slices
/- A pure reading of the program's code: slots and own memory as plain values (types, values, states, what an operation does). No walk here. -/
namespace Go.Proofs.Ytlpooghphoohcaa.R
set_option linter.unusedVariables false

inductive Ty where
  | int (k : IntKind)
  | bool
  | str
  | flt (k : FloatKind)
  | sl (t : Ty)
  | pair (a b : Ty)
  deriving DecidableEq

def Ty.El : Ty → Type
  | .int _ => Int
  | .bool => Bool
  | .str => ByteArray
  | .flt _ => Nat
  | .sl t => List t.El
  | .pair a b => a.El × b.El

def Ty.sz : Ty → Nat
  | .pair a b => a.sz + b.sz
  | _ => 1

def Ty.dft : (t : Ty) → t.El
  | .int _ => (0 : Int)
  | .bool => false
  | .str => ByteArray.empty
  | .flt _ => (0 : Nat)
  | .sl _ => []
  | .pair a b => (a.dft, b.dft)

def Ty.hasSl : Ty → Bool
  | .sl _ => true
  | .pair a b => a.hasSl || b.hasSl
  | _ => false

/-- What a slot or an object holds. -/
inductive PV where
  | val (t : Ty) (x : t.El)
  | tst (c : Prop) (d : Decidable c)
  | nil
  | row (e : TypeId) (t : Ty) (xs : List t.El)
  | box (cs : List PV)
  | pt (cs : List PV)
  | agg (cs : List PV)
  | tup (cs : List PV)
  | ref (N : Nat)
  | win (N z lo n : Nat)
  | cp (N i z j : Nat)
  | clo (f : FuncId) (cs : List PV)
  /-- A row of rows of our own. -/
  | mat (e e' : TypeId) (t : Ty) (xs : List (List t.El))
  /-- The same, where the i-th row is an object by itself. -/
  | hol (e e' : TypeId) (t : Ty) (xs : List (List t.El)) (i M : Nat)
  | dead

/-- The cells of an element. -/
def cellsOf : (t : Ty) → t.El → List PV
  | .pair a b, x => cellsOf a x.1 ++ cellsOf b x.2
  | .int k, x => [.val (.int k) x]
  | .bool, x => [.val .bool x]
  | .str, x => [.val .str x]
  | .flt k, x => [.val (.flt k) x]
  | .sl t, x => [.val (.sl t) x]

/-- One cell as a value of a type. -/
def ofPV (t : Ty) : PV → Option t.El
  | .val t' x => if h : t' = t then some (h ▸ x) else none
  | .tst c d => if h : Ty.bool = t then some (h ▸ (@decide c d : Ty.bool.El)) else none
  | .nil => match t with
    | .sl _ => some []
    | _ => none
  | _ => none

/-- The first cells as an element, and the rest. -/
def ofCells : (t : Ty) → List PV → Option (t.El × List PV)
  | .pair a b, cs => match ofCells a cs with
    | some (x, cs') => match ofCells b cs' with
      | some (y, cs'') => some ((x, y), cs'')
      | none => none
    | none => none
  | .int k, c :: cs => match ofPV (.int k) c with | some x => some (x, cs) | none => none
  | .bool, c :: cs => match ofPV .bool c with | some x => some (x, cs) | none => none
  | .str, c :: cs => match ofPV .str c with | some x => some (x, cs) | none => none
  | .flt k, c :: cs => match ofPV (.flt k) c with | some x => some (x, cs) | none => none
  | .sl t, c :: cs => match ofPV (.sl t) c with | some x => some (x, cs) | none => none
  | _, [] => none

structure St where
  sl : List PV
  ob : List (Nat × PV)
  nx : Nat

def look : List (Nat × PV) → Nat → PV
  | [], _ => .dead
  | (M, p) :: r, N => if M = N then p else look r N

def St.get (σ : St) (t : Nat) : PV := σ.sl.getD t .dead

def ofConst1 : Value → PV
  | .int k n => .val (.int k) n
  | .bool b => .val .bool b
  | .string s => .val .str s
  | .float k b => .val (.flt k) b
  | .slice none 0 0 => .nil
  | _ => .dead

def ofConst : Value → PV
  | .agg cs => .agg (cs.toList.map ofConst1)
  | .tuple cs => .tup (cs.toList.map ofConst1)
  | v => ofConst1 v

def St.eval (σ : St) : Operand → PV
  | .tmp t => σ.get t
  | .const v => ofConst v
  | .func f => .clo f []
  | .global _ => .dead

/-- What is told anew behind an operation. -/
inductive Upd where
  | sl (t : Nat) (p : PV)
  | ob (N : Nat) (p : PV)

def St.upd (σ : St) : Upd → St
  | .sl t p => { σ with sl := σ.sl.set t p }
  | .ob N p => { σ with ob := (N, p) :: σ.ob }

def St.apply (σ : St) (us : List Upd) : St := us.foldl St.upd σ

def put (o : Oper) (p : PV) : List Upd :=
  match o.dst with
  | some d => [.sl d p]
  | none => []

/-- The cells of a value. -/
def PV.cells : PV → List PV
  | .agg cs => cs
  | p => [p]

/-- Told, and no more than a cell. -/
def PV.one : PV → Bool
  | .agg _ => false
  | .tup _ => false
  | .mat _ _ _ _ => false
  | .hol _ _ _ _ _ _ => false
  | .row _ _ _ => false
  | .box _ => false
  | .dead => false
  | _ => true

/-! names -/
def PV.nm1 : PV → List Nat
  | .ref N => [N]
  | .win N _ _ _ => [N]
  | .cp N _ _ _ => [N]
  | _ => []
def nmL (cs : List PV) : List Nat := cs.flatMap PV.nm1
def PV.nm2 : PV → List Nat
  | .agg cs => nmL cs
  | .clo _ cs => nmL cs
  | .box cs => nmL cs
  | .pt cs => nmL cs
  | .hol _ _ _ _ _ M => [M]
  | p => p.nm1
def PV.nms : PV → List Nat
  | .tup cs => cs.flatMap PV.nm2
  | p => p.nm2
def closure (h : Nat → PV) (ps : List PV) : List Nat :=
  let a := ps.flatMap PV.nms
  a ++ a.flatMap fun N => (h N).nms

/-! reading -/
def rd1 (h : Nat → PV) : PV → PV
  | .ref N => match h N with
    | .row _ t xs => .val (.sl t) xs
    | .val t x => .val t x
    | .pt cs => .pt cs
    | .mat _ _ t xs => .val (.sl (.sl t)) xs
    | _ => .dead
  | .win N s lo n => match h N with
    | .row _ t xs => if s = t.sz then .val (.sl t) ((xs.drop lo).take n) else .dead
    | .val (.sl t) xs => if s = t.sz then .val (.sl t) ((xs.drop lo).take n) else .dead
    | _ => .dead
  | .tst c d => .val .bool (@decide c d)
  | .val t x => .val t x
  | .nil => .nil
  | .pt cs => .pt cs
  | _ => .dead
/-- The cells from a place on. -/
def atP (h : Nat → PV) : PV → List PV
  | .pt cs => cs
  | .ref N => match h N with
    | .box cs => cs
    | .pt cs => cs
    | _ => []
  | .cp N i s j => match h N with
    | .box cs => if i * s = 0 then cs.drop j else []
    | .pt cs => if i * s = 0 then cs.drop j else []
    | .row _ t xs => if s = t.sz then (cellsOf t (xs.getD i t.dft)).drop j else []
    | .val (.sl t) xs => if s = t.sz then (cellsOf t (xs.getD i t.dft)).drop j else []
    | _ => []
  | _ => []
def rdb (h : Nat → PV) : PV → PV
  | .ref N => match h N with
    | .box cs => .pt (cs.map (rd1 h))
    | _ => rd1 h (.ref N)
  | p => rd1 h p
def rd (h : Nat → PV) : PV → PV
  | .ref N => match h N with
    | .box cs => .pt (cs.map (rd1 h))
    | _ => rd1 h (.ref N)
  | .cp N i z j => .pt ((atP h (.cp N i z j)).map (rd1 h))
  | .agg cs => .agg (cs.map (rd1 h))
  | .clo f cs => .clo f (cs.map (rdb h))
  | p => rd1 h p

/-- What an object is once it is no longer written. -/
def frzV : PV → Option PV
  | .row _ t xs => some (.val (.sl t) xs)
  | .box _ => some .dead
  | .mat _ _ t xs => some (.val (.sl (.sl t)) xs)
  | .hol _ _ _ _ _ _ => some .dead
  | _ => none
/-- What is no longer written. -/
def frz (h : Nat → PV) (N : Nat) : List Upd :=
  match frzV (h N) with
  | some q => [.ob N q]
  | none => []

def frzB (h : Nat → PV) (L : List Nat) (cs : List PV) : PV := if (nmL cs).all (fun M => L.contains M) = true then .pt (cs.map (rd1 h)) else .dead
/-- What a callee may share with its results: no longer written, and read on. -/
def frzCV (h : Nat → PV) (L : List Nat) : PV → Option PV
  | .row _ t xs => some (.val (.sl t) xs)
  | .box cs => some (frzB h L cs)
  | .mat _ _ t xs => some (.val (.sl (.sl t)) xs)
  | .hol _ _ _ _ _ _ => some .dead
  | _ => none
def frzC (h : Nat → PV) (L : List Nat) (N : Nat) : List Upd :=
  match frzCV h L (h N) with
  | some q => [.ob N q]
  | none => []

def PV.sh1 : PV → Bool
  | .val t _ => t.hasSl
  | .row _ t _ => t.hasSl
  | .pt _ => true
  | .box _ => true
  | .clo _ _ => true
  | .agg _ => true
  | .tup _ => true
  | _ => false
def PV.sh2 : PV → Bool
  | .agg cs => cs.any PV.sh1
  | .box cs => cs.any PV.sh1
  | p => p.sh1
def PV.sh : PV → Bool
  | .tup cs => cs.any PV.sh2
  | p => p.sh2

def splice (cs : List PV) (j : Nat) (ds : List PV) : List PV := cs.take j ++ ds ++ cs.drop (j + ds.length)

/-! types -/
def pairs : List (Option Ty) → Option Ty
  | [] => none
  | [a] => a
  | some a :: r => match pairs r with
    | some b => some (.pair a b)
    | none => none
  | none :: _ => none
def tyOf (P : Program) : Nat → TypeId → Option Ty
  | 0, _ => none
  | n + 1, t => match P.underlying t with
    | some (.int k) => some (.int k)
    | some .bool => some .bool
    | some .string => some .str
    | some (.float k) => some (.flt k)
    | some (.slice e) => match tyOf P n e with
      | some a => some (.sl a)
      | none => none
    | some (.struct fs) => pairs (fs.toList.map fun f => tyOf P n f.type)
    | _ => none
def isSt (P : Program) (t : TypeId) : Bool :=
  match P.underlying t with
  | some (.struct _) => true
  | _ => false
/-- A type of one cell. -/
def isPl (P : Program) (t : TypeId) : Bool :=
  match P.underlying t with
  | some (.struct _) => false
  | some (.array _ _) => false
  | some _ => true
  | none => false
def szOf (P : Program) (t : TypeId) : Nat := match P.info? t with
  | some i => i.size
  | none => 0
def byOf (P : Program) (t : TypeId) : Nat := match P.info? t with
  | some i => i.bytes
  | none => 0
def zeroOf (P : Program) (t : TypeId) : Option Value := match P.info? t with
  | some i => i.zero
  | none => none
/-- The zero value of a type, by cells. -/
def zeroOk : Ty → List Value → Bool
  | .int k, [.int k' 0] => k == k'
  | .bool, [.bool false] => true
  | .str, [.string s] => s.size == 0
  | .flt k, [.float k' 0] => k == k'
  | .sl _, [.slice none 0 0] => true
  | .pair a b, vs => zeroOk a (vs.take a.sz) && zeroOk b (vs.drop a.sz)
  | _, _ => false
def elOf (P : Program) (t : TypeId) : Option (TypeId × Ty) := match P.underlying t with
  | some (.slice e) => match tyOf P 5 e, zeroOf P e with
    | some a, some v => if a.sz = szOf P e ∧ zeroOk a v.cells.toList = true ∧ 0 < byOf P e then some (e, a) else none
    | _, _ => none
  | _ => none
def fldOf (P : Program) (s : TypeId) (f : Nat) : Option (Nat × TypeId) := match P.underlying s with
  | some (.struct fs) => match fs[f]? with
    | some d => some (d.offset, d.type)
    | none => none
  | _ => none
def celTys (P : Program) : Nat → TypeId → List TypeId
  | 0, t => [t]
  | n + 1, t => match P.underlying t with
    | some (.struct fs) => fs.toList.flatMap fun f => celTys P n f.type
    | _ => [t]
def isTup : Value → Bool
  | .tuple _ => true
  | _ => false

/-- The number itself if it is small. The test is one at which the kernel stops as long as the number is open. -/
def small (b : Nat) (n w : Int) : Int := match n with
  | .ofNat m => bif Nat.ble m b then .ofNat m else w
  | .negSucc m => bif Nat.ble m b then .negSucc m else w
def smallU (b : Nat) (n w : Int) : Int := match n with
  | .ofNat m => bif Nat.ble m b then .ofNat m else w
  | .negSucc _ => w
theorem small_eq {b : Nat} {n w : Int} (h : -(b : Int) - 1 ≤ n → n ≤ b → w = n) : small b n w = w := by
  cases n with
  | ofNat m =>
    show (bif Nat.ble m b then Int.ofNat m else w) = w
    cases e : Nat.ble m b with
    | true =>
      have := Nat.le_of_ble_eq_true e
      exact (h (by simp only [Int.ofNat_eq_natCast]; omega) (by simp only [Int.ofNat_eq_natCast]; omega)).symm
    | false => rfl
  | negSucc m =>
    show (bif Nat.ble m b then Int.negSucc m else w) = w
    cases e : Nat.ble m b with
    | true =>
      have := Nat.le_of_ble_eq_true e
      exact (h (by omega) (by omega)).symm
    | false => rfl
theorem smallU_eq {b : Nat} {n w : Int} (h : 0 ≤ n → n ≤ b → w = n) : smallU b n w = w := by
  cases n with
  | ofNat m =>
    show (bif Nat.ble m b then Int.ofNat m else w) = w
    cases e : Nat.ble m b with
    | true =>
      have := Nat.le_of_ble_eq_true e
      exact (h (by simp only [Int.ofNat_eq_natCast]; omega) (by simp only [Int.ofNat_eq_natCast]; omega)).symm
    | false => rfl
  | negSucc m => rfl
/-- A whole number within its kind, by a rule that is quick to reckon. -/
def wr : IntKind → Int → Int
  | .i64, n => small 9223372036854775807 n ((n + 9223372036854775808) % 18446744073709551616 - 9223372036854775808)
  | .u64, n => smallU 18446744073709551615 n (n % 18446744073709551616)
  | .u8, n => smallU 255 n (n % 256)
  | .i32, n => small 2147483647 n ((n + 2147483648) % 4294967296 - 2147483648)
  | k, n => k.wrap n
theorem wr64 (n : Int) : wr .i64 n = (n + 9223372036854775808) % 18446744073709551616 - 9223372036854775808 := small_eq fun h1 h2 => by omega
theorem wr32 (n : Int) : wr .i32 n = (n + 2147483648) % 4294967296 - 2147483648 := small_eq fun h1 h2 => by omega
theorem wru64 (n : Int) : wr .u64 n = n % 18446744073709551616 := smallU_eq fun h1 h2 => by omega
theorem wru8 (n : Int) : wr .u8 n = n % 256 := smallU_eq fun h1 h2 => by omega
theorem wr_eq (k : IntKind) (n : Int) : wr k n = k.wrap n := by
  cases k <;> simp only [wr32, wr64, wru64, wru8, IntKind.wrap, IntKind.signed, IntKind.bits, Bool.true_and, Bool.false_and]
  all_goals first
    | rfl
    | (simp only [show (2 : Int) ^ 32 = 4294967296 by decide, show (2 : Int) ^ (32 - 1) = 2147483648 by decide]
       split <;> rename_i h <;> simp only [decide_eq_true_eq] at h <;> omega)
    | (simp only [show (2 : Int) ^ 64 = 18446744073709551616 by decide, show (2 : Int) ^ (64 - 1) = 9223372036854775808 by decide]
       split <;> rename_i h <;> simp only [decide_eq_true_eq] at h <;> omega)
    | (simp only [wr, IntKind.wrap, IntKind.signed, IntKind.bits, Bool.true_and, Bool.false_and]; done)
abbrev Hd (A : Type) := FuncId → List PV → (List PV → PV → A) → A

section
variable {A : Type}

def binI (z : A) (op : BinOp) (lit : Bool) (i : IntKind) (a b : Int) (k : PV → A) : A :=
  match op with
  | .add => k (.val (.int i) (wr i (a + b)))
  | .sub => k (.val (.int i) (wr i (a - b)))
  | .mul => k (.val (.int i) (wr i (a * b)))
  | .quo => if lit then k (.val (.int i) (wr i (a.tdiv b))) else if b ≠ 0 then k (.val (.int i) (wr i (a.tdiv b))) else z
  | .rem => if lit then k (.val (.int i) (a.tmod b)) else if b ≠ 0 then k (.val (.int i) (a.tmod b)) else z
  | .eql => k (.tst (a = b) inferInstance)
  | .neq => k (.tst (a ≠ b) inferInstance)
  | .lss => k (.tst (a < b) inferInstance)
  | .leq => k (.tst (a ≤ b) inferInstance)
  | .gtr => k (.tst (b < a) inferInstance)
  | .geq => k (.tst (b ≤ a) inferInstance)
  | .and => k (.val (.int i) (wr i (BitVec.ofInt i.bits a &&& BitVec.ofInt i.bits b).toNat))
  | _ => z
/-- Shifts by a number of at least 0. -/
def shI (z : A) (op : BinOp) (i : IntKind) (a b : Int) (k : PV → A) : A :=
  match op with
  | .shl => if 0 ≤ b then k (.val (.int i) (wr i (a * 2 ^ min b.toNat i.bits))) else z
  | .shr => if 0 ≤ b then k (.val (.int i) (a.fdiv (2 ^ min b.toNat i.bits))) else z
  | _ => z
def optF (z : A) (i : FloatKind) (r : Option Nat) (k : PV → A) : A :=
  match r with
  | some n => k (.val (.flt i) n)
  | none => z
def binF (z : A) (op : BinOp) (i : FloatKind) (a b : Nat) (k : PV → A) : A :=
  match op with
  | .add => optF z i (i.format.add a b) k
  | .sub => optF z i (i.format.sub a b) k
  | .mul => optF z i (i.format.mul a b) k
  | .lss => k (.val .bool (i.format.order a b == some .lt))
  | .gtr => k (.val .bool (i.format.order a b == some .gt))
  | _ => z
def isB (P : Program) (t : TypeId) : Bool :=
  match P.underlying t with
  | some .bool => true
  | _ => false
def binB (z : A) (bo : Bool) (op : BinOp) (a b : Bool) (k : PV → A) : A :=
  if bo then match op with
  | .eql => k (.tst (a = b) inferInstance)
  | .neq => k (.tst (a ≠ b) inferInstance)
  | _ => z
  else z
/-- Two lists of cells that hold whole numbers of the same kinds. -/
def eqCs : List PV → List PV → Option (List Int × List Int)
  | [], [] => some ([], [])
  | .val (.int i) a :: xs, .val (.int j) b :: ys => if i = j then (match eqCs xs ys with
    | some (as, bs) => some (a :: as, b :: bs)
    | none => none) else none
  | _, _ => none
def flatFs (P : Program) : List Field → Nat → Bool
  | [], _ => true
  | f :: fs, i => !(f.name == "_") && f.offset == i && (match P.underlying f.type with
    | some (.int _) => true
    | _ => false) && flatFs P fs (i + 1)
/-- A struct of so many whole numbers. -/
def flatSt (P : Program) (t : TypeId) (n : Nat) : Bool :=
  match P.underlying t with
  | some (.struct fs) => fs.size == n && !P.stoodInHeld t && !P.eqGuardType P.depth t && flatFs P fs.toList 0
  | _ => false
def binS (P : Program) (z : A) (ty : TypeId) (op : BinOp) (xs ys : List PV) (k : PV → A) : A :=
  match eqCs xs ys, flatSt P ty xs.length with
  | some (as, bs), true => match op with
    | .eql => k (.tst (as = bs) inferInstance)
    | .neq => k (.tst (as ≠ bs) inferInstance)
    | _ => z
  | _, _ => z
def bin (P : Program) (z : A) (ty : TypeId) (op : BinOp) (lit : Bool) (x y : PV) (k : PV → A) : A :=
  match x, y with
  | .val (.int i) a, .val (.int j) b =>
    match op with
    | .shl => shI z .shl i a b k
    | .shr => shI z .shr i a b k
    | op => if i = j then binI z op lit i a b k else z
  | .val (.flt i) a, .val (.flt j) b => if i = j then binF z op i a b k else z
  | .val .bool a, .val .bool b => binB z (isB P ty) op a b k
  | .tst c d, .val .bool b => binB z (isB P ty) op (@decide c d) b k
  | .val .bool b, .tst c d => binB z (isB P ty) op b (@decide c d) k
  | .tst c d, .tst c' d' => binB z (isB P ty) op (@decide c d) (@decide c' d') k
  | .agg xs, .agg ys => binS P z ty op xs ys k
  | _, _ => z
def negI (i : IntKind) (a : Int) (k : PV → A) : A := k (.val (.int i) (wr i (0 - a)))
def una (z : A) (op : UnOp) (x : PV) (k : PV → A) : A :=
  match op, x with
  | .neg, .val (.int i) a => negI i a k
  | .not, .tst c d => k (.tst (¬ c) inferInstance)
  | .not, .val .bool b => k (.val .bool (!b))
  | _, _ => z
def cnv (P : Program) (z : A) (dst : TypeId) (x : PV) (k : PV → A) : A :=
  match P.underlying dst, x with
  | some (.int i), .val (.int _) a => k (.val (.int i) (wr i a))
  | some (.float i), .val (.int _) a => k (.val (.flt i) (i.nearest a))
  | _, _ => z
/-- By a bool. -/
def iteP (z : A) (x : PV) (a b : A) : A :=
  match x with
  | .tst c d => @ite A c d a b
  | .val .bool v => match v with
    | true => a
    | false => b
  | _ => z
/-- An index within a length. -/
def inI (z : A) (i : Int) (n : Nat) (k : Nat → A) : A := if 0 ≤ i then (if i < (n : Int) then k i.toNat else z) else z
def idx (z : A) (n : Nat) (h : Nat → PV) (x ix : PV) (k : PV → A) : A :=
  match ix with
  | .val (.int _) i =>
    match x with
    | .val (.sl t) xs => if t.sz = n then inI z i xs.length fun j => k (.pt (cellsOf t (xs.getD j t.dft))) else z
    | .ref N => match h N with
      | .row _ t xs => if t.sz = n then inI z i xs.length fun j => k (.cp N j n 0) else z
      | .val (.sl t) xs => if t.sz = n then inI z i xs.length fun j => k (.cp N j n 0) else z
      | .mat _ _ t xs => if n = 1 then inI z i xs.length fun j => k (.cp N j 1 0) else z
      | .hol _ _ t xs _ _ => if n = 1 then inI z i xs.length fun j => k (.cp N j 1 0) else z
      | _ => z
    | .win N s lo m => if s = n then inI z i m fun j => k (.cp N (lo + j) n 0) else z
    | _ => z
  | _ => z
def lenP (P : Program) (z : A) (ty : TypeId) (h : Nat → PV) (x : PV) (k : PV → A) : A :=
  match P.underlying ty with
  | some (.slice _) => match x with
    | .val (.sl t) xs => k (.val (.int .i64) (xs.length : Int))
    | .nil => k (.val (.int .i64) (0 : Int))
    | .ref N => match h N with
      | .row _ t xs => k (.val (.int .i64) (xs.length : Int))
      | .val (.sl t) xs => k (.val (.int .i64) (xs.length : Int))
      | .mat _ _ t xs => k (.val (.int .i64) (xs.length : Int))
      | .hol _ _ t xs _ _ => k (.val (.int .i64) (xs.length : Int))
      | _ => z
    | .win N s lo n => k (.val (.int .i64) (n : Int))
    | _ => z
  | some .string => match x with
    | .val .str s => k (.val (.int .i64) (ByteArray.size s : Int))
    | _ => z
  | _ => z
/-- A slice's content, read. -/
def rdc (h : Nat → PV) : PV → PV
  | .ref N => match h N with
    | .row _ t xs => .val (.sl t) xs
    | .val t x => .val t x
    | _ => .dead
  | .win N s lo n => rd1 h (.win N s lo n)
  | .val t x => .val t x
  | .nil => .nil
  | _ => .dead
def cont (h : Nat → PV) (t : Ty) (x : PV) : Option (List t.El) := ofPV (.sl t) (rdc h x)

def storeP (P : Program) (z : A) (h : Nat → PV) (o : Oper) (t : TypeId) (a v : PV) (k : List Upd → A) : A :=
  if v.cells.length = szOf P t ∧ v.cells.all PV.one = true ∧ 0 < szOf P t then
    match a with
    | .ref N => match h N with
      | .box bs => if v.cells.length ≤ bs.length then k (.ob N (.box (splice bs 0 v.cells)) :: put o .dead) else z
      | _ => z
    | .cp N i s j => match h N with
      | .box bs => if i * s = 0 ∧ j + v.cells.length ≤ bs.length then k (.ob N (.box (splice bs j v.cells)) :: put o .dead) else z
      | .row e t' xs => if s = t'.sz ∧ j + v.cells.length ≤ t'.sz ∧ (nmL v.cells).contains N = false then match ofCells t' (splice (cellsOf t' (xs.getD i t'.dft)) j (v.cells.map (rd1 h))) with
        | some (x, []) => k ((nmL v.cells).flatMap (frz h) ++ .ob N (.row e t' (xs.set i x)) :: put o .dead)
        | _ => z
        else z
      | _ => z
    | _ => z
  else z
def loadP (P : Program) (z : A) (h : Nat → PV) (o : Oper) (t : TypeId) (a : PV) (k : List Upd → A) : A :=
  if isSt P t then
    if 0 < szOf P t ∧ szOf P t ≤ (atP h a).length then k (put o (.agg ((atP h a).take (szOf P t)))) else z
  else match isPl P t, atP h a with
    | true, c :: _ => k (put o c)
    | _, _ => z
def fieldA (P : Program) (z : A) (h : Nat → PV) (o : Oper) (s : TypeId) (x : PV) (f : Nat) (k : List Upd → A) : A :=
  match fldOf P s f with
  | some (off, ft) =>
    if 0 < szOf P ft then
      match x with
      | .ref N => match h N with
        | .box _ => k (put o (.cp N 0 0 off))
        | .pt _ => k (put o (.cp N 0 0 off))
        | _ => z
      | .cp N i c j => k (put o (.cp N i c (j + off)))
      | .pt cs => k (put o (.pt (cs.drop off)))
      | _ => z
    else z
  | none => z
def fieldP (P : Program) (z : A) (o : Oper) (s : TypeId) (x : PV) (f : Nat) (k : List Upd → A) : A :=
  match fldOf P s f, x with
  | some (off, ft), .agg cs =>
    if isSt P ft then (if off + szOf P ft ≤ cs.length then k (put o (.agg ((cs.drop off).take (szOf P ft)))) else z)
    else match isPl P ft, cs.drop off with
      | true, c :: _ => k (put o c)
      | _, _ => z
  | _, _ => z
/-- nil slices among fresh cells become rows of our own. -/
def ownNil (P : Program) : List (TypeId × PV) → Nat → List PV × List Upd
  | [], _ => ([], [])
  | (t, .nil) :: r, nm => match elOf P t with
    | some (e, a) => ((.ref nm) :: (ownNil P r (nm + 1)).1, .ob nm (.row e a []) :: (ownNil P r (nm + 1)).2)
    | none => (.dead :: (ownNil P r (nm + 1)).1, (ownNil P r (nm + 1)).2)
  | (_, p) :: r, nm => (p :: (ownNil P r nm).1, (ownNil P r nm).2)
def zeroCells (P : Program) (t : TypeId) (nm : Nat) : Option (List PV × List Upd) :=
  match zeroOf P t with
  | some v => if (celTys P 4 t).length = (ofConst v).cells.length ∧ (celTys P 4 t).length < 60 ∧ isTup v = false then some (ownNil P ((celTys P 4 t).zip (ofConst v).cells) nm) else none
  | none => none
def allocP (P : Program) (z : A) (nm : Nat) (o : Oper) (t : TypeId) (k : List Upd → A) : A :=
  match zeroCells P t (nm + 1) with
  | some (cs, us) => k (us ++ .ob nm (.box cs) :: put o (.ref nm))
  | none => z
def fillP (P : Program) (s : TypeId) : List PV → List (Nat × PV) → Option (List PV)
  | cs, [] => some cs
  | cs, (f, p) :: r => match fldOf P s f with
    | some (off, ft) => if p.cells.length = szOf P ft ∧ off + p.cells.length ≤ cs.length then fillP P s (splice cs off p.cells) r else none
    | none => none
def hasPlaces (P : Program) (s : TypeId) : Bool :=
  match P.underlying s with
  | some (.struct fs) => (fs.toList.mapM fun f => (P.info? f.type).map fun i => (f.offset, i.size)).isSome
  | _ => false
def buildP (P : Program) (z : A) (nm : Nat) (o : Oper) (s : TypeId) (ps : List (Nat × PV)) (k : List Upd → A) : A :=
  match hasPlaces P s && ps.all (fun p => p.2.cells.all PV.one), zeroCells P s nm with
  | true, some (cs, us) => match fillP P s cs ps with
    | some ds => k (us ++ put o (.agg ds))
    | none => z
  | _, _ => z
/-- Elements out of parts, each one told. -/
def elems (h : Nat → PV) (t : Ty) : Nat → List (Nat × PV) → Option (List t.El)
  | _, [] => some []
  | i, (j, p) :: r => if i = j then
      match ofCells t (p.cells.map (rd1 h)) with
      | some (x, []) => match elems h t (i + 1) r with
        | some xs => some (x :: xs)
        | none => none
      | _ => none
    else none
def buildS (P : Program) (z : A) (h : Nat → PV) (nm : Nat) (o : Oper) (s : TypeId) (n : Nat) (ps : List (Nat × PV)) (k : List Upd → A) : A :=
  match elOf P s with
  | some (e, t) => if ps.all (fun p => p.2.cells.all PV.one) then match elems h t 0 ps with
    | some xs => if xs.length = n then (if n * t.sz ≤ 16777216 then k ((ps.flatMap fun p => nmL p.2.cells).flatMap (frz h) ++ .ob nm (.row e t xs) :: put o (.ref nm)) else z) else z
    | none => z
    else z
  | none => z
def sameOp : Operand → Operand → Bool
  | .tmp a, .tmp b => a == b
  | .const (.int _ a), .const (.int _ b) => a == b
  | _, _ => false
def mkI (z : A) (by_ : Nat) (n : Int) (k : Nat → A) : A := if 0 ≤ n then (if n.toNat * by_ ≤ 281474976710656 then k n.toNat else z) else z
def makeP (P : Program) (z : A) (nm : Nat) (o : Oper) (s : TypeId) (same : Bool) (l : PV) (k : List Upd → A) : A :=
  match elOf P s, l, same with
  | some (e, t), .val (.int .i64) n, true =>
    mkI z (byOf P e) n fun m => k (.ob nm (.row e t (List.replicate m t.dft)) :: put o (.ref nm))
  | _, _, _ => z
def appendP (P : Program) (z : A) (h : Nat → PV) (nm : Nat) (o : Oper) (s : TypeId) (a b : PV) (k : List Upd → A) : A :=
  match elOf P s with
  | some (e, t) => match cont h t b with
    | some ys => match a with
      | .nil => if ys.length * byOf P e ≤ 140737488355328 then k (.ob nm (.row e t ys) :: put o (.ref nm)) else z
      | .ref N => match h N with
        | .row e' t' xs => if h' : t' = t then
            if e' = e then
              if (xs.length + ys.length) * byOf P e ≤ 140737488355328 then k (.ob N .dead :: .ob nm (.row e t ((h' ▸ xs) ++ ys)) :: put o (.ref nm)) else z
            else z
          else z
        | _ => z
      | _ => z
    | none => z
  | none => z
def copyP (sz : Nat) (z : A) (h : Nat → PV) (o : Oper) (a b : PV) (k : List Upd → A) : A :=
  match a with
  | .ref N => match h N with
    | .row e t xs => if t.sz = sz then match cont h t b with
      | some ys => k (.ob N (.row e t (xs.take 0 ++ ys.take xs.length ++ xs.drop (0 + min ys.length xs.length))) :: put o (.val (.int .i64) ((min ys.length xs.length : Nat) : Int)))
      | none => z
      else z
    | _ => z
  | .win N s lo n => match h N with
    | .row e t xs => if s = t.sz ∧ t.sz = sz then match cont h t b with
      | some ys => k (.ob N (.row e t (xs.take lo ++ ys.take n ++ xs.drop (lo + min ys.length n))) :: put o (.val (.int .i64) ((min ys.length n : Nat) : Int)))
      | none => z
      else z
    | _ => z
  | _ => z
def toI (z : A) (b : Int) (n : Nat) (k : Nat → A) : A := if 0 ≤ b then (if b ≤ (n : Int) then k b.toNat else z) else z
/-- Bounds of a part: the lower one, how many. -/
def sliceP (z : A) (s : Nat) (h : Nat → PV) (o : Oper) (x : PV) (lo hi : Option PV) (k : List Upd → A) : A :=
  let go (len : Nat) (kk : Nat → Nat → A) : A :=
    let hk (kh : Nat → A) : A := match hi with
      | none => kh len
      | some (.val (.int _) b) => toI z b len kh
      | _ => z
    hk fun b => match lo with
      | none => kk 0 b
      | some (.val (.int _) a) => toI z a b fun a => kk a (b - a)
      | _ => z
  match x with
  | .val (.sl t) xs => if t.sz = s then go xs.length fun a n => k (put o (.val (.sl t) ((xs.drop a).take n))) else z
  | .ref N => match h N with
    | .row _ t xs => if t.sz = s then go xs.length fun a n => k (put o (.win N s a n)) else z
    | .val (.sl t) xs => if t.sz = s then go xs.length fun a n => k (put o (.win N s a n)) else z
    | _ => z
  | .win N s' l m => if s' = s then go m fun a n => k (put o (.win N s (l + a) n)) else z
  | _ => z

/-! calls -/
/-- An argument as the callee sees it. -/
def argP (h : Nat → PV) (io : Bool) (p : PV) : PV :=
  match io, p with
  | true, .ref N => match h N with
    | .row e t xs => .row e t xs
    | .box cs => .box (cs.map (rd1 h))
    | _ => .dead
  | true, .cp N i s j => match h N with
    | .row e t xs => if s = t.sz then .box (cellsOf t (xs.getD i t.dft)) else .dead
    | _ => .dead
  | true, _ => .dead
  | false, p => rd h p
/-- What comes back in an argument that is written. -/
def backP (h : Nat → PV) (p out : PV) : Option (List Upd) :=
  match p, out with
  | .ref N, .row e t xs => some [.ob N (.row e t xs)]
  | .ref N, .box cs => some [.ob N (.box cs)]
  | .cp N i z 0, .box cs => match h N with
    | .row e t xs => match ofCells t cs with
      | some (x, []) => some [.ob N (.row e t (xs.set i x))]
      | _ => none
    | _ => none
  | _, _ => none
def backs (h : Nat → PV) : List PV → List Bool → List PV → Option (List Upd)
  | [], _, [] => some []
  | p :: ps, true :: io, out :: outs => match backP h p out, backs h ps io outs with
    | some us, some vs => some (us ++ vs)
    | _, _ => none
  | p :: ps, false :: io, outs => backs h ps io outs
  | p :: ps, [], outs => backs h ps [] outs
  | _, _, _ => none
/-- A result as a slot's value, with its objects. -/
def mat1 (nm : Nat) : PV → PV × List Upd
  | .row e t xs => (.ref nm, [.ob nm (.row e t xs)])
  | .box cs => (.ref nm, [.ob nm (.box cs)])
  | .mat e e' t xs => (.ref nm, [.ob nm (.mat e e' t xs)])
  | .hol e e' t xs i M => (.ref nm, [.ob nm (.hol e e' t xs i M)])
  | p => (p, [])
def matL (nm : Nat) : List PV → List PV × List Upd
  | [] => ([], [])
  | p :: ps => ((mat1 nm p).1 :: (matL (nm + 1) ps).1, (mat1 nm p).2 ++ (matL (nm + 1) ps).2)
def mat2 (nm : Nat) : PV → PV × List Upd
  | .agg cs => (.agg (matL nm cs).1, (matL nm cs).2)
  | p => mat1 nm p
def matT (nm : Nat) : List PV → List PV × List Upd
  | [] => ([], [])
  | p :: ps => ((mat2 nm p).1 :: (matT (nm + 16) ps).1, (mat2 nm p).2 ++ (matT (nm + 16) ps).2)
def mat (nm : Nat) : PV → PV × List Upd
  | .tup ps => (.tup (matT nm ps).1, (matT nm ps).2)
  | p => mat2 nm p
def argsP (h : Nat → PV) : List Bool → List PV → List PV
  | _, [] => []
  | [], p :: ps => argP h false p :: argsP h [] ps
  | b :: io, p :: ps => argP h b p :: argsP h io ps
def rdNames (h : Nat → PV) : List Bool → List PV → List Nat
  | _, [] => []
  | [], p :: ps => closure h [p] ++ rdNames h [] ps
  | true :: io, p :: ps => rdNames h io ps
  | false :: io, p :: ps => closure h [p] ++ rdNames h io ps
def ioNm : PV → List Nat
  | .ref N => [N]
  | .cp N _ _ _ => [N]
  | _ => []
def ioNames : List Bool → List PV → List Nat
  | _, [] => []
  | [], _ => []
  | true :: io, p :: ps => ioNm p ++ ioNames io ps
  | false :: io, _ :: ps => ioNames io ps
/-- Arguments that may be written: own rows, own variables without names, elements of own rows. -/
def ioFit (h : Nat → PV) : PV → Bool
  | .ref N => match h N with
    | .row _ _ _ => true
    | .box cs => (nmL cs).isEmpty && cs.all PV.one
    | _ => false
  | .cp N i s 0 => match h N with
    | .row _ t xs => s == t.sz
    | _ => false
  | _ => false
def ioFits (h : Nat → PV) : List Bool → List PV → Bool
  | _, [] => true
  | [], _ => true
  | true :: io, p :: ps => ioFit h p && ioFits h io ps
  | false :: io, _ :: ps => ioFits h io ps
def distinct : List Nat → Bool
  | [] => true
  | N :: r => !r.contains N && distinct r
def callOk (h : Nat → PV) (io : List Bool) (ps : List PV) : Bool :=
  ioFits h io ps && distinct (ioNames io ps) && (ioNames io ps).all fun N => !(rdNames h io ps).contains N
def PV.comps : PV → List PV
  | .tup ps => ps
  | p => [p]
def resOk (p : PV) : Bool := decide (p.comps.length ≤ 4) && p.comps.all fun q => decide (q.cells.length ≤ 16)
def callP (C : Hd A) (io : FuncId → List Bool) (z : A) (h : Nat → PV) (nm : Nat) (o : Oper) (f : FuncId) (ps : List PV) (k : List Upd → A) : A :=
  if callOk h (io f) ps then
  C f (argsP h (io f) ps) fun outs res =>
    match resOk res, backs h ps (io f) outs with
    | true, some us =>
      let fr := if res.sh || outs.any PV.sh then (rdNames h (io f) ps).flatMap (frzC h (rdNames h (io f) ps)) else []
      k (fr ++ us ++ (mat nm res).2 ++ put o (mat nm res).1)
    | _, _ => z
  else z

/-- A name behind all names. -/
def pk (f : Nat) : Nat := f + 1000000
/-- A call whose first argument is a struct of which a row is written: its cells are handed over one by one, to a name behind all names. -/
def callQ (C : Hd A) (io : FuncId → List Bool) (z : A) (h : Nat → PV) (nm : Nat) (o : Oper) (f : FuncId) (ps : List PV) (k : List Upd → A) : A :=
  match (io f).headD false, ps with
  | true, [.agg cs, p] => callP C io z h nm o (pk f) (cs ++ [p]) k
  | _, _ => if Nat.blt f 1000000 = true then callP C io z h nm o f ps k else z

/-- What the updates tell of an object at last. -/
def lastOb : List Upd → Nat → Option PV
  | [], _ => none
  | .ob M p :: us, N => match lastOb us N with
    | some q => some q
    | none => if M = N then some p else none
  | .sl _ _ :: us, N => lastOb us N
def updF (h : Nat → PV) (us : List Upd) : Nat → PV := fun N => match lastOb us N with
  | some q => q
  | none => h N
/-- A row's alias goes: the row of rows is whole again. -/
def close1 (h : Nat → PV) (N : Nat) : List Upd :=
  match h N with
  | .hol e e' t xs i M => match h M with
    | .row e1 t1 ys => if hq : t1 = t then (if e1 = e' ∧ M ≠ N then [.ob N (.mat e e' t (xs.set i (hq ▸ ys))), .ob M .dead] else []) else []
    | _ => []
  | _ => []
def closeF : List Nat → (Nat → PV) → List Upd
  | [], _ => []
  | N :: r, h => close1 h N ++ closeF r (updF h (close1 h N))
/-- Rows of rows that an operation looks into: they have to be whole. -/
def pre (o : Oper) (ev : Operand → PV) (h : Nat → PV) : List Nat := match o.op with
  | .load _ a => (ev a).nm1
  | .store _ a _ => (ev a).nm1
  | .call c => match c.callee, c.args.toList.map ev with
    | .builtin .append, [a, _] => a.nm1
    | .value f, ps => closure h (ev f :: ps)
    | _, _ => []
  | _ => []
/-- The types of a row of rows of plain elements. -/
def elO2 (P : Program) (s : TypeId) : Option (TypeId × TypeId × Ty) := match elOf P s with
  | some (e, .sl t) => match P.underlying e with
    | some (.slice e') => if t.hasSl = false then some (e, e', t) else none
    | _ => none
  | _ => none
def mats (io : FuncId → List Bool) : Bool := (io 900000).headD false
/-- A row of our own as one of a row of rows. -/
def rowAs (h : Nat → PV) (e' : TypeId) (t : Ty) : PV → Option (Nat × List t.El)
  | .ref M => match h M with
    | .row e1 t1 ys => if hq : t1 = t then (if e1 = e' then some (M, hq ▸ ys) else none) else none
    | _ => none
  | _ => none
def matMake (P : Program) (z : A) (nm : Nat) (o : Oper) (s : TypeId) (same : Bool) (l : PV) (k : List Upd → A) : Option A :=
  match elO2 P s, l, same with
  | some (e, e', t), .val (.int .i64) n, true => some (mkI z (byOf P e) n fun m => k (.ob nm (.mat e e' t (List.replicate m [])) :: put o (.ref nm)))
  | _, _, _ => none
def matBuild (P : Program) (z : A) (h : Nat → PV) (nm : Nat) (o : Oper) (s : TypeId) (n : Nat) (ps : List (Nat × PV)) (k : List Upd → A) : Option A :=
  match elO2 P s, n, ps with
  | some (e, e', t), 0, [] => some (k (.ob nm (.mat e e' t []) :: put o (.ref nm)))
  | some (e, e', t), 1, [(0, p)] => match rowAs h e' t p with
    | some (M, ys) => some (k (.ob nm (.hol e e' t [ys] 0 M) :: put o (.ref nm)))
    | none => none
  | _, _, _ => none
def matLoad (P : Program) (z : A) (h : Nat → PV) (nm : Nat) (o : Oper) (t : TypeId) (a : PV) (k : List Upd → A) : Option A :=
  match a with
  | .cp N i 1 0 => match h N with
    | .mat e e' t' xs => some (if isPl P t = true then k (.ob nm (.row e' t' (xs.getD i [])) :: .ob N (.hol e e' t' xs i nm) :: put o (.ref nm)) else z)
    | _ => none
  | _ => none
def matStore (P : Program) (z : A) (h : Nat → PV) (o : Oper) (t : TypeId) (a v : PV) (k : List Upd → A) : Option A :=
  match a with
  | .cp N i 1 0 => match h N with
    | .mat e e' t' xs => some (match rowAs h e' t' v with
      | some (M, ys) => if szOf P t = 1 ∧ M ≠ N then k (.ob N (.hol e e' t' (xs.set i ys) i M) :: put o .dead) else z
      | none => z)
    | _ => none
  | _ => none
/-- A row of rows that is appended: its rows, and who stands for one. -/
def matAs (h : Nat → PV) (e e' : TypeId) (t : Ty) : PV → Option (Nat × List (List t.El) × Option (Nat × Nat))
  | .ref B => match h B with
    | .mat e1 e2 t1 ys => if hq : t1 = t then (if e1 = e ∧ e2 = e' then some (B, hq ▸ ys, none) else none) else none
    | .hol e1 e2 t1 ys j M => if hq : t1 = t then (if e1 = e ∧ e2 = e' then some (B, hq ▸ ys, some (j, M)) else none) else none
    | _ => none
  | _ => none
def matApp (P : Program) (z : A) (h : Nat → PV) (nm : Nat) (o : Oper) (s : TypeId) (a b : PV) (k : List Upd → A) : Option A :=
  match a with
  | .ref N => match h N with
    | .mat e e' t xs => some (match matAs h e e' t b, elO2 P s with
      | some (B, ys, al), some (e1, e2, t1) => if e1 = e ∧ e2 = e' ∧ t1 = t ∧ B ≠ N then (if (xs.length + ys.length) * byOf P e ≤ 140737488355328 then
          match al with
          | none => k (.ob N .dead :: .ob B .dead :: .ob nm (.mat e e' t (xs ++ ys)) :: put o (.ref nm))
          | some (j, M) => if M ≠ N ∧ M ≠ B then k (.ob N .dead :: .ob B .dead :: .ob nm (.hol e e' t (xs ++ ys) (xs.length + j) M) :: put o (.ref nm)) else z
        else z) else z
      | _, _ => z)
    | _ => none
  | _ => none
def matOp (P : Program) (io : FuncId → List Bool) (z : A) (nm : Nat) (o : Oper) (ev : Operand → PV) (h : Nat → PV) (k : List Upd → A) : Option A := match o.op with
  | .makeSlice s l c => if mats io = true then matMake P z nm o s (sameOp l c) (ev l) k else none
  | .buildSlice s n ps => if mats io = true then matBuild P z h nm o s n (ps.toList.map fun p => (p.1, ev p.2)) k else none
  | .load t a => matLoad P z h nm o t (ev a) k
  | .store t a v => matStore P z h o t (ev a) (ev v) k
  | .call c => match c.callee, c.args.toList.map ev, c.argTypes.toList with
    | .builtin .append, [a, b], [s, s'] => if s = s' then matApp P z h nm o s a b k else none
    | _, _, _ => none
  | _ => none
def maxI (a b : Int) : Int := if b > a then b else a
def minI (a b : Int) : Int := if b < a then b else a
/-- What one operation does, rows of rows aside. -/
def core0 (P : Program) (C : Hd A) (io : FuncId → List Bool) (z : A) (nm : Nat) (o : Oper) (ev : Operand → PV) (h : Nat → PV) (k : List Upd → A) : A :=
  match o.op with
  | .move x => k (put o (ev x))
  | .assign x => match ev x with
    | .nil => match elOf P o.type with
      | some (e, t) => k (.ob nm (.row e t []) :: put o (.ref nm))
      | none => k (put o .nil)
    | p => k (put o p)
  | .nilCheck x => match ev x with
    | .ref N => match h N with
      | .box _ => k (put o (.ref N))
      | .pt _ => k (put o (.ref N))
      | _ => z
    | .cp N i c j => k (put o (.cp N i c j))
    | .pt cs => k (put o (.pt cs))
    | _ => z
  | .pick c a b => iteP z (ev c) (k (put o (ev a))) (k (put o (ev b)))
  | .alloc e => allocP P z nm o e k
  | .box _ x => if (ev x).cells.all PV.one = true then k (.ob nm (.box (ev x).cells) :: put o (.ref nm)) else z
  | .build t ps => buildP P z nm o t (ps.toList.map fun p => (p.1, ev p.2)) k
  | .buildSlice t n ps => buildS P z h nm o t n (ps.toList.map fun p => (p.1, ev p.2)) k
  | .load t a => loadP P z h o t (ev a) k
  | .store t a v => storeP P z h o t (ev a) (ev v) k
  | .binOp op t x y _ => bin P z t op (match y with | .const (.int _ n) => n != 0 | _ => false) (ev x) (ev y) fun p => k (put o p)
  | .unOp op _ x => una z op (ev x) fun p => k (put o p)
  | .convert src dst x => match P.underlying src with
    | some _ => cnv P z dst (ev x) fun p => k (put o p)
    | none => z
  | .makeFunc (.func f) first caps => if first.size = 0 then k (put o (.clo f (caps.toList.map ev))) else z
  | .makeSlice t l c => makeP P z nm o t (sameOp l c) (ev l) k
  | .slice t x lo hi none => match elOf P t with
    | some (e, _) => sliceP z (szOf P e) h o (ev x) (lo.map ev) (hi.map ev) k
    | none => z
  | .fieldAddr s x f => fieldA P z h o s (ev x) f k
  | .field s x f => fieldP P z o s (ev x) f k
  | .indexAddr t x ix => match elOf P t with
    | some (e, _) => idx z (szOf P e) h (ev x) (ev ix) fun p => k (put o p)
    | none => z
  | .extract t i => match ev t with
    | .tup ps => if i < ps.length then k (put o (ps.getD i .dead)) else z
    | _ => z
  | .call c => match c.callee, c.args.toList.map ev with
    | .builtin .len, [x] => match c.argTypes.toList with
      | [s] => lenP P z s h x fun p => k (put o p)
      | _ => z
    | .builtin .append, [a, b] => match c.argTypes.toList with
      | [s, s'] => if s = s' then appendP P z h nm o s a b k else z
      | _ => z
    | .builtin .copy, [a, b] => match c.argTypes.toList with
      | [s, _] => match elOf P s with
        | some (e, _) => copyP (szOf P e) z h o a b k
        | none => z
      | _ => z
    | .builtin .max, [.val (.int i) a, .val (.int j) b] => k (put o (.val (.int i) (maxI a b)))
    | .builtin .min, [.val (.int i) a, .val (.int j) b] => k (put o (.val (.int i) (minI a b)))
    | .value f, ps => match ev f with
      | .clo fid caps => callQ C io z h nm o fid (ps ++ caps) k
      | _ => z
    | _, _ => z
  | _ => z

/-- What one operation does. -/
def core (P : Program) (C : Hd A) (io : FuncId → List Bool) (z : A) (nm : Nat) (o : Oper) (ev : Operand → PV) (h : Nat → PV) (k : List Upd → A) : A :=
  match matOp P io z nm o ev (updF h (closeF (pre o ev h) h)) fun us => k (closeF (pre o ev h) h ++ us) with
  | some a => a
  | none => core0 P C io z nm o ev (updF h (closeF (pre o ev h) h)) fun us => k (closeF (pre o ev h) h ++ us)

/-- What an operation is about, among the objects. -/
def names (o : Oper) (ev : Operand → PV) (h : Nat → PV) : List Nat := match o.op with
  | .move _ => []
  | .assign _ => []
  | .extract _ _ => []
  | _ => closure h (o.op.operands.toList.map ev)
def isGuard (ops : List Oper) (i : Nat) : Bool := ops.any fun o => match o.guard with
  | some (j, _) => j == i
  | none => false
def fix (g : Bool) (us : List Upd) (k : List Upd → A) : A :=
  match g, us with
  | true, [.sl d (.tst c e)] => @ite A c e (k [.sl d (.val .bool true)]) (k [.sl d (.val .bool false)])
  | true, [.sl d (.val .bool b)] => match b with
    | true => k [.sl d (.val .bool true)]
    | false => k [.sl d (.val .bool false)]
  | _, us => k us
def view (L : List Nat) (h : Nat → PV) (N : Nat) : PV := if L.contains N then h N else .dead
structure Fp where
  i : Nat
  r : List Nat
  w : List Nat
  s : List Nat
def wrote (us : List Upd) : List Nat := us.flatMap fun u => match u with
  | .ob N _ => [N]
  | .sl _ _ => []
def sls (us : List Upd) : List Nat := us.flatMap fun u => match u with
  | .ob _ _ => []
  | .sl t _ => [t]
/-- One operation of a region, under its guard. -/
def opr (P : Program) (C : Hd A) (io : FuncId → List Bool) (z : A) (ops : List Oper) (i : Nat) (o : Oper) (σ : St) (k : List Upd → Fp → A) : A :=
  let L := names o σ.eval (look σ.ob)
  let go : A := core P C io z (σ.nx + 64 * i) o σ.eval (view L (look σ.ob)) fun us => fix (isGuard ops i) us fun us => k us ⟨i, L, wrote us, sls us⟩
  match o.guard with
  | none => go
  | some (j, want) => match (ops[j]?).bind (·.dst) with
    | some d => match σ.get d with
      | .val .bool b => match b, want with
        | true, true => go
        | false, false => go
        | _, _ => k (put o (.tup [])) ⟨i, [], wrote (put o (.tup [])), sls (put o (.tup []))⟩
      | .tup [] => k (put o (.tup [])) ⟨i, [], wrote (put o (.tup [])), sls (put o (.tup []))⟩
      | _ => z
    | none => z
def run (P : Program) (C : Hd A) (io : FuncId → List Bool) (z : A) (ops : List Oper) : Nat → List Oper → St → List Fp → (St → List Fp → A) → A
  | _, [], σ, acc, k => k σ acc
  | i, o :: rest, σ, acc, k => opr P C io z ops i o σ fun us fp => run P C io z ops (i + 1) rest (σ.apply us) (fp :: acc) k
def meets (a b : List Nat) : Bool := a.any fun x => b.contains x
/-- Operations without an edge between them are about other objects and slots, or write none. -/
def apart (bef : Array Nat) (ops : Array Oper) (x y : Fp) : Bool :=
  (bef.getD (max x.i y.i) 0).testBit (min x.i y.i) ||
    (!meets x.w y.r && !meets y.w x.r && !meets x.w y.w && match ops[x.i]?, ops[y.i]? with
      | some a, some b => !meets x.s (b.looksAt ops) && !meets y.s (a.looksAt ops) && !meets x.s y.s
      | _, _ => false)
def allApart (bef : Array Nat) (ops : Array Oper) : List Fp → Bool
  | [] => true
  | x :: r => r.all (apart bef ops x) && allApart bef ops r
def backward : Nat → List Oper → Bool
  | _, [] => true
  | i, o :: r => (o.after.all fun e => !Region.binds .any e || decide (e.on < i)) && backward (i + 1) r
def drawOk (ops : Array Oper) (fps : List Fp) : Bool := backward 0 ops.toList && allApart (Region.before ops) ops fps

/-! states anew -/
def nub : List Nat → List Nat → List Nat
  | [], acc => acc
  | x :: r, acc => if acc.contains x then nub r acc else nub r (acc ++ [x])
def pos : List Nat → Nat → Nat → Option Nat
  | [], _, _ => none
  | M :: r, N, i => if M = N then some i else pos r N (i + 1)
def PV.ren1 (ρ : Nat → Option Nat) : PV → PV
  | .ref N => match ρ N with
    | some i => .ref i
    | none => .dead
  | .win N z a n => match ρ N with
    | some i => .win i z a n
    | none => .dead
  | .cp N c z j => match ρ N with
    | some i => .cp i c z j
    | none => .dead
  | .tst c d => .val .bool (@decide c d)
  | .agg _ => .dead
  | .clo _ _ => .dead
  | .tup _ => .dead
  | .hol e e' t xs i M => match ρ M with
    | some m => .hol e e' t xs i m
    | none => .dead
  | p => p
def PV.ren (ρ : Nat → Option Nat) : PV → PV
  | .agg cs => .agg (cs.map (PV.ren1 ρ))
  | .clo f cs => .clo f (cs.map (PV.ren1 ρ))
  | .box cs => .box (cs.map (PV.ren1 ρ))
  | p => p.ren1 ρ
def keep (L : List Nat) : Nat → List PV → List PV
  | _, [] => []
  | i, p :: r => (if L.contains i then p else .dead) :: keep L (i + 1) r
def obs (h : Nat → PV) (ρ : Nat → Option Nat) : List Nat → Nat → List (Nat × PV)
  | [], _ => []
  | N :: r, i => (i, (h N).ren ρ) :: obs h ρ r (i + 1)
/-- Rows of rows whose aliases no slot names. -/
def settle (ns : List Nat) : List Nat → St → St
  | [], σ => σ
  | N :: r, σ => settle ns r (match look σ.ob N with
    | .hol _ _ _ _ _ M => if ns.contains M then σ else σ.apply (close1 (look σ.ob) N)
    | _ => σ)
def St.canon0 (L : List Nat) (σ : St) : St :=
  let sl := keep L 0 σ.sl
  let h := look σ.ob
  let n1 := nub (sl.flatMap PV.nms) []
  let n2 := nub (n1.flatMap fun N => (h N).nms) n1
  let ρ := fun N => pos n2 N 0
  { sl := sl.map (PV.ren ρ), ob := obs h ρ n2 0, nx := n2.length }
/-- The rows of rows that slots and variables hold are settled first. -/
def St.canon (L : List Nat) (σ : St) : St :=
  let n1 := nub ((keep L 0 σ.sl).flatMap PV.nms) []
  St.canon0 L (settle n1 (nub (n1.flatMap fun N => (look σ.ob N).nms) n1) σ)

/-! code -/
def cnt : Code → Nat
  | .seq a b => 1 + cnt a + cnt b
  | .cond _ a b => cnt a + cnt b
  | .block _ a => cnt a
  | .loop a => 1 + cnt a
  | _ => 0
def exec (P : Program) (C : Hd A) (io : FuncId → List Bool) (z : A) (cut : Nat → Bool) (Λ : Nat → (Exit → St → A) → St → A) : Code → Nat → (Exit → St → A) → St → A
  | .skip, _, K, σ => K .normal σ
  | .region _ ops dr, _, K, σ =>
    run P C io z ops.toList 0 ops.toList σ [] fun σ' fps =>
      if dr && !drawOk ops fps then z else K .normal { σ' with nx := σ.nx + 64 * ops.size }
  | .seq a b, n, K, σ => exec P C io z cut Λ a (n + 1) (fun e σ' => match e with
      | .normal => if cut n then Λ n K σ' else exec P C io z cut Λ b (n + 1 + cnt a) K σ'
      | e => K e σ') σ
  | .cond c a b, n, K, σ => iteP z (σ.eval c) (exec P C io z cut Λ a n K σ) (exec P C io z cut Λ b (n + cnt a) K σ)
  | .block id a, n, K, σ => exec P C io z cut Λ a n (fun e σ' => match e with
      | .exit j => if j = id then K .normal σ' else K (.exit j) σ'
      | e => K e σ') σ
  | .loop a, n, K, σ => Λ n K σ
  | .exit id, _, K, σ => K (.exit id) σ
  | .ret, _, K, σ => K .ret σ
  | _, _, _, _ => z

/-! functions -/
def isIo : PV → Bool
  | .row _ _ _ => true
  | .box _ => true
  | .mat _ _ _ _ => true
  | .hol _ _ _ _ _ _ => true
  | _ => false
def initSl : List PV → Nat → List PV
  | [], _ => []
  | p :: ps, i => (if isIo p then .ref i else p) :: initSl ps (i + 1)
def initOb : List PV → Nat → List (Nat × PV)
  | [], _ => []
  | p :: ps, i => if isIo p then (i, p) :: initOb ps (i + 1) else initOb ps (i + 1)
def initSt (args : List PV) (n : Nat) : St := { sl := initSl args 0 ++ List.replicate (n - args.length) .dead, ob := initOb args 0, nx := args.length }
/-- What a result variable holds. -/
def resVar (P : Program) (h : Nat → PV) (σ : St) : ResultVar → Option PV
  | .tmp t => some (σ.get t)
  | .cell a t =>
    if isSt P t then (if 0 < szOf P t ∧ szOf P t ≤ (atP h (σ.get a)).length then some (.agg ((atP h (σ.get a)).take (szOf P t))) else none)
    else match isPl P t, atP h (σ.get a) with
      | true, c :: _ => some c
      | _, _ => none
def resVars (P : Program) (h : Nat → PV) (σ : St) : List ResultVar → Option (List PV)
  | [] => some []
  | r :: rs => match resVar P h σ r, resVars P h σ rs with
    | some p, some ps => some (p :: ps)
    | _, _ => none
/-- The form in which a result's cell is handed over. -/
inductive Fm where
  | any
  | own (e : TypeId) (t : Ty)
  | shr (t : Ty)
def zipD {α β : Type} (d : α) : List α → List β → List (α × β)
  | _, [] => []
  | [], b :: bs => (d, b) :: zipD d [] bs
  | a :: as, b :: bs => (a, b) :: zipD d as bs
def ho1 (h : Nat → PV) (N : Nat) : PV := match h N with
  | .row e t xs => .row e t xs
  | .box cs => .box (cs.map (rd1 h))
  | .mat e e' t xs => .mat e e' t xs
  | _ => rd h (.ref N)
/-- A result's cell as the caller gets it: own rows and variables are handed over, all else is shared. -/
def ex1 (h : Nat → PV) (c : Fm × PV) : PV := match c.1, c.2 with
  | .shr t, .nil => .val (.sl t) []
  | .shr _, p => rd h p
  | .own e t, .nil => .row e t []
  | _, .ref N => ho1 h N
  | _, p => rd h p
def exc (h : Nat → PV) (c : List Fm × PV) : PV := match c.2 with
  | .agg cs => .agg ((zipD .any c.1 cs).map (ex1 h))
  | p => ex1 h (c.1.headD .any, p)
def exN1 (h : Nat → PV) (c : Fm × PV) : List Nat := match c.1, c.2 with
  | .shr _, _ => []
  | _, .ref N => match h N with
    | .row _ _ _ => [N]
    | .box _ => [N]
    | .mat _ _ _ _ => [N]
    | _ => []
  | _, _ => []
def rdN1 (h : Nat → PV) (c : Fm × PV) : List Nat := if (exN1 h c).isEmpty then closure h [c.2] else match c.2 with
  | .ref N => match h N with
    | .box cs => nmL cs
    | _ => []
  | _ => []
/-- Arguments that were written: what they hold, their names, names that they read. -/
def outsOf (h : Nat → PV) (σ : St) : List PV → Nat → Option (List PV × List Nat × List Nat)
  | [], _ => some ([], [], [])
  | p :: ps, i => if isIo p then
      match σ.get i, outsOf h σ ps (i + 1) with
      | .ref N, some (os, ns, rs) => match p, h N with
        | .row _ _ _, .row e t xs => some (.row e t xs :: os, N :: ns, rs)
        | .box cs, .box ds => if ds.length = cs.length then some (.box (ds.map (rd1 h)) :: os, N :: ns, nmL ds ++ rs) else none
        | _, _ => none
      | _, _ => none
    else outsOf h σ ps (i + 1)
def fcells (fs : List (List Fm)) (ps : List PV) : List (Fm × PV) := (zipD [] fs ps).flatMap fun c => zipD .any c.1 c.2.cells
def fin {A : Type} (P : Program) (z : A) (fs : List (List Fm)) (rs : List ResultVar) (args : List PV) (Φ : List PV → PV → A) (σ : St) : A :=
  match resVars P (look σ.ob) σ rs, outsOf (look σ.ob) σ args 0 with
  | some ps, some (os, ns, rn) =>
    if distinct (ns ++ (fcells fs ps).flatMap (exN1 (look σ.ob))) && (rn ++ (fcells fs ps).flatMap (rdN1 (look σ.ob))).all fun N => !(ns ++ (fcells fs ps).flatMap (exN1 (look σ.ob))).contains N then
      Φ os (match zipD [] fs ps with
        | [c] => exc (look σ.ob) c
        | cs => .tup (cs.map (exc (look σ.ob))))
    else z
  | _, _ => z
/-- The places of the arguments that are written. -/
def ioIdx : List PV → Nat → List Nat
  | [], _ => []
  | p :: ps, i => if isIo p then i :: ioIdx ps (i + 1) else ioIdx ps (i + 1)
/-- Names that the results hold. -/
def resNms (σ : St) : List ResultVar → List Nat
  | [] => []
  | .tmp t :: r => (σ.get t).nms ++ resNms σ r
  | .cell a _ :: r => (σ.get a).nms ++ resNms σ r
def settleR (rs : List ResultVar) (σ : St) : St :=
  let n1 := resNms σ rs
  settle [] (nub (n1.flatMap fun N => (look σ.ob N).nms) (nub n1 [])) σ
/-- How a function's code ends. -/
def finE {A : Type} (P : Program) (z : A) (fs : List (List Fm)) (fn : Func) (args : List PV) (Φ : List PV → PV → A) : Exit → St → A := fun e σ => match e with
  | .normal => fin P z fs fn.results.toList args Φ (settleR fn.results.toList σ)
  | .ret => fin P z fs fn.results.toList args Φ (settleR fn.results.toList σ)
  | _ => z
/-- The parts of a code that stand behind a name: rounds of a loop, what follows in a sequence. -/
inductive Piece where
  | loop (c : Code) (m : Nat)
  | rest (c : Code) (m : Nat)
def pieceAt : Code → Nat → Nat → Option Piece
  | .seq a b, n, i => if i = n then some (.rest b (n + 1 + cnt a)) else if i < n + 1 + cnt a then pieceAt a (n + 1) i else pieceAt b (n + 1 + cnt a) i
  | .cond _ a b, n, i => if i < n + cnt a then pieceAt a n i else pieceAt b (n + cnt a) i
  | .block _ a, n, i => pieceAt a n i
  | .loop a, n, i => if i = n then some (.loop a (n + 1)) else pieceAt a (n + 1) i
  | _, _, _ => none
end
end Go.Proofs.Ytlpooghphoohcaa.R
/- What a plain value says of the world: cells that are only read, memory of our own, and what keeps both. -/
namespace Go.Proofs.Ytlpooghphoohcaa.R
open Go.RowKit
set_option linter.unusedVariables false

abbrev Foot := Nat → Nat → Prop
def cl (w : World) (b o : Nat) : Option Value := w.cell? ⟨b, o, none⟩
/-- The cells of a list lie at a place and are no one's own. -/
def Lies (w : World) (O : Foot) (b o : Nat) (us : List Value) : Prop := ∀ j u, us[j]? = some u → cl w b (o + j) = some u ∧ ¬ O b (o + j)

def RV (w : World) (O : Foot) : (t : Ty) → t.El → List Value → Prop
  | .int k, n, vs => vs = [.int k n]
  | .bool, b, vs => vs = [.bool b]
  | .str, s, vs => vs = [.string s]
  | .flt k, n, vs => vs = [.float k n]
  | .sl t, xs, vs => ∃ a c us, vs = [.slice a (List.length xs) c] ∧ us.length = List.length xs * t.sz ∧
      (∀ i (h : i < List.length xs), RV w O t (List.get xs ⟨i, h⟩) ((us.drop (i * t.sz)).take t.sz)) ∧
      (us ≠ [] → ∃ b o, a = some ⟨b, o, none⟩ ∧ Lies w O b o us) ∧ List.length xs ≤ c
  | .pair s t, x, vs => ∃ us us', vs = us ++ us' ∧ RV w O s x.1 us ∧ RV w O t x.2 us'
def RVs (w : World) (O : Foot) (t : Ty) (xs : List t.El) (us : List Value) : Prop :=
  us.length = xs.length * t.sz ∧ ∀ i (h : i < xs.length), RV w O t (xs.get ⟨i, h⟩) ((us.drop (i * t.sz)).take t.sz)

theorem Ty.sz_pos : (t : Ty) → 0 < t.sz
  | .pair a b => by have := Ty.sz_pos a; simp only [Ty.sz]; omega
  | .int _ => Nat.one_pos
  | .bool => Nat.one_pos
  | .str => Nat.one_pos
  | .flt _ => Nat.one_pos
  | .sl _ => Nat.one_pos
theorem RV.len {w : World} {O : Foot} : (t : Ty) → {x : t.El} → {vs : List Value} → RV w O t x vs → vs.length = t.sz
  | .int _, _, _, h => by simp only [RV] at h; subst h; rfl
  | .bool, _, _, h => by simp only [RV] at h; subst h; rfl
  | .str, _, _, h => by simp only [RV] at h; subst h; rfl
  | .flt _, _, _, h => by simp only [RV] at h; subst h; rfl
  | .sl _, _, _, h => by
    simp only [RV] at h
    obtain ⟨_, _, _, rfl, _⟩ := h
    rfl
  | .pair s t, _, _, h => by
    simp only [RV] at h
    obtain ⟨us, us', rfl, h1, h2⟩ := h
    rw [List.length_append, RV.len s h1, RV.len t h2, Ty.sz]
/-- What was there and no one's own is so again. -/
def Stb (w : World) (O : Foot) (w' : World) (O' : Foot) : Prop := ∀ b o u, cl w b o = some u → ¬ O b o → cl w' b o = some u ∧ ¬ O' b o
theorem Stb.refl (w : World) (O : Foot) : Stb w O w O := fun _ _ _ h k => ⟨h, k⟩
theorem Stb.trans {w w1 w2 : World} {O O1 O2 : Foot} (h : Stb w O w1 O1) (k : Stb w1 O1 w2 O2) : Stb w O w2 O2 := fun b o u hc ho =>
  let ⟨h1, h2⟩ := h b o u hc ho; k b o u h1 h2
theorem Lies.mono {w w' : World} {O O' : Foot} {b o : Nat} {us : List Value} (h : Lies w O b o us) (s : Stb w O w' O') : Lies w' O' b o us :=
  fun j u hu => let ⟨h1, h2⟩ := h j u hu; s _ _ _ h1 h2
theorem RV.mono {w w' : World} {O O' : Foot} (s : Stb w O w' O') : (t : Ty) → {x : t.El} → {vs : List Value} → RV w O t x vs → RV w' O' t x vs
  | .int _, _, _, h => by simp only [RV] at h ⊢; exact h
  | .bool, _, _, h => by simp only [RV] at h ⊢; exact h
  | .str, _, _, h => by simp only [RV] at h ⊢; exact h
  | .flt _, _, _, h => by simp only [RV] at h ⊢; exact h
  | .sl t, _, _, h => by
    simp only [RV] at h ⊢
    obtain ⟨a, c, us, rfl, hl, hr, hm, hc⟩ := h
    refine ⟨a, c, us, rfl, hl, fun i hi => RV.mono s t (hr i hi), fun hne => ?_, hc⟩
    obtain ⟨b, o, rfl, hc⟩ := hm hne
    exact ⟨b, o, rfl, hc.mono s⟩
  | .pair a b, _, _, h => by
    simp only [RV] at h ⊢
    obtain ⟨us, us', rfl, h1, h2⟩ := h
    exact ⟨us, us', rfl, RV.mono s a h1, RV.mono s b h2⟩
/-- What shares nothing is the same for every owner, in every world. -/
theorem RV.any {w w' : World} {O O' : Foot} : (t : Ty) → t.hasSl = false → {x : t.El} → {vs : List Value} → RV w O t x vs → RV w' O' t x vs
  | .int _, _, _, _, h => by simp only [RV] at h ⊢; exact h
  | .bool, _, _, _, h => by simp only [RV] at h ⊢; exact h
  | .str, _, _, _, h => by simp only [RV] at h ⊢; exact h
  | .flt _, _, _, _, h => by simp only [RV] at h ⊢; exact h
  | .sl t, hn, _, _, _ => by simp [Ty.hasSl] at hn
  | .pair a b, hn, _, _, h => by
    simp only [Ty.hasSl, Bool.or_eq_false_iff] at hn
    simp only [RV] at h ⊢
    obtain ⟨us, us', rfl, h1, h2⟩ := h
    exact ⟨us, us', rfl, RV.any a hn.1 h1, RV.any b hn.2 h2⟩
theorem RVs.any {w w' : World} {O O' : Foot} {t : Ty} (ht : t.hasSl = false) {xs : List t.El} {us : List Value} (h : RVs w O t xs us) : RVs w' O' t xs us :=
  ⟨h.1, fun i hi => RV.any t ht (h.2 i hi)⟩
theorem RVs.mono {w w' : World} {O O' : Foot} (s : Stb w O w' O') {t : Ty} {xs : List t.El} {us : List Value} (h : RVs w O t xs us) : RVs w' O' t xs us :=
  ⟨h.1, fun i hi => RV.mono s t (h.2 i hi)⟩
theorem RV_sl {w : World} {O : Foot} {t : Ty} {xs : List t.El} {v : Value} :
    RV w O (.sl t) xs [v] ↔ ∃ a c us, v = .slice a xs.length c ∧ RVs w O t xs us ∧ (us ≠ [] → ∃ b o, a = some ⟨b, o, none⟩ ∧ Lies w O b o us) ∧ xs.length ≤ c := by
  simp only [RV, RVs]
  constructor
  · rintro ⟨a, c, us, h, hl, hr, hm, hc⟩
    injection h with h
    exact ⟨a, c, us, h, ⟨hl, hr⟩, hm, hc⟩
  · rintro ⟨a, c, us, rfl, ⟨hl, hr⟩, hm, hc⟩
    exact ⟨a, c, us, rfl, hl, hr, hm, hc⟩

/-- Where a header leads. -/
def hb : Value → Option (Nat × Nat)
  | .slice (some ⟨b, o, none⟩) _ _ => some (b, o)
  | .pointer (some ⟨b, o, none⟩) => some (b, o)
  | _ => none
def hlen : Value → Nat
  | .slice _ n _ => n
  | _ => 1
def IsHd (v : Value) : Prop := (∃ a n c, v = .slice a n c) ∨ ∃ a, v = .pointer (some a)

mutual
def PR (env : Nat → Value) (D : Nat → Prop) (w : World) (O : Foot) : PV → Value → Prop
  | .val t x, v => RV w O t x [v]
  | .tst c d, v => v = .bool (@decide c d)
  | .nil, v => v = .slice none 0 0
  | .row _ _ _, _ => False
  | .box _, _ => False
  | .pt cs, v => ∃ b o us, v = .pointer (some ⟨b, o, none⟩) ∧ PRs (fun _ => undef) (fun _ => False) w O cs us ∧ Lies w O b o us
  | .agg cs, v => ∃ us, v = .agg us.toArray ∧ PRs env D w O cs us
  | .tup cs, v => ∃ us, v = .tuple us.toArray ∧ PRs env D w O cs us
  | .ref N, v => D N ∧ v = env N
  | .win N s lo n, v => D N ∧ lo + n ≤ hlen (env N) ∧ ∃ a c, v = .slice a n c ∧ n ≤ c ∧ (n ≠ 0 → ∃ b o, hb (env N) = some (b, o) ∧ a = some ⟨b, o + lo * s, none⟩)
  | .cp N i s j, v => D N ∧ i < hlen (env N) ∧ ∃ b o, hb (env N) = some (b, o) ∧ v = .pointer (some ⟨b, o + (i * s + j), none⟩)
  | .clo f cs, v => ∃ us, v = .func (.func f) #[] us.toArray ∧ PRs env D w O cs us
  | .mat _ _ _ _, _ => False
  | .hol _ _ _ _ _ _, _ => False
  | .dead, _ => True
def PRs (env : Nat → Value) (D : Nat → Prop) (w : World) (O : Foot) : List PV → List Value → Prop
  | [], us => us = []
  | p :: ps, us => ∃ u us', us = u :: us' ∧ PR env D w O p u ∧ PRs env D w O ps us'
end
section
variable {env env' : Nat → Value} {D D' : Nat → Prop} {w w' : World} {O O' : Foot}
theorem PRs_iff : (ps : List PV) → (us : List Value) → (PRs env D w O ps us ↔ ps.length = us.length ∧ ∀ (i : Nat) p u, ps[i]? = some p → us[i]? = some u → PR env D w O p u)
  | [], us => by
    simp only [PRs]
    constructor
    · rintro rfl; exact ⟨rfl, fun i p u h => by simp at h⟩
    · rintro ⟨h, _⟩; exact List.eq_nil_of_length_eq_zero h.symm
  | p :: ps, us => by
    simp only [PRs]
    constructor
    · rintro ⟨u, us', rfl, h1, h2⟩
      obtain ⟨hl, hi⟩ := (PRs_iff ps us').1 h2
      refine ⟨by simp [hl], fun i q v hq hv => ?_⟩
      cases i with
      | zero => simp at hq hv; subst hq hv; exact h1
      | succ i => simp at hq hv; exact hi i q v hq hv
    · rintro ⟨hl, hi⟩
      cases us with
      | nil => simp at hl
      | cons u us' =>
        exact ⟨u, us', rfl, hi 0 p u rfl rfl, (PRs_iff ps us').2 ⟨by simpa using hl, fun i q v hq hv => hi (i + 1) q v (by simpa using hq) (by simpa using hv)⟩⟩
mutual
theorem PR.mono0 {w w' : World} {O O' : Foot} (s : Stb w O w' O') : (env env' : Nat → Value) → (D D' : Nat → Prop) → (∀ N, D N → env' N = env N) → (∀ N, D N → D' N) → (p : PV) → (v : Value) → PR env D w O p v → PR env' D' w' O' p v
  | env, env', D, D', he, hD, .val t x, v, h => by simp only [PR] at h ⊢; exact RV.mono s t h
  | env, env', D, D', he, hD, .tst c d, v, h => by simp only [PR] at h ⊢; exact h
  | env, env', D, D', he, hD, .nil, v, h => by simp only [PR] at h ⊢; exact h
  | env, env', D, D', he, hD, .row _ _ _, _, h => by simp only [PR] at h
  | env, env', D, D', he, hD, .box _, _, h => by simp only [PR] at h
  | env, env', D, D', he, hD, .pt cs, v, h => by
    simp only [PR] at h ⊢
    obtain ⟨b, o, us, rfl, h1, h2⟩ := h
    exact ⟨b, o, us, rfl, PRs.mono0 s _ _ _ _ (fun _ h => h.elim) (fun _ h => h.elim) cs us h1, h2.mono s⟩
  | env, env', D, D', he, hD, .agg cs, v, h => by
    simp only [PR] at h ⊢
    obtain ⟨us, rfl, h1⟩ := h
    exact ⟨us, rfl, PRs.mono0 s _ _ _ _ he hD cs us h1⟩
  | env, env', D, D', he, hD, .tup cs, v, h => by
    simp only [PR] at h ⊢
    obtain ⟨us, rfl, h1⟩ := h
    exact ⟨us, rfl, PRs.mono0 s _ _ _ _ he hD cs us h1⟩
  | env, env', D, D', he, hD, .ref N, v, h => by
    simp only [PR] at h ⊢
    exact ⟨hD N h.1, h.2.trans (he N h.1).symm⟩
  | env, env', D, D', he, hD, .win N _ lo n, v, h => by
    simp only [PR] at h ⊢
    rw [he N h.1]
    exact ⟨hD N h.1, h.2⟩
  | env, env', D, D', he, hD, .cp N i _ j, v, h => by
    simp only [PR] at h ⊢
    rw [he N h.1]
    exact ⟨hD N h.1, h.2⟩
  | env, env', D, D', he, hD, .clo f cs, v, h => by
    simp only [PR] at h ⊢
    obtain ⟨us, rfl, h1⟩ := h
    exact ⟨us, rfl, PRs.mono0 s _ _ _ _ he hD cs us h1⟩
  | env, env', D, D', he, hD, .mat _ _ _ _, _, h => by simp only [PR] at h
  | env, env', D, D', he, hD, .hol _ _ _ _ _ _, _, h => by simp only [PR] at h
  | env, env', D, D', he, hD, .dead, _, _ => by simp only [PR]
theorem PRs.mono0 {w w' : World} {O O' : Foot} (s : Stb w O w' O') : (env env' : Nat → Value) → (D D' : Nat → Prop) → (∀ N, D N → env' N = env N) → (∀ N, D N → D' N) → (ps : List PV) → (us : List Value) → PRs env D w O ps us → PRs env' D' w' O' ps us
  | env, env', D, D', he, hD, [], us, h => by simp only [PRs] at h ⊢; exact h
  | env, env', D, D', he, hD, p :: ps, us, h => by
    simp only [PRs] at h ⊢
    obtain ⟨u, us', rfl, h1, h2⟩ := h
    exact ⟨u, us', rfl, PR.mono0 s _ _ _ _ he hD p u h1, PRs.mono0 s _ _ _ _ he hD ps us' h2⟩
end
theorem PR.mono (s : Stb w O w' O') (he : ∀ N, D N → env' N = env N) (hD : ∀ N, D N → D' N) (p : PV) (v : Value) (h : PR env D w O p v) : PR env' D' w' O' p v := PR.mono0 s _ _ _ _ he hD p v h
theorem PRs.mono (s : Stb w O w' O') (he : ∀ N, D N → env' N = env N) (hD : ∀ N, D N → D' N) (ps : List PV) (us : List Value) (h : PRs env D w O ps us) : PRs env' D' w' O' ps us := PRs.mono0 s _ _ _ _ he hD ps us h
end

/-- The cells of a box. -/
def Held (w : World) (b o : Nat) (us : List Value) : Prop := ∀ j u, us[j]? = some u → cl w b (o + j) = some u ∧ w.frozen? ⟨b, o + j, none⟩ = false
/-- Who stands for the i-th row. -/
def alN (al : Option (Nat × Nat)) (i : Nat) : Option Nat := match al with
  | some (j, M) => if i = j then some M else none
  | none => none
/-- A row of our own of plain elements, by its header. -/
def InRow (w : World) (e' : TypeId) (t : Ty) (u : Value) (x : List t.El) : Prop := ∃ vs, w.ownsRow 0 e' t.sz u x.length vs ∧ RVs w (fun _ _ => False) t x vs
/-- The memory of the rows and of their row. -/
def matF (v : Value) (al : Option (Nat × Nat)) (us : List Value) : Foot := fun b _ => v.ownBlock = some b ∨ ∃ i u, alN al i = none ∧ us[i]? = some u ∧ u.ownBlock = some b
structure MatOk (env : Nat → Value) (D : Nat → Prop) (w : World) (v : Value) (e e' : TypeId) (t : Ty) (xs : List (List t.El)) (al : Option (Nat × Nat)) (us : List Value) : Prop where
  own : w.ownsRow 0 e 1 v xs.length us
  flat : t.hasSl = false
  row : ∀ i u x, us[i]? = some u → xs[i]? = some x → alN al i = none → InRow w e' t u x
  ali : ∀ i M, al = some (i, M) → i < xs.length ∧ us[i]? = some (env M) ∧ D M
  dj : ∀ i j u u' b, i ≠ j → alN al i = none → alN al j = none → us[i]? = some u → us[j]? = some u' → u.ownBlock = some b → u'.ownBlock ≠ some b
  out : ∀ i u b, alN al i = none → us[i]? = some u → u.ownBlock = some b → v.ownBlock ≠ some b
/-- An object behind its header. -/
def OB (env : Nat → Value) (D : Nat → Prop) (w : World) (O : Foot) (v : Value) : PV → Foot → Prop
  | .row e t xs, F => ∃ us, w.ownsRow 0 e t.sz v xs.length us ∧ RVs w O t xs us ∧ F = fun b _ => v.ownBlock = some b
  | .box cs, F => ∃ b o us, v = .pointer (some ⟨b, o, none⟩) ∧ PRs env D w O cs us ∧ Held w b o us ∧ F = fun b' o' => b' = b ∧ o ≤ o' ∧ o' < o + cs.length
  | .mat e e' t xs, F => ∃ us, MatOk env D w v e e' t xs none us ∧ F = matF v none us
  | .hol e e' t xs i M, F => ∃ us, MatOk env D w v e e' t xs (some (i, M)) us ∧ F = matF v (some (i, M)) us
  | p, F => PR env D w O p v ∧ F = fun _ _ => False

/-- Of a block: nothing has turned but the cells of W. -/
def ObjKeep (W : Nat → Prop) (a b : Option Obj) : Prop :=
  (∀ i, W i) ∨ a = b ∨ ∃ c c' e f, a = some (.cells c e f) ∧ b = some (.cells c' e f) ∧ c.size = c'.size ∧ ∀ i, ¬ W i → c'[i]? = c[i]?
structure Keep (W : Foot) (w w' : World) : Prop where
  os : w'.os = w.os
  tape : w'.tape = w.tape
  output : w'.output = w.output
  size : w.heap.size ≤ w'.heap.size
  block : ∀ b, b < w.heap.size → ObjKeep (W b) w.heap[b]? w'.heap[b]?
theorem ObjKeep.trans {W V : Nat → Prop} {a b c : Option Obj} (h : ObjKeep W a b) (k : ObjKeep V b c) : ObjKeep (fun i => W i ∨ V i) a c := by
  rcases h with h | rfl | ⟨x, x', e, f, rfl, rfl, hs, hc⟩
  · exact .inl fun i => .inl (h i)
  · rcases k with k | rfl | ⟨y, y', e, f, rfl, rfl, hs, hc⟩
    · exact .inl fun i => .inr (k i)
    · exact .inr (.inl rfl)
    · exact .inr (.inr ⟨y, y', e, f, rfl, rfl, hs, fun i hi => hc i (fun h => hi (.inr h))⟩)
  · rcases k with k | rfl | ⟨y, y', e', f', h1, rfl, hs', hc'⟩
    · exact .inl fun i => .inr (k i)
    · exact .inr (.inr ⟨x, x', e, f, rfl, rfl, hs, fun i hi => hc i (fun h => hi (.inl h))⟩)
    · injection h1 with h1
      injection h1 with h1 h2 h3
      subst h1 h2 h3
      exact .inr (.inr ⟨x, y', e, f, rfl, rfl, hs.trans hs', fun i hi => (hc' i (fun h => hi (.inr h))).trans (hc i (fun h => hi (.inl h)))⟩)
theorem ObjKeep.mono {W V : Nat → Prop} {a b : Option Obj} (h : ObjKeep W a b) (hw : ∀ i, W i → V i) : ObjKeep V a b := by
  rcases h with h | rfl | ⟨x, x', e, f, rfl, rfl, hs, hc⟩
  · exact .inl fun i => hw i (h i)
  · exact .inr (.inl rfl)
  · exact .inr (.inr ⟨x, x', e, f, rfl, rfl, hs, fun i hi => hc i (fun h => hi (hw i h))⟩)
theorem ObjKeep.none {a b : Option Obj} (h : ObjKeep (fun _ => False) a b) : b = a := by
  rcases h with h | rfl | ⟨x, x', e, f, rfl, rfl, hs, hc⟩
  · exact (h 0).elim
  · rfl
  · have : x' = x := by
      apply Array.ext_getElem?
      exact fun i => hc i id
    rw [this]
theorem Keep.refl (W : Foot) (w : World) : Keep W w w := ⟨rfl, rfl, rfl, Nat.le_refl _, fun _ _ => .inr (.inl rfl)⟩
/-- What is written later is written already, or is new. -/
theorem Keep.trans {W V : Foot} {w0 w w' : World} (h : Keep W w0 w) (k : Keep V w w') (hv : ∀ b o, b < w0.heap.size → V b o → W b o) : Keep W w0 w' :=
  ⟨k.os.trans h.os, k.tape.trans h.tape, k.output.trans h.output, Nat.le_trans h.size k.size, fun b hb =>
    ((h.block b hb).trans (k.block b (Nat.lt_of_lt_of_le hb h.size))).mono fun i hi => hi.elim id (hv b i hb)⟩
theorem Keep.cell {W : Foot} {w w' : World} (h : Keep W w w') {b o : Nat} {u : Value} (hc : cl w b o = some u) (hw : ¬ W b o) : cl w' b o = some u := by
  have hb : b < w.heap.size := World.block_lt_of_cell? w ⟨b, o, none⟩ hc
  rcases h.block b hb with hall | he | ⟨x, x', e, f, h1, h2, hs, hk⟩
  · exact (hw (hall o)).elim
  · exact (World.cell?_of_block (w := w) (w' := w') (a := ⟨b, o, none⟩) he.symm).trans hc
  · simp only [cl, World.cell?, h1, h2] at hc ⊢
    simp at hc ⊢
    exact (hk o hw).trans hc
theorem Keep.frozen {W : Foot} {w w' : World} (h : Keep W w w') {b : Nat} (hb : b < w.heap.size) (o : Nat) (hw : ¬ W b o) : w'.frozen? ⟨b, o, none⟩ = w.frozen? ⟨b, o, none⟩ := by
  rcases h.block b hb with hall | he | ⟨x, x', e, f, h1, h2, hs, hk⟩
  · exact (hw (hall o)).elim
  · exact World.frozen?_of_block (w := w) (w' := w') (a := ⟨b, o, none⟩) he.symm
  · simp only [World.frozen?, h1, h2]
theorem Keep.obj {W : Foot} {w w' : World} (h : Keep W w w') {b : Nat} (hb : b < w.heap.size) (hw : ∀ o, ¬ W b o) : w'.heap[b]? = w.heap[b]? :=
  ((h.block b hb).mono (fun i hi => (hw i hi).elim)).none
theorem Keep.below {w w' : World} (h : Keep (fun _ _ => False) w w') : Below w.heap.size w w' :=
  ⟨h.os, h.tape, h.output, h.size, fun b hb => h.obj hb (fun _ => id)⟩
theorem Keep.drewN (W : Foot) (w : World) (n : Nat) : Keep W w (w.drewN n) := ⟨rfl, rfl, rfl, Nat.le_refl _, fun _ _ => .inr (.inl rfl)⟩
theorem Keep.alloc (W : Foot) (w : World) (o : Obj) : Keep W w (w.alloc o) :=
  ⟨rfl, rfl, rfl, by simp, fun b hb => .inr (.inl (Below.heap_alloc w o b hb).symm)⟩
theorem Keep.grown {W : Foot} {w w' : World} {row : Option Nat} (h : w.grownBy w' row) (hr : ∀ b, row = some b → b < w.heap.size → ObjKeep (W b) w.heap[b]? w'.heap[b]?) : Keep W w w' :=
  ⟨h.os, h.tape, h.output, h.size, fun b hb => by
    by_cases e : some b = row
    · exact hr b e.symm hb
    · exact .inr (.inl (h.block b hb e).symm)⟩
end Go.Proofs.Ytlpooghphoohcaa.R
/- The relation between a plain state and the machine, and its one great step. -/
namespace Go.Proofs.Ytlpooghphoohcaa.R
open Go.RowKit
set_option linter.unusedVariables false

def Ow (X : Foot) (F : Nat → Foot) : Foot := fun b o => X b o ∨ ∃ N, F N b o
structure Rl (X W0 : Foot) (w0 : World) (D : Nat → Prop) (σ : St) (a : Act) (w : World) (env : Nat → Value) (F : Nat → Foot) : Prop where
  tm : a.tmps.size = σ.sl.length
  df : a.defers = []
  sl : ∀ t, PR env D w (Ow X F) (σ.get t) (a.tmps.getD t undef)
  ob : ∀ N, OB env D w (Ow X F) (env N) (look σ.ob N) (F N)
  dj : ∀ M N b o, M ≠ N → F M b o → ¬ F N b o
  xf : ∀ N b o, F N b o → ¬ X b o
  lt : ∀ N b o, F N b o → b < w.heap.size
  xl : ∀ b o, X b o → b < w0.heap.size
  own : ∀ N b o, F N b o → b < w0.heap.size → W0 b o
  kp : Keep W0 w0 w
  dm : ∀ N, ¬ D N → look σ.ob N = .dead
  hd : ∀ N, D N → IsHd (env N)

theorem OB.dead {env : Nat → Value} {D : Nat → Prop} {w : World} {O : Foot} {v : Value} {F : Foot} (h : OB env D w O v .dead F) : F = fun _ _ => False := by
  simp only [OB] at h
  exact h.2
theorem ownsRow_blk {w : World} {base e sz n : Nat} {v : Value} {us : List Value} (h : w.ownsRow base e sz v n us) {b : Nat} (hb : v.ownBlock = some b) : b < w.heap.size := by
  rcases h.2 with ⟨rfl, _⟩ | ⟨g, cap, cur, rfl, hg, hh, rest⟩
  · simp [Value.ownBlock] at hb
  · simp [Value.ownBlock] at hb
    subst hb
    exact (Array.getElem?_eq_some_iff.1 hh).1
theorem ownsRow_mono {w w' : World} {V : Foot} (k : Keep V w w') {e sz n : Nat} {v : Value} {us : List Value} (h : w.ownsRow 0 e sz v n us) (hv : ∀ b, v.ownBlock = some b → ∀ o, ¬ V b o) : w'.ownsRow 0 e sz v n us := by
  refine ⟨h.1, ?_⟩
  rcases h.2 with h1 | ⟨g, cap, cur, rfl, hg, hh, rest⟩
  · exact .inl h1
  · refine .inr ⟨g, cap, cur, rfl, hg, ?_, rest⟩
    rw [k.obj (Array.getElem?_eq_some_iff.1 hh).1 (hv g (by simp [Value.ownBlock]))]
    exact hh
theorem InRow.mono {w w' : World} {V : Foot} (k : Keep V w w') {e' : TypeId} {t : Ty} (ht : t.hasSl = false) {u : Value} {x : List t.El} (h : InRow w e' t u x) (hv : ∀ b, u.ownBlock = some b → ∀ o, ¬ V b o) : InRow w' e' t u x := by
  obtain ⟨vs, h1, h2⟩ := h
  exact ⟨vs, ownsRow_mono k h1 hv, h2.1, fun i hi => RV.any t ht (h2.2 i hi)⟩
theorem MatOk.mono {env env' : Nat → Value} {D D' : Nat → Prop} {w w' : World} {V : Foot} (k : Keep V w w') {v : Value} {e e' : TypeId} {t : Ty} {xs : List (List t.El)} {al : Option (Nat × Nat)} {us : List Value} (h : MatOk env D w v e e' t xs al us)
    (he : ∀ N, D N → env' N = env N) (hD : ∀ N, D N → D' N) (hv : ∀ b o, matF v al us b o → ¬ V b o) : MatOk env' D' w' v e e' t xs al us :=
  ⟨ownsRow_mono k h.own fun b hb o => hv b o (.inl hb), h.flat, fun i u x hu hx ha => (h.row i u x hu hx ha).mono k h.flat fun b hb o => hv b o (.inr ⟨i, u, ha, hu, hb⟩),
    fun i M e => by obtain ⟨h1, h2, h3⟩ := h.ali i M e; exact ⟨h1, by rw [he M h3]; exact h2, hD M h3⟩, h.dj, h.out⟩
theorem MatOk.lt {env : Nat → Value} {D : Nat → Prop} {w : World} {v : Value} {e e' : TypeId} {t : Ty} {xs : List (List t.El)} {al : Option (Nat × Nat)} {us : List Value} (h : MatOk env D w v e e' t xs al us) {b o : Nat} (hb : matF v al us b o) : b < w.heap.size := by
  rcases hb with hb | ⟨i, u, ha, hu, hb⟩
  · exact ownsRow_blk h.own hb
  · have hl : us.length = xs.length := by rw [h.own.1, Nat.mul_one]
    have hi := (List.getElem?_eq_some_iff.1 hu).1
    obtain ⟨vs, h1, _⟩ := h.row i u xs[i] hu (List.getElem?_eq_getElem (by omega)) ha
    exact ownsRow_blk h1 hb
theorem OB.mono {env env' : Nat → Value} {D D' : Nat → Prop} {w w' : World} {O O' V F : Foot} {v : Value} (s : Stb w O w' O') (he : ∀ N, D N → env' N = env N) (hD : ∀ N, D N → D' N)
    (k : Keep V w w') (hv : ∀ b o, F b o → b < w.heap.size ∧ ¬ V b o) (p : PV) (h : OB env D w O v p F) : OB env' D' w' O' v p F := by
  cases p with
  | row e t xs =>
    simp only [OB] at h ⊢
    obtain ⟨us, ho, hr, rfl⟩ := h
    refine ⟨us, ⟨ho.1, ?_⟩, hr.mono s, rfl⟩
    rcases ho.2 with h1 | ⟨g, cap, cur, rfl, hg, hh, rest⟩
    · exact .inl h1
    · refine .inr ⟨g, cap, cur, rfl, hg, ?_, rest⟩
      have hv' := fun o => hv g o (by simp [Value.ownBlock])
      rw [k.obj (hv' 0).1 (fun o => (hv' o).2)]
      exact hh
  | box cs =>
    simp only [OB] at h ⊢
    obtain ⟨b, o, us, rfl, hp, hh, rfl⟩ := h
    refine ⟨b, o, us, rfl, PRs.mono s he hD _ _ hp, fun j u hu => ?_, rfl⟩
    obtain ⟨h1, h2⟩ := hh j u hu
    have hl := (PRs_iff _ _).1 hp |>.1
    have hj : j < us.length := (List.getElem?_eq_some_iff.1 hu).1
    obtain ⟨h3, h4⟩ := hv b (o + j) ⟨rfl, by omega, by omega⟩
    exact ⟨k.cell h1 h4, (k.frozen h3 _ h4).trans h2⟩
  | mat e e' t xs =>
    simp only [OB] at h ⊢
    obtain ⟨us, h1, rfl⟩ := h
    exact ⟨us, h1.mono k he hD (fun b o hb => (hv b o hb).2), rfl⟩
  | hol e e' t xs i M =>
    simp only [OB] at h ⊢
    obtain ⟨us, h1, rfl⟩ := h
    exact ⟨us, h1.mono k he hD (fun b o hb => (hv b o hb).2), rfl⟩
  | val t x => simp only [OB] at h ⊢; exact ⟨PR.mono s he hD _ _ h.1, h.2⟩
  | tst c d => simp only [OB] at h ⊢; exact ⟨PR.mono s he hD _ _ h.1, h.2⟩
  | nil => simp only [OB] at h ⊢; exact ⟨PR.mono s he hD _ _ h.1, h.2⟩
  | pt cs => simp only [OB] at h ⊢; exact ⟨PR.mono s he hD _ _ h.1, h.2⟩
  | agg cs => simp only [OB] at h ⊢; exact ⟨PR.mono s he hD _ _ h.1, h.2⟩
  | tup cs => simp only [OB] at h ⊢; exact ⟨PR.mono s he hD _ _ h.1, h.2⟩
  | ref N => simp only [OB] at h ⊢; exact ⟨PR.mono s he hD _ _ h.1, h.2⟩
  | win N s' lo n => simp only [OB] at h ⊢; exact ⟨PR.mono s he hD _ _ h.1, h.2⟩
  | cp N i s' j => simp only [OB] at h ⊢; exact ⟨PR.mono s he hD _ _ h.1, h.2⟩
  | clo f cs => simp only [OB] at h ⊢; exact ⟨PR.mono s he hD _ _ h.1, h.2⟩
  | dead => simp only [OB] at h ⊢; exact ⟨PR.mono s he hD _ _ h.1, h.2⟩

/-- Objects of T are told anew; memory is written at theirs alone. -/
theorem Rl.step' {X W0 : Foot} {w0 : World} {D D' : Nat → Prop} {σ σ' : St} {a : Act} {w w' : World} {env env' : Nat → Value} {F F' : Nat → Foot} {V : Foot} (T : Nat → Prop)
    (h : Rl X W0 w0 D σ a w env F) (hsl : σ'.sl = σ.sl) (hk : Keep V w w') (hV : ∀ b o, V b o → ∃ N, T N ∧ F N b o)
    (hun : ∀ N, ¬ T N → look σ'.ob N = look σ.ob N ∧ F' N = F N ∧ env' N = env N)
    (hF : ∀ N, T N → ∀ b o, F' N b o → (∃ M, T M ∧ F M b o) ∨ w.heap.size ≤ b)
    (hlt : ∀ N, T N → ∀ b o, F' N b o → b < w'.heap.size)
    (hdj : ∀ M N b o, T M → T N → M ≠ N → F' M b o → ¬ F' N b o)
    (henv : ∀ N, D N → env' N = env N) (hD : ∀ N, D N → D' N) (hhd : ∀ N, D' N → IsHd (env' N)) (hdm : ∀ N, ¬ D' N → look σ'.ob N = .dead)
    (hT : Stb w (Ow X F) w' (Ow X F') → ∀ N, T N → OB env' D' w' (Ow X F') (env' N) (look σ'.ob N) (F' N)) :
    Rl X W0 w0 D' σ' a w' env' F' ∧ Stb w (Ow X F) w' (Ow X F') := by
  have hs : Stb w (Ow X F) w' (Ow X F') := by
    intro b o u hc hn
    have hb : b < w.heap.size := World.block_lt_of_cell? w ⟨b, o, none⟩ hc
    refine ⟨hk.cell hc fun hv => ?_, ?_⟩
    · obtain ⟨N, _, hN⟩ := hV b o hv
      exact hn (.inr ⟨N, hN⟩)
    · rintro (hx | ⟨N, hN⟩)
      · exact hn (.inl hx)
      · by_cases ht : T N
        · rcases hF N ht b o hN with ⟨M, _, hM⟩ | hb'
          · exact hn (.inr ⟨M, hM⟩)
          · omega
        · rw [(hun N ht).2.1] at hN
          exact hn (.inr ⟨N, hN⟩)
  have old : ∀ N b o, F' N b o → (∃ M, F M b o) ∨ w.heap.size ≤ b := by
    intro N b o hN
    by_cases ht : T N
    · exact (hF N ht b o hN).imp (fun ⟨M, _, hM⟩ => ⟨M, hM⟩) id
    · rw [(hun N ht).2.1] at hN
      exact .inl ⟨N, hN⟩
  refine ⟨⟨by rw [hsl]; exact h.tm, h.df, fun t => ?_, fun N => ?_, ?_, ?_, ?_, h.xl, ?_, ?_, hdm, hhd⟩, hs⟩
  · have := h.sl t
    simp only [St.get, hsl] at this ⊢
    exact PR.mono hs henv hD _ _ this
  · by_cases ht : T N
    · exact hT hs N ht
    · obtain ⟨h1, h2, h3⟩ := hun N ht
      rw [h1, h2, h3]
      refine OB.mono hs henv hD hk (fun b o hb => ⟨h.lt N b o hb, fun hv => ?_⟩) _ (h.ob N)
      obtain ⟨M, hM, hm⟩ := hV b o hv
      exact h.dj M N b o (fun e => ht (e ▸ hM)) hm hb
  · intro M N b o hne hM
    by_cases hm : T M <;> by_cases hn : T N
    · exact hdj M N b o hm hn hne hM
    · rw [(hun N hn).2.1]
      intro hN
      rcases hF M hm b o hM with ⟨M', hm', hM'⟩ | hb
      · exact h.dj M' N b o (fun e => hn (e ▸ hm')) hM' hN
      · have := h.lt N b o hN; omega
    · rw [(hun M hm).2.1] at hM
      intro hN
      rcases hF N hn b o hN with ⟨M', hm', hM'⟩ | hb
      · exact h.dj M' M b o (fun e => hm (e ▸ hm')) hM' hM
      · have := h.lt M b o hM; omega
    · rw [(hun M hm).2.1] at hM
      rw [(hun N hn).2.1]
      exact h.dj M N b o hne hM
  · intro N b o hN hx
    rcases old N b o hN with ⟨M, hM⟩ | hb
    · exact h.xf M b o hM hx
    · have := h.xl b o hx
      have := h.kp.size
      omega
  · intro N b o hN
    by_cases ht : T N
    · exact hlt N ht b o hN
    · rw [(hun N ht).2.1] at hN
      exact Nat.lt_of_lt_of_le (h.lt N b o hN) hk.size
  · intro N b o hN hb
    rcases old N b o hN with ⟨M, hM⟩ | hb'
    · exact h.own M b o hM hb
    · have := h.kp.size; omega
  · refine h.kp.trans hk fun b o hb hv => ?_
    obtain ⟨M, _, hM⟩ := hV b o hv
    exact h.own M b o hM hb

theorem Rl.step {X W0 : Foot} {w0 : World} {D D' : Nat → Prop} {σ σ' : St} {a : Act} {w w' : World} {env env' : Nat → Value} {F F' : Nat → Foot} {V : Foot} (T : Nat → Prop)
    (h : Rl X W0 w0 D σ a w env F) (hsl : σ'.sl = σ.sl) (hk : Keep V w w') (hV : ∀ b o, V b o → ∃ N, T N ∧ F N b o)
    (hun : ∀ N, ¬ T N → look σ'.ob N = look σ.ob N ∧ F' N = F N ∧ env' N = env N)
    (hF : ∀ N, T N → ∀ b o, F' N b o → (∃ M, T M ∧ F M b o) ∨ w.heap.size ≤ b)
    (hlt : ∀ N, T N → ∀ b o, F' N b o → b < w'.heap.size)
    (hdj : ∀ M N b o, T M → T N → M ≠ N → F' M b o → ¬ F' N b o)
    (henv : ∀ N, D N → env' N = env N) (hD : ∀ N, D N → D' N) (hhd : ∀ N, D' N → IsHd (env' N)) (hdm : ∀ N, ¬ D' N → look σ'.ob N = .dead)
    (hT : Stb w (Ow X F) w' (Ow X F') → ∀ N, T N → OB env' D' w' (Ow X F') (env' N) (look σ'.ob N) (F' N)) :
    Rl X W0 w0 D' σ' a w' env' F' := (h.step' T hsl hk hV hun hF hlt hdj henv hD hhd hdm hT).1
/-- A slot is told anew. -/
theorem Rl.put {X W0 : Foot} {w0 : World} {D : Nat → Prop} {σ : St} {a : Act} {w : World} {env : Nat → Value} {F : Nat → Foot}
    (h : Rl X W0 w0 D σ a w env F) (d : Nat) {p : PV} {v : Value} (hp : PR env D w (Ow X F) p v) : Rl X W0 w0 D (σ.upd (.sl d p)) (a.put (some d) v) w env F := by
  refine ⟨by simp [Act.put, St.upd, h.tm], h.df, fun t => ?_, h.ob, h.dj, h.xf, h.lt, h.xl, h.own, h.kp, h.dm, h.hd⟩
  have ht := h.sl t
  simp only [St.get, St.upd, Act.put] at ht ⊢
  by_cases e : t = d
  · subst e
    by_cases hl : t < σ.sl.length
    · have : (σ.sl.set t p).getD t .dead = p := by simp [List.getD_eq_getElem?_getD, hl]
      rw [this]
      have : (a.tmps.setIfInBounds t v).getD t undef = v := by simp [Array.getD_eq_getD_getElem?, h.tm, hl]
      rw [this]
      exact hp
    · have : (σ.sl.set t p).getD t .dead = .dead := by simp [List.getD_eq_getElem?_getD, hl]
      rw [this]
      simp only [PR]
  · have h1 : (σ.sl.set d p).getD t .dead = σ.sl.getD t .dead := by simp [List.getD_eq_getElem?_getD, List.getElem?_set_ne (Ne.symm e)]
    have h2 : (a.tmps.setIfInBounds d v).getD t undef = a.tmps.getD t undef := by simp [Array.getD_eq_getD_getElem?, Array.getElem?_setIfInBounds_ne (Ne.symm e)]
    rw [h1, h2]
    exact ht
theorem Rl.puto {X W0 : Foot} {w0 : World} {D : Nat → Prop} {σ : St} {a : Act} {w : World} {env : Nat → Value} {F : Nat → Foot}
    (h : Rl X W0 w0 D σ a w env F) (o : Oper) {p : PV} {v : Value} (hp : PR env D w (Ow X F) p v) : Rl X W0 w0 D (σ.apply (Go.Proofs.Ytlpooghphoohcaa.R.put o p)) (a.put o.dst v) w env F := by
  unfold Go.Proofs.Ytlpooghphoohcaa.R.put
  cases ho : o.dst with
  | none => exact h
  | some d => exact h.put d hp
theorem St.apply_append (σ : St) (us vs : List Upd) : σ.apply (us ++ vs) = (σ.apply us).apply vs := by simp [St.apply]
theorem St.apply_cons (σ : St) (u : Upd) (vs : List Upd) : σ.apply (u :: vs) = (σ.upd u).apply vs := rfl
/-- The world alone has turned, elsewhere. -/
theorem Rl.world {X W0 : Foot} {w0 : World} {D : Nat → Prop} {σ : St} {a : Act} {w w' : World} {env : Nat → Value} {F : Nat → Foot}
    (h : Rl X W0 w0 D σ a w env F) (hk : Keep (fun _ _ => False) w w') : Rl X W0 w0 D σ a w' env F :=
  h.step (fun _ => False) rfl hk (fun _ _ h => h.elim) (fun _ _ => ⟨rfl, rfl, rfl⟩) (fun _ h => h.elim) (fun _ h => h.elim) (fun _ _ _ _ h => h.elim) (fun _ _ => rfl) (fun _ h => h) h.hd h.dm (fun _ _ h => h.elim)
theorem look_upd (l : List (Nat × PV)) (N M : Nat) (p : PV) : look ((N, p) :: l) M = if N = M then p else look l M := rfl
/-- One object is told anew. -/
theorem Rl.one {X W0 : Foot} {w0 : World} {D : Nat → Prop} {σ : St} {a : Act} {w w' : World} {env : Nat → Value} {F : Nat → Foot} {V G : Foot} {v : Value} (N : Nat) (p : PV)
    (h : Rl X W0 w0 D σ a w env F) (hk : Keep V w w') (hV : ∀ b o, V b o → F N b o)
    (hG : ∀ b o, G b o → F N b o ∨ w.heap.size ≤ b) (hlt : ∀ b o, G b o → b < w'.heap.size) (henv : D N → v = env N) (hhd : IsHd v)
    (hT : ∀ env', env' N = v → (∀ M, D M → env' M = env M) → Stb w (Ow X F) w' (Ow X fun M => if M = N then G else F M) → OB env' (fun M => D M ∨ M = N) w' (Ow X fun M => if M = N then G else F M) v p G) :
    Rl X W0 w0 (fun M => D M ∨ M = N) (σ.upd (.ob N p)) a w' (fun M => if M = N then v else env M) (fun M => if M = N then G else F M) ∧ Stb w (Ow X F) w' (Ow X fun M => if M = N then G else F M) ∧ (∀ M, D M → (if M = N then v else env M) = env M) := by
  have e1 : ∀ M, D M → (if M = N then v else env M) = env M := by
    intro M hM
    split
    · rename_i e; subst e; exact henv hM
    · rfl
  refine and_assoc.1 ⟨h.step' (· = N) rfl hk (fun b o hv => ⟨N, rfl, hV b o hv⟩) ?_ ?_ ?_ ?_ e1 (fun M hM => .inl hM) ?_ ?_ ?_, e1⟩
  · intro M hM
    refine ⟨?_, by simp [hM], by simp [hM]⟩
    simp only [St.upd, look_upd]
    rw [if_neg (fun e => hM e.symm)]
  · rintro M rfl b o hM
    simp only [if_true] at hM
    exact (hG b o hM).imp (fun h => ⟨M, rfl, h⟩) id
  · rintro M rfl b o hM
    simp only [if_true] at hM
    exact hlt b o hM
  · rintro M M' b o rfl rfl hne
    exact (hne rfl).elim
  · rintro M (hM | rfl)
    · have := e1 M hM
      simp only [this]
      exact h.hd M hM
    · simpa using hhd
  · intro M hM
    simp only [not_or] at hM
    simp only [St.upd, look_upd]
    rw [if_neg (fun e => hM.2 e.symm)]
    exact h.dm M hM.1
  · rintro hs M rfl
    have := hT _ (by simp) e1 hs
    simpa [St.upd, look_upd] using this
/-- On from a relation: names keep their headers, and what is read stays. -/
def On (X W0 : Foot) (w0 : World) (D : Nat → Prop) (w : World) (env : Nat → Value) (F : Nat → Foot) (D' : Nat → Prop) (σ' : St) (a' : Act) (w' : World) : Prop :=
  ∃ env' F', Rl X W0 w0 D' σ' a' w' env' F' ∧ Stb w (Ow X F) w' (Ow X F') ∧ (∀ M, D M → env' M = env M)
theorem On.refl {X W0 : Foot} {w0 : World} {D : Nat → Prop} {σ : St} {a : Act} {w : World} {env : Nat → Value} {F : Nat → Foot} (h : Rl X W0 w0 D σ a w env F) : On X W0 w0 D w env F D σ a w := ⟨env, F, h, Stb.refl _ _, fun _ _ => rfl⟩
theorem On.trans {X W0 : Foot} {w0 : World} {D D1 D2 : Nat → Prop} {σ1 σ2 : St} {a1 a2 : Act} {w w1 w2 : World} {env : Nat → Value} {F : Nat → Foot} (h : On X W0 w0 D w env F D1 σ1 a1 w1) (hD : ∀ M, D M → D1 M)
    (k : ∀ env1 F1, Rl X W0 w0 D1 σ1 a1 w1 env1 F1 → Stb w (Ow X F) w1 (Ow X F1) → (∀ M, D M → env1 M = env M) → On X W0 w0 D1 w1 env1 F1 D2 σ2 a2 w2) : On X W0 w0 D w env F D2 σ2 a2 w2 := by
  obtain ⟨env1, F1, h1, s1, e1⟩ := h
  obtain ⟨env2, F2, h2, s2, e2⟩ := k env1 F1 h1 s1 e1
  exact ⟨env2, F2, h2, s1.trans s2, fun M hM => (e2 M (hD M hM)).trans (e1 M hM)⟩
end Go.Proofs.Ytlpooghphoohcaa.R
/- What each operation does to the machine is what `core` tells: operations that leave the memory. -/
namespace Go.Proofs.Ytlpooghphoohcaa.R
open Go.RowKit
set_option linter.unusedVariables false
set_option linter.unusedSimpArgs false

def R (X W0 : Foot) (w0 : World) (D : Nat → Prop) (σ : St) (a : Act) (w : World) : Prop := ∃ env F, Rl X W0 w0 D σ a w env F
def Fresh (D : Nat → Prop) (nm : Nat) : Nat → Prop := fun M => D M ∨ (nm ≤ M ∧ M < nm + 64)
theorem Rl.grow {X W0 : Foot} {w0 : World} {D D' : Nat → Prop} {σ : St} {a : Act} {w : World} {env : Nat → Value} {F : Nat → Foot} (h : Rl X W0 w0 D σ a w env F) (hD : ∀ N, D N → D' N) :
    ∃ env' F', Rl X W0 w0 D' σ a w env' F' := by
  classical
  refine ⟨fun N => if D N then env N else .slice none 0 0, F, h.step (fun N => ¬ D N) rfl (Keep.refl (fun _ _ => False) w) (fun _ _ h => h.elim) ?_ ?_ ?_ ?_ ?_ hD ?_ ?_ ?_⟩
  · intro N hN
    simp only [Classical.not_not] at hN
    simp [hN]
  · intro N hN b o hb
    exact .inl ⟨N, hN, hb⟩
  · intro N hN b o hb
    exact h.lt N b o hb
  · intro M N b o _ _ hne hM
    exact h.dj M N b o hne hM
  · intro N hN; simp [hN]
  · intro N hN
    by_cases hd : D N
    · simpa [hd] using h.hd N hd
    · simp [hd, IsHd]
  · intro N hN
    exact h.dm N fun hd => hN (hD N hd)
  · intro s N hN
    have := h.ob N
    rw [h.dm N hN] at this ⊢
    simp only [OB, PR] at this ⊢
    exact ⟨trivial, this.2⟩
theorem R.grow {X W0 : Foot} {w0 : World} {D D' : Nat → Prop} {σ : St} {a : Act} {w : World} (h : R X W0 w0 D σ a w) (hD : ∀ N, D N → D' N) : R X W0 w0 D' σ a w := by
  obtain ⟨env, F, h⟩ := h
  exact h.grow hD

/-- An operation turns σ to σ.apply us, whatever the machine. -/
def OpOk (P : Program) (nm : Nat) (o : Oper) (σ : St) (us : List Upd) : Prop :=
  ∀ (X W0 : Foot) (w0 : World) (D : Nat → Prop) (a : Act) (w : World) (K : Act → World → Prop) (Q : Exit → Act → World → Prop),
    (∀ M, nm ≤ M → M < nm + 64 → ¬ D M) → R X W0 w0 D σ a w → (∀ a' w', R X W0 w0 (Fresh D nm) (σ.apply us) a' w' → K a' w') → o.wp P a w K Q
theorem wp_value {P : Program} {o : Oper} {a : Act} {w w' : World} {v : Value} {K : Act → World → Prop} {Q : Exit → Act → World → Prop}
    (h : (execOp a.eval o).run P w = .ok (.value v) w') (hk : K (a.put o.dst v) w') : o.wp P a w K Q := by
  unfold Oper.wp
  rw [h]
  exact hk
theorem wp_skipv {P : Program} {o : Oper} {a : Act} {w w' : World} {K : Act → World → Prop} {Q : Exit → Act → World → Prop}
    (h : (execOp a.eval o).run P w = .ok .skip w') (hk : K (a.put o.dst undef) w') : o.wp P a w K Q := by
  unfold Oper.wp
  rw [h]
  exact hk
/-- A result out of slots and memory, the memory left as it is. -/
theorem ok_pure {P : Program} {nm : Nat} {o : Oper} {σ : St} {p : PV}
    (h : ∀ (X W0 : Foot) (w0 : World) (D : Nat → Prop) (a : Act) (w : World) env F, Rl X W0 w0 D σ a w env F → ∃ v, (execOp a.eval o).run P w = .ok (.value v) w ∧ PR env D w (Ow X F) p v) :
    OpOk P nm o σ (put o p) := by
  intro X W0 w0 D a w K Q _ hR hk
  obtain ⟨env, F, hR⟩ := hR
  obtain ⟨v, hv, hp⟩ := h X W0 w0 D a w env F hR
  exact wp_value hv (hk _ _ (R.grow ⟨env, F, hR.puto o hp⟩ fun N h => .inl h))

section
variable {X W0 : Foot} {w0 : World} {D : Nat → Prop} {σ : St} {a : Act} {w : World} {env : Nat → Value} {F : Nat → Foot}
theorem PR_const1 (v : Value) : PR env D w (Ow X F) (ofConst1 v) v := by
  unfold ofConst1
  split <;> simp [PR, RV]
theorem PRs_const1 : (vs : List Value) → PRs env D w (Ow X F) (vs.map ofConst1) vs
  | [] => by simp [PRs]
  | v :: vs => by
    simp only [List.map_cons, PRs]
    exact ⟨v, vs, rfl, PR_const1 v, PRs_const1 vs⟩
theorem PR_const (v : Value) : PR env D w (Ow X F) (ofConst v) v := by
  unfold ofConst
  split
  · simp only [PR]
    rename_i cs
    exact ⟨cs.toList, by simp, PRs_const1 _⟩
  · simp only [PR]
    rename_i cs
    exact ⟨cs.toList, by simp, PRs_const1 _⟩
  · exact PR_const1 v
theorem Rl.ev (h : Rl X W0 w0 D σ a w env F) (x : Operand) : PR env D w (Ow X F) (σ.eval x) (a.eval x) := by
  cases x with
  | tmp t => exact h.sl t
  | const v => exact PR_const v
  | global g => simp [St.eval, PR]
  | func f => simp [St.eval, Act.eval, PR, PRs]
end

section
variable {P : Program} {nm : Nat} {o : Oper} {σ : St}
theorem ok_move {x : Operand} (ho : o.op = .move x ∨ o.op = .assign x) : OpOk P nm o σ (put o (σ.eval x)) :=
  ok_pure fun X W0 w0 D a w env F h => ⟨a.eval x, by rcases ho with ho | ho <;> simp [execOp, ho, Sem.run, pure], h.ev x⟩
theorem ok_nilCheck {x : Operand} (ho : o.op = .nilCheck x) (hp : (∃ N, σ.eval x = .ref N ∧ ∃ cs, look σ.ob N = .box cs ∨ look σ.ob N = .pt cs) ∨ (∃ N i s j, σ.eval x = .cp N i s j) ∨ ∃ cs, σ.eval x = .pt cs) :
    OpOk P nm o σ (put o (σ.eval x)) :=
  ok_pure fun X W0 w0 D a w env F h => by
    have he := h.ev x
    have : ∃ ad, a.eval x = .pointer (some ad) := by
      rcases hp with ⟨N, e, cs, hc⟩ | ⟨N, i, s, j, e⟩ | ⟨cs, e⟩
      · rw [e] at he
        simp only [PR] at he
        have hob := h.ob N
        rcases hc with hc | hc
        · rw [hc] at hob
          simp only [OB] at hob
          obtain ⟨b, o, us, hv, _⟩ := hob
          exact ⟨_, he.2.trans hv⟩
        · rw [hc] at hob
          simp only [OB, PR] at hob
          obtain ⟨⟨b, o, us, hv, _⟩, _⟩ := hob
          exact ⟨_, he.2.trans hv⟩
      · rw [e] at he
        simp only [PR] at he
        obtain ⟨_, _, b, o, _, hv⟩ := he
        exact ⟨_, hv⟩
      · rw [e] at he
        simp only [PR] at he
        obtain ⟨b, o, us, hv, _⟩ := he
        exact ⟨_, hv⟩
    obtain ⟨ad, hv⟩ := this
    exact ⟨a.eval x, by simp [execOp, ho, hv, Sem.run, pure], he⟩

theorem run_binOp_int {t : TypeId} {op : BinOp} {i : IntKind} {a b : Int} {w : World} {v : Value}
    (h : (match op with | .add | .sub | .mul => Op.intArith op i a b | .quo | .rem => Op.intDiv op i a b | .and | .or | .xor | .andNot => Op.intBits op i a b | _ => Op.intCmp op a b : Sem Value).run P w = .ok v w)
    (hs : op ≠ .shl) (hr : op ≠ .shr) : (Go.binOp op t (.int i a) (.int i b)).run P w = .ok v w := by
  cases op <;> simp_all [Go.binOp]
theorem binI_ok {A : Type} {op : BinOp} {lit : Bool} {i : IntKind} {a b : Int} {k : PV → Prop} (hl : lit = true → b ≠ 0) (h : binI False op lit i a b k) :
    ∃ p, k p ∧ ∀ (P : Program) (t : TypeId) (env : Nat → Value) (D : Nat → Prop) (w : World) (O : Foot), ∃ v, (Go.binOp op t (.int i a) (.int i b)).run P w = .ok v w ∧ PR env D w O p v := by
  cases op <;> simp only [binI, wr_eq] at h
  case add => exact ⟨_, h, fun P t env D w O => ⟨_, run_binOp_int (by simp [Op.intArith, Sem.run, pure]; rfl) (by simp) (by simp), by simp [PR, RV]⟩⟩
  case sub => exact ⟨_, h, fun P t env D w O => ⟨_, run_binOp_int (by simp [Op.intArith, Sem.run, pure]; rfl) (by simp) (by simp), by simp [PR, RV]⟩⟩
  case mul => exact ⟨_, h, fun P t env D w O => ⟨_, run_binOp_int (by simp [Op.intArith, Sem.run, pure]; rfl) (by simp) (by simp), by simp [PR, RV]⟩⟩
  case quo =>
    have hb : b ≠ 0 ∧ k (.val (.int i) (i.wrap (a.tdiv b))) := by
      split at h
      · exact ⟨hl ‹_›, h⟩
      · split at h
        · exact ⟨‹_›, h⟩
        · exact h.elim
    exact ⟨_, hb.2, fun P t env D w O => ⟨_, run_binOp_int (by simp [Op.intDiv, hb.1, Sem.run, pure]; rfl) (by simp) (by simp), by simp [PR, RV]⟩⟩
  case rem =>
    have hb : b ≠ 0 ∧ k (.val (.int i) (a.tmod b)) := by
      split at h
      · exact ⟨hl ‹_›, h⟩
      · split at h
        · exact ⟨‹_›, h⟩
        · exact h.elim
    exact ⟨_, hb.2, fun P t env D w O => ⟨_, run_binOp_int (by simp [Op.intDiv, hb.1, Sem.run, pure]; rfl) (by simp) (by simp), by simp [PR, RV]⟩⟩
  case and => exact ⟨_, h, fun P t env D w O => ⟨_, run_binOp_int (by simp [Op.intBits, Sem.run, pure]; rfl) (by simp) (by simp), by simp [PR, RV]⟩⟩
  case eql => exact ⟨_, h, fun P t env D w O => ⟨_, run_binOp_int (by simp [Op.intCmp, Sem.run, pure]; rfl) (by simp) (by simp), by simp [PR]; rw [Bool.eq_iff_iff]; simp⟩⟩
  case neq => exact ⟨_, h, fun P t env D w O => ⟨_, run_binOp_int (by simp [Op.intCmp, Sem.run, pure]; rfl) (by simp) (by simp), by simp [PR]; rw [Bool.eq_iff_iff]; simp⟩⟩
  case lss => exact ⟨_, h, fun P t env D w O => ⟨_, run_binOp_int (by simp [Op.intCmp, Sem.run, pure]; rfl) (by simp) (by simp), by simp [PR]⟩⟩
  case leq => exact ⟨_, h, fun P t env D w O => ⟨_, run_binOp_int (by simp [Op.intCmp, Sem.run, pure]; rfl) (by simp) (by simp), by simp [PR]⟩⟩
  case gtr => exact ⟨_, h, fun P t env D w O => ⟨_, run_binOp_int (by simp [Op.intCmp, Sem.run, pure]; rfl) (by simp) (by simp), by simp [PR]⟩⟩
  case geq => exact ⟨_, h, fun P t env D w O => ⟨_, run_binOp_int (by simp [Op.intCmp, Sem.run, pure]; rfl) (by simp) (by simp), by simp [PR]⟩⟩
theorem shI_ok {op : BinOp} {i j : IntKind} {a b : Int} {k : PV → Prop} (h : shI False op i a b k) :
    ∃ p, k p ∧ ∀ (P : Program) (t : TypeId) (env : Nat → Value) (D : Nat → Prop) (w : World) (O : Foot), ∃ v, (Go.binOp op t (.int i a) (.int j b)).run P w = .ok v w ∧ PR env D w O p v := by
  cases op <;> simp only [shI, wr_eq] at h
  all_goals
    split at h
    · rename_i hb
      have hb' : ¬ b < 0 := by omega
      exact ⟨_, h, fun P t env D w O => ⟨_, by simp [Go.binOp, Op.shift, hb', Sem.run, pure]; rfl, by simp [PR, RV]⟩⟩
    · exact h.elim
theorem binF_ok {op : BinOp} {i : FloatKind} {a b : Nat} {k : PV → Prop} (h : binF False op i a b k) :
    ∃ p, k p ∧ ∀ (P : Program) (t : TypeId) (env : Nat → Value) (D : Nat → Prop) (w : World) (O : Foot), ∃ v, (Go.binOp op t (.float i a) (.float i b)).run P w = .ok v w ∧ PR env D w O p v := by
  cases op <;> simp only [binF, optF] at h
  case lss => exact ⟨_, h, fun P t env D w O => ⟨_, by simp [Go.binOp, Op.floatCmp, Sem.run, pure]; rfl, by simp [PR, RV]⟩⟩
  case gtr => exact ⟨_, h, fun P t env D w O => ⟨_, by simp [Go.binOp, Op.floatCmp, Sem.run, pure]; rfl, by simp [PR, RV]⟩⟩
  all_goals
    split at h
    · rename_i n e
      exact ⟨_, h, fun P t env D w O => ⟨.float i n, by simp [Go.binOp, Op.floatArith, e, Sem.run, pure, bind, Sem.bind], by simp [PR, RV]⟩⟩
    · exact h.elim
end
end Go.Proofs.Ytlpooghphoohcaa.R
/- Operations that leave the memory, all of them but loads. -/
namespace Go.Proofs.Ytlpooghphoohcaa.R
open Go.RowKit
set_option linter.unusedVariables false
set_option linter.unusedSimpArgs false

theorem run_eqGuard {P : Program} {op : BinOp} {t : TypeId} {x y : Operand} {u v : Value} {w : World} (hu : (∀ cs, u ≠ .agg cs) ∧ u ≠ .nilIface) : (eqGuard op t x y u v).run P w = .ok () w := by
  obtain ⟨h1, h2⟩ := hu
  cases u <;> first | exact absurd rfl h2 | exact absurd rfl (h1 _) | (cases op <;> simp [eqGuard, Sem.run, pure, bind, Sem.bind])
theorem run_binOp_bool {P : Program} {op : BinOp} {t : TypeId} {a b : Bool} {w : World} (hb : isB P t = true) {k : PV → Prop} (h : binB False (isB P t) op a b k) :
    ∃ p, k p ∧ ∀ (env : Nat → Value) (D : Nat → Prop) (w : World) (O : Foot), ∃ v, (Go.binOp op t (.bool a) (.bool b)).run P w = .ok v w ∧ PR env D w O p v := by
  have hu : P.underlying t = some .bool := by
    unfold isB at hb
    split at hb
    · assumption
    · cases hb
  have he : ∀ w, (Op.equal t (.bool a) (.bool b)).run P w = .ok (a == b) w := fun w => run_equalIn_bool' w 9999 t a b hu
  simp only [binB, hb, if_true] at h
  cases op <;> simp only [] at h
  case eql => exact ⟨_, h, fun env D w O => ⟨.bool (a == b), by
    show ((do pure (Value.bool (← Op.equal t (.bool a) (.bool b)))) : Sem Value).run P w = _
    rw [Sem.run_bind, he w]; rfl, by simp [PR]; rw [Bool.eq_iff_iff]; simp⟩⟩
  case neq => exact ⟨_, h, fun env D w O => ⟨.bool (!(a == b)), by
    show ((do pure (Value.bool (!(← Op.equal t (.bool a) (.bool b))))) : Sem Value).run P w = _
    rw [Sem.run_bind, he w]; rfl, by simp [PR]; rw [Bool.eq_iff_iff]; simp⟩⟩
theorem part_int {P : Program} {w : World} {t : TypeId} {k : IntKind} (hu : P.underlying t = some (.int k)) {pu us : List Value} {v : Value} {i off : Nat} (ho : off = i) (hi : pu.length = i) : (part t (pu ++ v :: us).toArray off).run P w = .ok v w := by
  have hx : (pu ++ v :: us)[off]? = some v := by
    rw [ho, ← hi, List.getElem?_append_right (Nat.le_refl _)]
    simp
  simp [part, isAgg, run_underlying hu, hx]
theorem flatFs_ok {P : Program} {w : World} (d : Nat) : (fs : List Field) → (i : Nat) → (xs ys : List PV) → (as bs : List Int) → (us vs pu pv : List Value) → flatFs P fs i = true → fs.length = xs.length → eqCs xs ys = some (as, bs) → pu.length = i → pv.length = i →
    (∀ (env : Nat → Value) (D : Nat → Prop) (O : Foot), PRs env D w O xs us → PRs env D w O ys vs → (Op.eqFields (d + 1) (pu ++ us).toArray (pv ++ vs).toArray fs).run P w = .ok (decide (as = bs)) w)
  | [], i, xs, ys, as, bs, us, vs, pu, pv, _, hl, he, _, _ => by
    intro env D O _ _
    have : xs = [] := List.eq_nil_of_length_eq_zero hl.symm
    subst this
    cases ys with
    | cons y ys => simp [eqCs] at he
    | nil =>
      simp only [eqCs, Option.some.injEq, Prod.mk.injEq] at he
      obtain ⟨rfl, rfl⟩ := he
      rfl
  | f :: fs, i, [], ys, as, bs, us, vs, pu, pv, _, hl, _, _, _ => by simp at hl
  | f :: fs, i, x :: xs, ys, as, bs, us, vs, pu, pv, hf, hl, he, hi1, hi2 => by
    intro env D O h1 h2
    simp only [flatFs, Bool.and_eq_true, Bool.not_eq_true', beq_eq_false_iff_ne, beq_iff_eq] at hf
    obtain ⟨⟨⟨hn, ho⟩, ht⟩, hr⟩ := hf
    obtain ⟨k', hk'⟩ : ∃ k', P.underlying f.type = some (.int k') := by
      split at ht
      · exact ⟨_, by assumption⟩
      · cases ht
    cases ys with
    | nil =>
      unfold eqCs at he
      split at he <;> simp_all
    | cons y ys =>
      obtain ⟨k, a, b, as', bs', rfl, rfl, he', rfl, rfl⟩ : ∃ (k : IntKind) (a b : Int) (as' bs' : List Int), x = .val (.int k) a ∧ y = .val (.int k) b ∧ eqCs xs ys = some (as', bs') ∧ as = a :: as' ∧ bs = b :: bs' := by
        unfold eqCs at he
        split at he
        · rename_i e1 e2; cases e1
        · rename_i i a xs' j b ys' e1 e2
          injection e1 with e1 e1'; injection e2 with e2 e2'
          subst e1 e1' e2 e2'
          split at he
          · rename_i e3
            subst e3
            split at he
            · rename_i as' bs' e4
              simp only [Option.some.injEq, Prod.mk.injEq] at he
              exact ⟨_, a, b, as', bs', rfl, rfl, e4, he.1.symm, he.2.symm⟩
            · cases he
          · cases he
        · cases he
      simp only [PRs, PR, RV, List.cons.injEq, and_true] at h1 h2
      obtain ⟨u, us', rfl, rfl, h1⟩ := h1
      obtain ⟨v, vs', rfl, rfl, h2⟩ := h2
      have ih := flatFs_ok (P := P) (w := w) d fs (i + 1) xs ys as' bs' us' vs' (pu ++ [.int k a]) (pv ++ [.int k b]) hr (by simpa using hl) he' (by simp [hi1]) (by simp [hi2]) env D O h1 h2
      have p1 : (part f.type (pu ++ .int k a :: us').toArray f.offset).run P w = .ok (.int k a) w := part_int hk' ho hi1
      have p2 : (part f.type (pv ++ .int k b :: vs').toArray f.offset).run P w = .ok (.int k b) w := part_int hk' ho hi2
      simp only [Op.eqFields, if_pos hn, Sem.run_bind, p1, p2, Result.andThen_ok, run_equalIn_int w d f.type k k' a b hk', Sem.run_ite]
      have e1 : pu ++ Value.int k a :: us' = pu ++ [Value.int k a] ++ us' := by simp
      have e2 : pv ++ Value.int k b :: vs' = pv ++ [Value.int k b] ++ vs' := by simp
      by_cases hab : a = b
      · subst hab
        simp only [beq_self_eq_true, Bool.not_true, Bool.false_eq_true, if_false, e1, e2, ih]
        simp
      · have : (a == b) = false := by simpa using hab
        simp [this, hab]
theorem binS_ok {P : Program} {t : TypeId} {op : BinOp} {xs ys : List PV} {k : PV → Prop} (h : binS P False t op xs ys k) :
    ∃ p, k p ∧ ∀ (env : Nat → Value) (D : Nat → Prop) (w : World) (O : Foot) (vx vy : Value), PR env D w O (.agg xs) vx → PR env D w O (.agg ys) vy →
      ∃ v, (Go.binOp op t vx vy).run P w = .ok v w ∧ PR env D w O p v ∧ ((∀ cs, vx ≠ .agg cs) ∧ vx ≠ .nilIface ∨ P.eqGuardType P.depth t = false ∧ ∃ cs ds, vx = .agg cs ∧ vy = .agg ds) := by
  unfold binS at h
  split at h
  · rename_i as bs he hf
    unfold flatSt at hf
    split at hf
    · rename_i fs hu
      simp only [Bool.and_eq_true, beq_iff_eq, Bool.not_eq_true'] at hf
      obtain ⟨⟨⟨hs, hh⟩, hg⟩, hfl⟩ := hf
      have hfo : P.fieldsOf t = fs := by simp only [Program.fieldsOf, hu]
      have hu' : P.underlying t = some (.struct (P.fieldsOf t)) := by rw [hfo]; exact hu
      have eq : ∀ (env : Nat → Value) (D : Nat → Prop) (w : World) (O : Foot) (us vs : List Value), PRs env D w O xs us → PRs env D w O ys vs → (Op.equalIn 10000 t (.agg us.toArray) (.agg vs.toArray)).run P w = .ok (decide (as = bs)) w := by
        intro env D w O us vs h1 h2
        rw [run_equalIn_struct w 9999 t _ _ hu' hh, hfo]
        exact flatFs_ok 9998 fs.toList 0 xs ys as bs us vs [] [] hfl (by simpa using hs) he rfl rfl env D O h1 h2
      cases op <;> simp only [] at h <;> try exact h.elim
      case eql =>
        refine ⟨_, h, fun env D w O vx vy h1 h2 => ?_⟩
        simp only [PR] at h1 h2
        obtain ⟨us, rfl, h1⟩ := h1
        obtain ⟨vs, rfl, h2⟩ := h2
        refine ⟨.bool (decide (as = bs)), ?_, by simp [PR], .inr ⟨hg, _, _, rfl, rfl⟩⟩
        rw [run_eql_struct, eq env D w O us vs h1 h2]
        rfl
      case neq =>
        refine ⟨_, h, fun env D w O vx vy h1 h2 => ?_⟩
        simp only [PR] at h1 h2
        obtain ⟨us, rfl, h1⟩ := h1
        obtain ⟨vs, rfl, h2⟩ := h2
        refine ⟨.bool (!decide (as = bs)), ?_, by simp [PR], .inr ⟨hg, _, _, rfl, rfl⟩⟩
        rw [run_neq_struct, eq env D w O us vs h1 h2]
        rfl
    · cases hf
  · exact h.elim
theorem bin_ok {P : Program} {t : TypeId} {op : BinOp} {lit : Bool} {x y : PV} {k : PV → Prop} (hl : lit = true → ∀ j b, y = .val (.int j) b → b ≠ (0 : Int)) (h : bin P False t op lit x y k) :
    ∃ p, k p ∧ ∀ (env : Nat → Value) (D : Nat → Prop) (w : World) (O : Foot) (vx vy : Value), PR env D w O x vx → PR env D w O y vy →
      ∃ v, (Go.binOp op t vx vy).run P w = .ok v w ∧ PR env D w O p v ∧ ((∀ cs, vx ≠ .agg cs) ∧ vx ≠ .nilIface ∨ P.eqGuardType P.depth t = false ∧ ∃ cs ds, vx = .agg cs ∧ vy = .agg ds) := by
  unfold bin at h
  split at h
  · rename_i i a j b
    split at h
    · obtain ⟨p, hk, hp⟩ := shI_ok (j := j) h
      refine ⟨p, hk, fun env D w O vx vy hx hy => ?_⟩
      simp only [PR, RV, List.cons.injEq, and_true] at hx hy
      subst hx hy
      obtain ⟨v, h1, h2⟩ := hp P t env D w O
      exact ⟨v, h1, h2, .inl ⟨by simp, by simp⟩⟩
    · obtain ⟨p, hk, hp⟩ := shI_ok (j := j) h
      refine ⟨p, hk, fun env D w O vx vy hx hy => ?_⟩
      simp only [PR, RV, List.cons.injEq, and_true] at hx hy
      subst hx hy
      obtain ⟨v, h1, h2⟩ := hp P t env D w O
      exact ⟨v, h1, h2, .inl ⟨by simp, by simp⟩⟩
    · split at h
      · rename_i e
        subst e
        obtain ⟨p, hk, hp⟩ := binI_ok (A := Prop) (fun hh => hl hh _ _ rfl) h
        refine ⟨p, hk, fun env D w O vx vy hx hy => ?_⟩
        simp only [PR, RV, List.cons.injEq, and_true] at hx hy
        subst hx hy
        obtain ⟨v, h1, h2⟩ := hp P t env D w O
        exact ⟨v, h1, h2, .inl ⟨by simp, by simp⟩⟩
      · exact h.elim
  · rename_i i a j b
    split at h
    · rename_i e
      subst e
      obtain ⟨p, hk, hp⟩ := binF_ok h
      refine ⟨p, hk, fun env D w O vx vy hx hy => ?_⟩
      simp only [PR, RV, List.cons.injEq, and_true] at hx hy
      subst hx hy
      obtain ⟨v, h1, h2⟩ := hp P t env D w O
      exact ⟨v, h1, h2, .inl ⟨by simp, by simp⟩⟩
    · exact h.elim
  case h_7 => exact binS_ok h
  case h_8 => exact h.elim
  all_goals
    have hb : isB P t = true := by
      cases e : isB P t with
      | true => rfl
      | false => simp [binB, e] at h
    obtain ⟨p, hk, hp⟩ := run_binOp_bool (w := default) hb h
    refine ⟨p, hk, fun env D w O vx vy hx hy => ?_⟩
    simp only [PR, RV, List.cons.injEq, and_true] at hx hy
    subst hx hy
    obtain ⟨v, h1, h2⟩ := hp env D w O
    exact ⟨v, h1, h2, .inl ⟨by simp, by simp⟩⟩
theorem una_ok {op : UnOp} {x : PV} {k : PV → Prop} (h : una False op x k) :
    ∃ p, k p ∧ ∀ (P : Program) (env : Nat → Value) (D : Nat → Prop) (w : World) (O : Foot) (vx : Value), PR env D w O x vx → ∃ v, (Op.unary op vx).run P w = .ok v w ∧ PR env D w O p v := by
  unfold una at h
  split at h
  · rename_i i a
    refine ⟨_, h, fun P env D w O vx hx => ?_⟩
    simp only [PR, RV, List.cons.injEq, and_true] at hx
    subst hx
    exact ⟨_, by simp [Op.unary, Op.intArith, Sem.run, pure]; rfl, by simp [PR, RV, wr_eq]⟩
  · rename_i c d
    refine ⟨_, h, fun P env D w O vx hx => ?_⟩
    simp only [PR] at hx
    subst hx
    exact ⟨_, by simp [Op.unary, Sem.run, pure]; rfl, by simp [PR]⟩
  · rename_i b
    refine ⟨_, h, fun P env D w O vx hx => ?_⟩
    simp only [PR, RV, List.cons.injEq, and_true] at hx
    subst hx
    exact ⟨_, by simp [Op.unary, Sem.run, pure]; rfl, by simp [PR, RV]⟩
  · exact h.elim
theorem cnv_ok {P : Program} {src dst : TypeId} {x : PV} {k : PV → Prop} (hs : ∃ d, P.underlying src = some d) (h : cnv P False dst x k) :
    ∃ p, k p ∧ ∀ (env : Nat → Value) (D : Nat → Prop) (w : World) (O : Foot) (vx : Value), PR env D w O x vx → ∃ v, (Go.convert src dst vx).run P w = .ok v w ∧ PR env D w O p v := by
  obtain ⟨d, hs⟩ := hs
  unfold cnv at h
  split at h
  · rename_i i j a hd
    refine ⟨_, h, fun env D w O vx hx => ?_⟩
    simp only [PR, RV, List.cons.injEq, and_true] at hx
    subst hx
    exact ⟨_, by simp [Go.convert, underlying, program, hs, hd, Conv.intToInt, Sem.run, pure, bind, Sem.bind]; rfl, by simp [PR, RV]; exact (wr_eq _ _).symm⟩
  · rename_i i j a hd
    refine ⟨_, h, fun env D w O vx hx => ?_⟩
    simp only [PR, RV, List.cons.injEq, and_true] at hx
    subst hx
    exact ⟨_, by simp [Go.convert, underlying, program, hs, hd, Conv.intToFloat, Sem.run, pure, bind, Sem.bind]; rfl, by simp [PR, RV]⟩
  · exact h.elim
theorem iteP_ok {x : PV} {a b : Prop} (h : iteP False x a b) : ∃ t : Bool, (if t then a else b) ∧ ∀ (env : Nat → Value) (D : Nat → Prop) (w : World) (O : Foot) (vx : Value), PR env D w O x vx → vx = .bool t := by
  unfold iteP at h
  split at h
  · rename_i c d
    refine ⟨@decide c d, ?_, fun env D w O vx hx => by simpa [PR] using hx⟩
    split at h <;> simp_all
  · rename_i v
    refine ⟨v, ?_, fun env D w O vx hx => by simpa [PR, RV] using hx⟩
    split at h <;> simp_all
  · exact h.elim
end Go.Proofs.Ytlpooghphoohcaa.R
/- Reading: elements, places, loads. -/
namespace Go.Proofs.Ytlpooghphoohcaa.R
open Go.RowKit
set_option linter.unusedVariables false
set_option linter.unusedSimpArgs false

def Vw (h : Nat → PV) (σ : St) : Prop := ∀ N, h N = look σ.ob N ∨ h N = .dead
theorem Vw.eq {h : Nat → PV} {σ : St} (v : Vw h σ) {N : Nat} {p : PV} (e : h N = p) (hp : p ≠ .dead) : look σ.ob N = p := by
  rcases v N with hv | hv
  · exact hv.symm.trans e
  · exact absurd (e.symm.trans hv) hp
section
variable {env : Nat → Value} {D : Nat → Prop} {w : World} {O : Foot}
theorem PRs_append : (ps qs : List PV) → (us : List Value) → (PRs env D w O (ps ++ qs) us ↔ ∃ us1 us2, us = us1 ++ us2 ∧ PRs env D w O ps us1 ∧ PRs env D w O qs us2)
  | [], qs, us => by
    simp only [List.nil_append, PRs]
    constructor
    · intro h; exact ⟨[], us, rfl, rfl, h⟩
    · rintro ⟨_, us2, rfl, rfl, h⟩; exact h
  | p :: ps, qs, us => by
    simp only [List.cons_append, PRs]
    constructor
    · rintro ⟨u, us', rfl, h1, h2⟩
      obtain ⟨us1, us2, rfl, h3, h4⟩ := (PRs_append ps qs us').1 h2
      exact ⟨u :: us1, us2, rfl, ⟨u, us1, rfl, h1, h3⟩, h4⟩
    · rintro ⟨us1, us2, rfl, ⟨u, us', rfl, h1, h3⟩, h4⟩
      exact ⟨u, us' ++ us2, rfl, h1, (PRs_append ps qs _).2 ⟨us', us2, rfl, h3, h4⟩⟩
theorem PRs_one {p : PV} {us : List Value} : PRs env D w O [p] us ↔ ∃ u, us = [u] ∧ PR env D w O p u := by
  simp only [PRs]
  constructor
  · rintro ⟨u, us', rfl, h, rfl⟩; exact ⟨u, rfl, h⟩
  · rintro ⟨u, rfl, h⟩; exact ⟨u, [], rfl, h, rfl⟩
theorem PRs.len {ps : List PV} {us : List Value} (h : PRs env D w O ps us) : ps.length = us.length := ((PRs_iff ps us).1 h).1
theorem PRs.get {ps : List PV} {us : List Value} (h : PRs env D w O ps us) {i : Nat} {p : PV} (hp : ps[i]? = some p) : ∃ u, us[i]? = some u ∧ PR env D w O p u := by
  obtain ⟨hl, hi⟩ := (PRs_iff ps us).1 h
  have : i < us.length := by have := (List.getElem?_eq_some_iff.1 hp).1; omega
  exact ⟨us[i], List.getElem?_eq_getElem this, hi i p _ hp (List.getElem?_eq_getElem this)⟩
theorem PRs.drop {ps : List PV} {us : List Value} (h : PRs env D w O ps us) (n : Nat) : PRs env D w O (ps.drop n) (us.drop n) := by
  obtain ⟨hl, hi⟩ := (PRs_iff ps us).1 h
  refine (PRs_iff _ _).2 ⟨by simp [hl], fun i p u hp hu => ?_⟩
  rw [List.getElem?_drop] at hp hu
  exact hi _ p u hp hu
theorem PRs.take {ps : List PV} {us : List Value} (h : PRs env D w O ps us) (n : Nat) : PRs env D w O (ps.take n) (us.take n) := by
  obtain ⟨hl, hi⟩ := (PRs_iff ps us).1 h
  refine (PRs_iff _ _).2 ⟨by simp [hl], fun i p u hp hu => ?_⟩
  rw [List.getElem?_take] at hp hu
  split at hp
  · rename_i h1
    rw [if_pos h1] at hu
    exact hi _ p u hp hu
  · cases hp
theorem PRs_cellsOf : (t : Ty) → (x : t.El) → (us : List Value) → (PRs env D w O (cellsOf t x) us ↔ RV w O t x us)
  | .pair a b, x, us => by
    simp only [cellsOf, PRs_append, RV]
    constructor
    · rintro ⟨us1, us2, rfl, h1, h2⟩
      exact ⟨us1, us2, rfl, (PRs_cellsOf a x.1 us1).1 h1, (PRs_cellsOf b x.2 us2).1 h2⟩
    · rintro ⟨us1, us2, rfl, h1, h2⟩
      exact ⟨us1, us2, rfl, (PRs_cellsOf a x.1 us1).2 h1, (PRs_cellsOf b x.2 us2).2 h2⟩
  | .int k, x, us => by
    simp only [cellsOf, PRs_one, PR]
    exact ⟨fun ⟨u, e, h⟩ => e ▸ h, fun h => ⟨_, by simpa [RV] using h, by simp [RV]⟩⟩
  | .bool, x, us => by
    simp only [cellsOf, PRs_one, PR]
    exact ⟨fun ⟨u, e, h⟩ => e ▸ h, fun h => ⟨_, by simpa [RV] using h, by simp [RV]⟩⟩
  | .str, x, us => by
    simp only [cellsOf, PRs_one, PR]
    exact ⟨fun ⟨u, e, h⟩ => e ▸ h, fun h => ⟨_, by simpa [RV] using h, by simp [RV]⟩⟩
  | .flt k, x, us => by
    simp only [cellsOf, PRs_one, PR]
    exact ⟨fun ⟨u, e, h⟩ => e ▸ h, fun h => ⟨_, by simpa [RV] using h, by simp [RV]⟩⟩
  | .sl t, x, us => by
    simp only [cellsOf, PRs_one, PR]
    refine ⟨fun ⟨u, e, h⟩ => e ▸ h, fun h => ?_⟩
    have hl := RV.len _ h
    simp only [Ty.sz] at hl
    obtain ⟨u, rfl⟩ := List.length_eq_one_iff.1 hl
    exact ⟨u, rfl, h⟩
theorem cellsOf_len : (t : Ty) → (x : t.El) → (cellsOf t x).length = t.sz
  | .pair a b, x => by simp [cellsOf, Ty.sz, cellsOf_len a, cellsOf_len b]
  | .int _, _ => rfl
  | .bool, _ => rfl
  | .str, _ => rfl
  | .flt _, _ => rfl
  | .sl _, _ => rfl
theorem Lies.drop {b o : Nat} {us : List Value} (h : Lies w O b o us) (n : Nat) : Lies w O b (o + n) (us.drop n) := fun j u hu => by
  rw [List.getElem?_drop] at hu
  have := h _ _ hu
  rwa [← Nat.add_assoc] at this
theorem Lies.take {b o : Nat} {us : List Value} (h : Lies w O b o us) (n : Nat) : Lies w O b o (us.take n) := fun j u hu => by
  rw [List.getElem?_take] at hu
  split at hu
  · exact h _ _ hu
  · cases hu
end
theorem elOf_spec {P : Program} {s e : TypeId} {t : Ty} (h : elOf P s = some (e, t)) :
    P.underlying s = some (.slice e) ∧ ∃ i z, P.info? e = some i ∧ i.size = t.sz ∧ szOf P e = t.sz ∧ i.zero = some z ∧ zeroOk t z.cells.toList = true ∧ 0 < i.bytes ∧ byOf P e = i.bytes := by
  unfold elOf at h
  split at h
  · rename_i e' hu
    split at h
    · rename_i a v ha hv
      split at h
      · rename_i hc
        simp only [Option.some.injEq, Prod.mk.injEq] at h
        obtain ⟨rfl, rfl⟩ := h
        unfold zeroOf at hv
        cases hi : P.info? e' with
        | none => simp [hi] at hv
        | some i =>
          simp only [hi] at hv
          have h1 := hc.1
          have h3 := hc.2.2
          simp only [szOf, byOf, hi] at h1 h3 ⊢
          exact ⟨hu, i, v, rfl, h1.symm, h1.symm, hv, hc.2.1, h3, rfl⟩
      · cases h
    · cases h
  · cases h
theorem run_index {P : Program} {s e : TypeId} {t : Ty} (he : elOf P s = some (e, t)) {w : World} {b o len c : Nat} {k : IntKind} {i : Int} (h0 : 0 ≤ i) (h1 : i < len) :
    (Instr.indexAt s (.slice (some ⟨b, o, none⟩) len c) (.int k i)).run P w = .ok (.pointer (some ⟨b, o + i.toNat * t.sz, none⟩)) w := by
  obtain ⟨hu, j, z, hi, hsz, _⟩ := elOf_spec he
  have hel : P.elem s = e := by simp [Program.elem, hu]
  rw [run_indexAt_slice w s ⟨b, o, none⟩ len c k i (by rw [hel]; exact hu)]
  rw [if_pos ⟨h0, h1⟩, hel]
  simp only [sizeOf, typeInfo, program, hi, Sem.run_bind, Sem.run, Result.andThen, pure, bind, Sem.bind]
  simp only [hsz, Addr.add]
  split
  · rename_i h; simp [h]
  · rfl
theorem inI_ok {i : Int} {n : Nat} {k : Nat → Prop} (h : inI False i n k) : 0 ≤ i ∧ i.toNat < n ∧ i < n ∧ k i.toNat := by
  unfold inI at h
  split at h
  · split at h
    · exact ⟨‹_›, by omega, ‹_›, h⟩
    · exact h.elim
  · exact h.elim
theorem RVs.lies {w : World} {O : Foot} {t : Ty} {xs : List t.El} {us : List Value} (h : RVs w O t xs us) {i : Nat} (hi : i < xs.length) :
    RV w O t (xs.getD i t.dft) ((us.drop (i * t.sz)).take t.sz) := by
  have : xs.getD i t.dft = xs.get ⟨i, hi⟩ := by simp [List.getD_eq_getElem?_getD, hi]
  rw [this]
  exact h.2 i hi
theorem RVs.pos {w : World} {O : Foot} {t : Ty} {xs : List t.El} {us : List Value} (h : RVs w O t xs us) {i : Nat} (hi : i < xs.length) : us ≠ [] := by
  intro e
  have := h.1
  rw [e] at this
  have hp := t.sz_pos
  have : 0 < xs.length * t.sz := Nat.mul_pos (by omega) hp
  simp_all
section
variable {X W0 : Foot} {w0 : World} {D : Nat → Prop} {σ : St} {a : Act} {w : World} {env : Nat → Value} {F : Nat → Foot}
/-- A row of our own has a block. -/
theorem own_form {w : World} {base : Nat} {e : TypeId} {size n : Nat} {v : Value} {us : List Value} (h : w.ownsRow base e size v n us) : ∃ aa c, v = .slice aa n c ∧ n ≤ c ∧ (us ≠ [] → ∃ g, aa = some ⟨g, 0, none⟩) := by
  rcases h.2 with ⟨rfl, rfl⟩ | ⟨g, cap, cur, rfl, _, _, hc, _⟩
  · exact ⟨none, 0, rfl, Nat.le_refl _, fun hne => (hne (List.eq_nil_of_length_eq_zero (by simpa using h.1))).elim⟩
  · exact ⟨_, cap, rfl, hc, fun _ => ⟨g, rfl⟩⟩
/-- The header of an object that is a slice. -/
theorem Rl.hdr (h : Rl X W0 w0 D σ a w env F) {N : Nat} {t : Ty} {xs : List t.El} (ho : (∃ e, look σ.ob N = .row e t xs) ∨ look σ.ob N = .val (.sl t) xs) :
    ∃ aa c us, env N = .slice aa xs.length c ∧ RVs w (Ow X F) t xs us ∧ (us ≠ [] → ∃ b o, aa = some ⟨b, o, none⟩ ∧ ∀ j u, us[j]? = some u → cl w b (o + j) = some u) ∧ xs.length ≤ c := by
  have hob := h.ob N
  rcases ho with ⟨e, ho⟩ | ho
  · rw [ho] at hob
    simp only [OB] at hob
    obtain ⟨us, hown, hr, _⟩ := hob
    obtain ⟨aa, c, he, hcap, hg⟩ := own_form hown
    refine ⟨aa, c, us, he, hr, fun hne => ?_, hcap⟩
    obtain ⟨g, rfl⟩ := hg hne
    refine ⟨g, 0, rfl, fun j u hu => ?_⟩
    have := hown.cells (g := g) (by rw [he]; rfl) j u hu
    have hadd : (⟨g, 0, none⟩ : Addr).add j = ⟨g, 0 + j, none⟩ := by unfold Addr.add; split <;> simp_all
    rwa [hadd] at this
  · rw [ho] at hob
    simp only [OB, PR] at hob
    obtain ⟨aa, c, us, he, hr, hm, hcap⟩ := RV_sl.1 hob.1
    refine ⟨aa, c, us, he, hr, fun hne => ?_, hcap⟩
    obtain ⟨b, o, rfl, hl⟩ := hm hne
    exact ⟨b, o, rfl, fun j u hu => (hl j u hu).1⟩
/-- The header of a row of rows. -/
theorem Rl.hdrM (h : Rl X W0 w0 D σ a w env F) {N : Nat} {e e' : TypeId} {t : Ty} {xs : List (List t.El)} {al : Option (Nat × Nat)} (ho : (look σ.ob N = .mat e e' t xs ∧ al = none) ∨ ∃ i M, look σ.ob N = .hol e e' t xs i M ∧ al = some (i, M)) :
    ∃ aa c us, env N = .slice aa xs.length c ∧ us.length = xs.length ∧ (xs.length ≠ 0 → ∃ g, aa = some ⟨g, 0, none⟩) ∧ xs.length ≤ c ∧ MatOk env D w (env N) e e' t xs al us ∧ F N = matF (env N) al us := by
  have hob := h.ob N
  have hob : ∃ us, MatOk env D w (env N) e e' t xs al us ∧ F N = matF (env N) al us := by
    rcases ho with ⟨ho, rfl⟩ | ⟨i, M, ho, rfl⟩
    · rw [ho] at hob
      simpa only [OB] using hob
    · rw [ho] at hob
      simpa only [OB] using hob
  obtain ⟨us, hm, hF⟩ := hob
  have hl : us.length = xs.length := by rw [hm.own.1, Nat.mul_one]
  obtain ⟨aa, c, he, hcap, hg⟩ := own_form hm.own
  exact ⟨aa, c, us, he, hl, fun h0 => hg (fun e => by rw [e] at hl; simp at hl; omega), hcap, hm, hF⟩
end
theorem idx_ok {P : Program} {s e : TypeId} {t' : Ty} (he : elOf P s = some (e, t')) {σ : St} {h : Nat → PV} (hv : Vw h σ) {x ix : PV} {k : PV → Prop} (hk : idx False (szOf P e) h x ix k) :
    ∃ p, k p ∧ ∀ (X W0 : Foot) (w0 : World) (D : Nat → Prop) (a : Act) (w : World) env F, Rl X W0 w0 D σ a w env F → ∀ vx vi, PR env D w (Ow X F) x vx → PR env D w (Ow X F) ix vi →
      ∃ v, (Instr.indexAt s vx vi).run P w = .ok v w ∧ PR env D w (Ow X F) p v := by
  obtain ⟨_, _, _, _, _, hsz, _⟩ := elOf_spec he
  unfold idx at hk
  split at hk
  · rename_i kk i
    split at hk
    · rename_i t xs
      split at hk
      · rename_i hs
        obtain ⟨h0, h1, h2, hkk⟩ := inI_ok hk
        refine ⟨_, hkk, fun X W0 w0 D a w env F hR vx vi hx hi => ?_⟩
        simp only [PR] at hx hi
        obtain ⟨aa, c, us, rfl, hr, hm, _⟩ := RV_sl.1 hx
        simp only [RV, List.cons.injEq, and_true] at hi
        subst hi
        obtain ⟨b, o, rfl, hl⟩ := hm (hr.pos h1)
        refine ⟨_, run_index he h0 h2, ?_⟩
        simp only [PR]
        refine ⟨b, _, _, rfl, (PRs_cellsOf _ _ _).2 (hr.lies h1), ?_⟩
        rw [show t'.sz = t.sz by omega]
        exact (hl.drop _).take _
      · exact hk.elim
    · rename_i N
      have key : ∀ (t : Ty) (xs : List t.El), (∃ e, look σ.ob N = .row e t xs) ∨ look σ.ob N = .val (.sl t) xs → t.sz = szOf P e → inI False i xs.length (fun j => k (.cp N j (szOf P e) 0)) →
          ∃ p, k p ∧ ∀ (X W0 : Foot) (w0 : World) (D : Nat → Prop) (a : Act) (w : World) env F, Rl X W0 w0 D σ a w env F → ∀ vx vi, PR env D w (Ow X F) (.ref N) vx → PR env D w (Ow X F) (.val (.int kk) i) vi →
            ∃ v, (Instr.indexAt s vx vi).run P w = .ok v w ∧ PR env D w (Ow X F) p v := by
        intro t xs ho hs hk
        obtain ⟨h0, h1, h2, hkk⟩ := inI_ok hk
        refine ⟨_, hkk, fun X W0 w0 D a w env F hR vx vi hx hi => ?_⟩
        simp only [PR] at hx hi
        simp only [RV, List.cons.injEq, and_true] at hi
        subst hi
        obtain ⟨aa, c, us, hen, hr, hm, _⟩ := hR.hdr ho
        obtain ⟨b, o, rfl, _⟩ := hm (hr.pos h1)
        obtain ⟨hd, rfl⟩ := hx
        rw [hen]
        refine ⟨_, run_index he h0 h2, ?_⟩
        simp only [PR, hen, hb, hlen]
        exact ⟨hd, h1, b, o, rfl, by rw [hsz]; simp⟩
      have keyM : ∀ (e1 e2 : TypeId) (t : Ty) (xs : List (List t.El)) (al : Option (Nat × Nat)), ((look σ.ob N = .mat e1 e2 t xs ∧ al = none) ∨ ∃ i M, look σ.ob N = .hol e1 e2 t xs i M ∧ al = some (i, M)) → (if szOf P e = 1 then inI False i xs.length fun j => k (.cp N j 1 0) else False) →
          ∃ p, k p ∧ ∀ (X W0 : Foot) (w0 : World) (D : Nat → Prop) (a : Act) (w : World) env F, Rl X W0 w0 D σ a w env F → ∀ vx vi, PR env D w (Ow X F) (.ref N) vx → PR env D w (Ow X F) (.val (.int kk) i) vi →
            ∃ v, (Instr.indexAt s vx vi).run P w = .ok v w ∧ PR env D w (Ow X F) p v := by
        intro e1 e2 t xs al hN hk
        split at hk
        · rename_i hone
          obtain ⟨h0, h1, h2, hkk⟩ := inI_ok hk
          refine ⟨_, hkk, fun X W0 w0 D a w env F hR vx vi hx hi => ?_⟩
          simp only [PR] at hx hi
          simp only [RV, List.cons.injEq, and_true] at hi
          subst hi
          obtain ⟨aa, c, us, hen, hl, hg, _⟩ := hR.hdrM hN
          obtain ⟨g, rfl⟩ := hg (by omega)
          obtain ⟨hd, rfl⟩ := hx
          rw [hen]
          refine ⟨_, run_index he h0 h2, ?_⟩
          simp only [PR, hen, hb, hlen]
          refine ⟨hd, h1, g, 0, rfl, ?_⟩
          rw [← hsz, hone]
          simp
        · exact hk.elim
      split at hk
      · rename_i e' t xs hN
        split at hk
        · exact key t xs (.inl ⟨e', hv.eq hN (by simp)⟩) ‹_› hk
        · exact hk.elim
      · rename_i t xs hN
        split at hk
        · exact key t xs (.inr (hv.eq hN (by simp))) ‹_› hk
        · exact hk.elim
      · rename_i e1 e2 t xs hN
        exact keyM e1 e2 t xs none (.inl ⟨hv.eq hN (by simp), rfl⟩) hk
      · rename_i e1 e2 t xs i0 M hN
        exact keyM e1 e2 t xs (some (i0, M)) (.inr ⟨i0, M, hv.eq hN (by simp), rfl⟩) hk
      · exact hk.elim
    · rename_i N s' lo m
      split at hk
      · rename_i hs
        subst hs
        obtain ⟨h0, h1, h2, hkk⟩ := inI_ok hk
        refine ⟨_, hkk, fun X W0 w0 D a w env F hR vx vi hx hi => ?_⟩
        simp only [PR] at hx hi
        simp only [RV, List.cons.injEq, and_true] at hi
        subst hi
        obtain ⟨hd, hle, aa, c, rfl, _, hm⟩ := hx
        obtain ⟨b, o, hbb, rfl⟩ := hm (by omega)
        refine ⟨_, run_index he h0 h2, ?_⟩
        simp only [PR]
        refine ⟨hd, by omega, b, o, hbb, ?_⟩
        rw [hsz, Nat.add_mul]
        simp [Nat.add_assoc]
      · exact hk.elim
    · exact hk.elim
  · exact hk.elim
end Go.Proofs.Ytlpooghphoohcaa.R
/- Reading: what a pointer leads to, loads, fields, parts. -/
namespace Go.Proofs.Ytlpooghphoohcaa.R
open Go.RowKit
set_option linter.unusedVariables false
set_option linter.unusedSimpArgs false

section
variable {X W0 : Foot} {w0 : World} {D : Nat → Prop} {σ : St} {a : Act} {w : World} {env : Nat → Value} {F : Nat → Foot}
/-- The cells from a place on. -/
theorem Rl.at_ (hR : Rl X W0 w0 D σ a w env F) {h : Nat → PV} (hv : Vw h σ) {p : PV} {v : Value} (hp : PR env D w (Ow X F) p v) (hne : atP h p ≠ []) :
    ∃ b o us, v = .pointer (some ⟨b, o, none⟩) ∧ PRs env D w (Ow X F) (atP h p) us ∧ ∀ j u, us[j]? = some u → cl w b (o + j) = some u := by
  unfold atP at hne ⊢
  split at hne
  · rename_i cs
    simp only [PR] at hp
    obtain ⟨b, o, us, rfl, h1, h2⟩ := hp
    exact ⟨b, o, us, rfl, PRs.mono (Stb.refl _ _) (fun _ h => h.elim) (fun _ h => h.elim) _ _ h1, fun j u hu => (h2 j u hu).1⟩
  · rename_i N
    simp only [PR] at hp
    obtain ⟨hd, rfl⟩ := hp
    split at hne
    · rename_i cs hN
      have hob := hR.ob N
      rw [hv.eq hN (by simp)] at hob
      simp only [OB] at hob
      obtain ⟨b, o, us, he, h1, h2, _⟩ := hob
      exact ⟨b, o, us, he, h1, fun j u hu => (h2 j u hu).1⟩
    · rename_i cs hN
      have hob := hR.ob N
      rw [hv.eq hN (by simp)] at hob
      simp only [OB, PR] at hob
      obtain ⟨⟨b, o, us, he, h1, h2⟩, _⟩ := hob
      exact ⟨b, o, us, he, PRs.mono (Stb.refl _ _) (fun _ h => h.elim) (fun _ h => h.elim) _ _ h1, fun j u hu => (h2 j u hu).1⟩
    · exact absurd rfl hne
  · rename_i N i s j
    simp only [PR] at hp
    obtain ⟨hd, hi, b, o, hbb, rfl⟩ := hp
    have key : ∀ (t : Ty) (xs : List t.El), (∃ e, look σ.ob N = .row e t xs) ∨ look σ.ob N = .val (.sl t) xs → s = t.sz →
        ∃ us, PRs env D w (Ow X F) ((cellsOf t (xs.getD i t.dft)).drop j) us ∧ ∀ l u, us[l]? = some u → cl w b (o + (i * s + j) + l) = some u := by
      intro t xs ho hs
      obtain ⟨aa, c, us, hen, hr, hm, _⟩ := hR.hdr ho
      rw [hen] at hi hbb
      simp only [hlen] at hi
      obtain ⟨b', o', rfl, hl⟩ := hm (hr.pos hi)
      simp only [hb, Option.some.injEq, Prod.mk.injEq] at hbb
      obtain ⟨rfl, rfl⟩ := hbb
      refine ⟨_, ((PRs_cellsOf _ _ _).2 (hr.lies hi)).drop j, fun l u hu => ?_⟩
      rw [List.getElem?_drop, List.getElem?_take] at hu
      split at hu
      · rw [List.getElem?_drop] at hu
        have := hl _ _ hu
        rw [hs]
        rwa [show o' + (i * t.sz + j) + l = o' + (i * t.sz + (j + l)) by omega]
      · cases hu
    split at hne
    · rename_i cs hN
      split at hne
      · rename_i hz
        have hob := hR.ob N
        rw [hv.eq hN (by simp)] at hob
        simp only [OB] at hob
        obtain ⟨b', o', us, he, h1, h2, _⟩ := hob
        rw [he] at hbb
        simp only [hb, Option.some.injEq, Prod.mk.injEq] at hbb
        obtain ⟨rfl, rfl⟩ := hbb
        rw [if_pos hz]
        refine ⟨_, _, us.drop j, rfl, h1.drop j, fun l u hu => ?_⟩
        rw [List.getElem?_drop] at hu
        rw [hz, show o' + (0 + j) + l = o' + (j + l) by omega]
        exact (h2 _ _ hu).1
      · exact absurd rfl hne
    · rename_i cs hN
      split at hne
      · rename_i hz
        have hob := hR.ob N
        rw [hv.eq hN (by simp)] at hob
        simp only [OB, PR] at hob
        obtain ⟨⟨b', o', us, he, h1, h2⟩, _⟩ := hob
        rw [he] at hbb
        simp only [hb, Option.some.injEq, Prod.mk.injEq] at hbb
        obtain ⟨rfl, rfl⟩ := hbb
        rw [if_pos hz]
        refine ⟨_, _, us.drop j, rfl, (PRs.mono (Stb.refl _ _) (fun _ h => h.elim) (fun _ h => h.elim) _ _ h1).drop j, fun l u hu => ?_⟩
        rw [List.getElem?_drop] at hu
        rw [hz, show o' + (0 + j) + l = o' + (j + l) by omega]
        exact (h2 _ _ hu).1
      · exact absurd rfl hne
    · rename_i e t xs hN
      split at hne
      · rename_i hs
        rw [if_pos hs]
        obtain ⟨us, h1, h2⟩ := key t xs (.inl ⟨e, hv.eq hN (by simp)⟩) hs
        exact ⟨_, _, us, rfl, h1, h2⟩
      · exact absurd rfl hne
    · rename_i t xs hN
      split at hne
      · rename_i hs
        rw [if_pos hs]
        obtain ⟨us, h1, h2⟩ := key t xs (.inr (hv.eq hN (by simp))) hs
        exact ⟨_, _, us, rfl, h1, h2⟩
      · exact absurd rfl hne
    · exact absurd rfl hne
  · exact absurd rfl hne
end
theorem add_at (b o j : Nat) : (⟨b, o, none⟩ : Addr).add j = ⟨b, o + j, none⟩ := by unfold Addr.add; split <;> simp_all
theorem szOf_info {P : Program} {t : TypeId} {i : TypeInfo} (h : P.info? t = some i) : szOf P t = i.size := by simp [szOf, h]
theorem isSt_spec {P : Program} {t : TypeId} (h : isSt P t = true) : ∃ fs, P.underlying t = some (.struct fs) := by
  unfold isSt at h
  split at h
  · exact ⟨_, by assumption⟩
  · cases h
theorem isPl_spec {P : Program} {t : TypeId} (h : isPl P t = true) : ∃ d, P.underlying t = some d ∧ (∀ fs, d ≠ .struct fs) ∧ ∀ n e, d ≠ .array n e := by
  unfold isPl at h
  split at h
  · cases h
  · cases h
  · rename_i d h1 h2 hu
    exact ⟨d, hu, h1, h2⟩
  · cases h
theorem run_isAgg_st {P : Program} {t : TypeId} {w : World} (h : isSt P t = true) : (isAgg t).run P w = .ok true w := by
  obtain ⟨fs, hu⟩ := isSt_spec h
  simp [isAgg, run_underlying hu]
theorem run_isAgg_pl {P : Program} {t : TypeId} {w : World} (h : isPl P t = true) : (isAgg t).run P w = .ok false w := by
  obtain ⟨d, hu, h1, h2⟩ := isPl_spec h
  cases d <;> first | exact absurd rfl (h1 _) | exact absurd rfl (h2 _ _) | simp [isAgg, run_underlying hu]
theorem load_ok {P : Program} {o : Oper} {t : TypeId} {x : Operand} {σ : St} {h : Nat → PV} (hv : Vw h σ) (ho : o.op = .load t x) {nm : Nat} {k : List Upd → Prop} (hk : loadP P False h o t (σ.eval x) k) :
    ∃ us, k us ∧ OpOk P nm o σ us := by
  unfold loadP at hk
  split at hk
  · rename_i hst
    split at hk
    · rename_i hle
      refine ⟨_, hk, ok_pure fun X W0 w0 D a w env F hR => ?_⟩
      obtain ⟨fs, hu⟩ := isSt_spec hst
      have hi : ∃ i, P.info? t = some i := by
        unfold Program.underlying at hu
        cases hh : P.info? t with
        | none => simp [hh] at hu
        | some i => exact ⟨i, rfl⟩
      obtain ⟨i, hi⟩ := hi
      have hne : atP h (σ.eval x) ≠ [] := by
        intro e
        rw [e] at hle
        simp at hle
        omega
      obtain ⟨b, of, us, hva, h1, h2⟩ := hR.at_ hv (hR.ev x) hne
      have hl := h1.len
      have hle := hle.2
      refine ⟨.agg (us.take (szOf P t)).toArray, ?_, by simp only [PR]; exact ⟨_, rfl, h1.take _⟩⟩
      have hlc := run_loadCells_list (P := P) (w := w) ⟨b, of, none⟩ (us.take (szOf P t)) (fun j v hj => by
        rw [List.getElem?_take] at hj
        split at hj
        · rw [add_at]; exact h2 j v hj
        · cases hj)
      rw [List.length_take, Nat.min_eq_left (by omega)] at hlc
      rw [szOf_info hi] at hlc ⊢
      simp [execOp, ho, hva, Instr.loadAt, Instr.sureAddr, loadVar, run_isAgg_st hst, sizeOf, typeInfo, hi, hlc]
    · exact hk.elim
  · split at hk
    · rename_i c cs hpl hat
      refine ⟨_, hk, ok_pure fun X W0 w0 D a w env F hR => ?_⟩
      obtain ⟨b, of, us, hva, h1, h2⟩ := hR.at_ hv (hR.ev x) (by rw [hat]; simp)
      rw [hat] at h1
      simp only [PRs] at h1
      obtain ⟨u, us', rfl, hu, _⟩ := h1
      have hc := h2 0 u rfl
      refine ⟨u, ?_, hu⟩
      simp only [cl, Nat.add_zero] at hc
      simp [execOp, ho, hva, Instr.loadAt, Instr.sureAddr, loadVar, run_isAgg_pl hpl, hc]
    · exact hk.elim
theorem fldOf_spec {P : Program} {s : TypeId} {f off : Nat} {ft : TypeId} (h : fldOf P s f = some (off, ft)) : ∃ fs d, P.underlying s = some (.struct fs) ∧ fs[f]? = some d ∧ d.offset = off ∧ d.type = ft := by
  unfold fldOf at h
  split at h
  · rename_i fs hu
    split at h
    · rename_i d hd
      simp only [Option.some.injEq, Prod.mk.injEq] at h
      exact ⟨fs, d, hu, hd, h.1, h.2⟩
    · cases h
  · cases h
theorem szOf_pos {P : Program} {t : TypeId} (h : 0 < szOf P t) : ∃ i, P.info? t = some i ∧ i.size = szOf P t := by
  unfold szOf at h ⊢
  cases hi : P.info? t with
  | none => simp [hi] at h
  | some i => exact ⟨i, rfl, rfl⟩
theorem fieldA_ok {P : Program} {o : Oper} {s : TypeId} {x : Operand} {f : Nat} {σ : St} {h : Nat → PV} (hv : Vw h σ) (ho : o.op = .fieldAddr s x f) {nm : Nat} {k : List Upd → Prop} (hk : fieldA P False h o s (σ.eval x) f k) :
    ∃ us, k us ∧ OpOk P nm o σ us := by
  unfold fieldA at hk
  split at hk
  · rename_i off ft hf
    split at hk
    · rename_i hpos
      obtain ⟨fs, d, hu, hd, rfl, rfl⟩ := fldOf_spec hf
      obtain ⟨i, hi, hsz⟩ := szOf_pos hpos
      have hrun : ∀ (b oo : Nat) (w : World), (Instr.fieldAt s (.pointer (some ⟨b, oo, none⟩)) f).run P w = .ok (.pointer (some ⟨b, oo + d.offset, none⟩)) w := by
        intro b oo w
        have hne : ¬ i.size = 0 := by omega
        simp [Instr.fieldAt, run_underlying hu, hd, Instr.sureAddr, fieldPlace, sizeOf, typeInfo, hi, hne, add_at]
      have kref : ∀ N, (∃ cs, look σ.ob N = .box cs ∨ look σ.ob N = .pt cs) → σ.eval x = .ref N → OpOk P nm o σ (put o (.cp N 0 0 d.offset)) := by
        rintro N ⟨cs, hc⟩ hx
        refine ok_pure fun X W0 w0 D a w env F hR => ?_
        have he := hR.ev x
        rw [hx] at he
        simp only [PR] at he
        obtain ⟨hdN, he⟩ := he
        have : ∃ b oo, env N = .pointer (some ⟨b, oo, none⟩) := by
          have hob := hR.ob N
          rcases hc with hc | hc
          · rw [hc] at hob
            simp only [OB] at hob
            obtain ⟨b, oo, us, h1, _⟩ := hob
            exact ⟨b, oo, h1⟩
          · rw [hc] at hob
            simp only [OB, PR] at hob
            obtain ⟨⟨b, oo, us, h1, _⟩, _⟩ := hob
            exact ⟨b, oo, h1⟩
        obtain ⟨b, oo, hen⟩ := this
        rw [hen] at he
        refine ⟨.pointer (some ⟨b, oo + d.offset, none⟩), by simp [execOp, ho, he, hrun], ?_⟩
        simp only [PR, hen, hlen, hb]
        exact ⟨hdN, by omega, b, oo, rfl, by simp⟩
      split at hk
      · rename_i N hx
        split at hk
        · rename_i cs hN
          exact ⟨_, hk, kref N ⟨cs, .inl (hv.eq hN (by simp))⟩ hx⟩
        · rename_i cs hN
          exact ⟨_, hk, kref N ⟨cs, .inr (hv.eq hN (by simp))⟩ hx⟩
        · exact hk.elim
      · rename_i N i' c j hx
        refine ⟨_, hk, ok_pure fun X W0 w0 D a w env F hR => ?_⟩
        have he := hR.ev x
        rw [hx] at he
        simp only [PR] at he
        obtain ⟨h1, h2, b, oo, h3, he⟩ := he
        refine ⟨_, by simp only [execOp, ho, he, Sem.run_bind, hrun, Result.andThen_ok]; rfl, ?_⟩
        simp only [PR]
        exact ⟨h1, h2, b, oo, h3, by congr 3; omega⟩
      · rename_i cs hx
        refine ⟨_, hk, ok_pure fun X W0 w0 D a w env F hR => ?_⟩
        have he := hR.ev x
        rw [hx] at he
        simp only [PR] at he
        obtain ⟨b, oo, us, he, h1, h2⟩ := he
        refine ⟨_, by simp only [execOp, ho, he, Sem.run_bind, hrun, Result.andThen_ok]; rfl, ?_⟩
        simp only [PR]
        exact ⟨b, _, _, rfl, h1.drop _, h2.drop _⟩
      · exact hk.elim
    · exact hk.elim
  · exact hk.elim
theorem fieldP_ok {P : Program} {o : Oper} {s : TypeId} {x : Operand} {f : Nat} {σ : St} (ho : o.op = .field s x f) {nm : Nat} {k : List Upd → Prop} (hk : fieldP P False o s (σ.eval x) f k) :
    ∃ us, k us ∧ OpOk P nm o σ us := by
  unfold fieldP at hk
  split at hk
  · rename_i off ft cs hf hx
    obtain ⟨fs, d, hu, hd, rfl, rfl⟩ := fldOf_spec hf
    split at hk
    · rename_i hst
      split at hk
      · rename_i hle
        refine ⟨_, hk, ok_pure fun X W0 w0 D a w env F hR => ?_⟩
        have he := hR.ev x
        rw [hx] at he
        simp only [PR] at he
        obtain ⟨us, he, h1⟩ := he
        obtain ⟨gs, hug⟩ := isSt_spec hst
        have hi : ∃ i, P.info? d.type = some i := by
          unfold Program.underlying at hug
          cases hh : P.info? d.type with
          | none => simp [hh] at hug
          | some i => exact ⟨i, rfl⟩
        obtain ⟨i, hi⟩ := hi
        rw [szOf_info hi]
        refine ⟨.agg (us.toArray.extract d.offset (d.offset + i.size)), ?_, ?_⟩
        · simp [execOp, ho, he, Instr.field, run_underlying hu, hd, asAgg, part, run_isAgg_st hst, sizeOf, typeInfo, hi]
        · simp only [PR]
          refine ⟨(us.drop d.offset).take i.size, ?_, (h1.drop _).take _⟩
          congr 1
          simp [List.extract_eq_take_drop]
      · exact hk.elim
    · split at hk
      · rename_i c cs' hpl hdr
        refine ⟨_, hk, ok_pure fun X W0 w0 D a w env F hR => ?_⟩
        have he := hR.ev x
        rw [hx] at he
        simp only [PR] at he
        obtain ⟨us, he, h1⟩ := he
        have hc : cs[d.offset]? = some c := by
          have := congrArg (fun l : List PV => l[0]?) hdr
          simpa using this
        obtain ⟨u, hu1, hu2⟩ := h1.get hc
        refine ⟨u, ?_, hu2⟩
        simp [execOp, ho, he, Instr.field, run_underlying hu, hd, asAgg, part, run_isAgg_pl hpl, hu1]
      · exact hk.elim
  · exact hk.elim
theorem len_ok {P : Program} {t : TypeId} {h : Nat → PV} {σ : St} (hv : Vw h σ) {x : PV} {k : PV → Prop} (hk : lenP P False t h x k) :
    ∃ p, k p ∧ ∀ (X W0 : Foot) (w0 : World) (D : Nat → Prop) (a : Act) (w : World) env F, Rl X W0 w0 D σ a w env F → ∀ ty vx, PR env D w (Ow X F) x vx →
      ∃ v, (Builtin.len_ #[t] ty #[vx]).run P w = .ok v w ∧ PR env D w (Ow X F) p v := by
  unfold lenP at hk
  split at hk
  · rename_i e hu
    have hrun : ∀ ty aa n c w, (Builtin.len_ #[t] ty #[.slice aa n c]).run P w = .ok (.int .i64 n) w := by
      intro ty aa n c w
      simp [Builtin.len_, run_underlying hu, goInt]
    have key : ∀ N (t' : Ty) (xs : List t'.El), (∃ e, look σ.ob N = .row e t' xs) ∨ look σ.ob N = .val (.sl t') xs → k (.val (.int .i64) (xs.length : Int)) →
        ∃ p, k p ∧ ∀ (X W0 : Foot) (w0 : World) (D : Nat → Prop) (a : Act) (w : World) env F, Rl X W0 w0 D σ a w env F → ∀ ty vx, PR env D w (Ow X F) (.ref N) vx →
          ∃ v, (Builtin.len_ #[t] ty #[vx]).run P w = .ok v w ∧ PR env D w (Ow X F) p v := by
      intro N t' xs ho hk
      refine ⟨_, hk, fun X W0 w0 D a w env F hR ty vx hx => ?_⟩
      simp only [PR] at hx
      obtain ⟨aa, c, us, hen, _⟩ := hR.hdr ho
      rw [hx.2, hen]
      exact ⟨_, hrun _ _ _ _ _, by simp [PR, RV]⟩
    split at hk
    · refine ⟨_, hk, fun X W0 w0 D a w env F hR ty vx hx => ?_⟩
      simp only [PR] at hx
      obtain ⟨aa, c, us, rfl, _⟩ := RV_sl.1 hx
      exact ⟨_, hrun _ _ _ _ _, by simp [PR, RV]⟩
    · refine ⟨_, hk, fun X W0 w0 D a w env F hR ty vx hx => ?_⟩
      simp only [PR] at hx
      subst hx
      exact ⟨_, hrun _ _ _ _ _, by simp [PR, RV]⟩
    · rename_i N
      split at hk
      · rename_i e' t' xs hN
        exact key N t' xs (.inl ⟨e', hv.eq hN (by simp)⟩) hk
      · rename_i t' xs hN
        exact key N t' xs (.inr (hv.eq hN (by simp))) hk
      · rename_i e1 e2 t xs hN
        refine ⟨_, hk, fun X W0 w0 D a w env F hR ty vx hx => ?_⟩
        simp only [PR] at hx
        obtain ⟨aa, c, us, hen, _⟩ := hR.hdrM (.inl ⟨hv.eq hN (by simp), rfl⟩)
        rw [hx.2, hen]
        exact ⟨_, hrun _ _ _ _ _, by simp [PR, RV]⟩
      · rename_i e1 e2 t xs i0 M hN
        refine ⟨_, hk, fun X W0 w0 D a w env F hR ty vx hx => ?_⟩
        simp only [PR] at hx
        obtain ⟨aa, c, us, hen, _⟩ := hR.hdrM (.inr ⟨i0, M, hv.eq hN (by simp), rfl⟩)
        rw [hx.2, hen]
        exact ⟨_, hrun _ _ _ _ _, by simp [PR, RV]⟩
      · exact hk.elim
    · refine ⟨_, hk, fun X W0 w0 D a w env F hR ty vx hx => ?_⟩
      simp only [PR] at hx
      obtain ⟨_, _, aa, c, rfl, _⟩ := hx
      exact ⟨_, hrun _ _ _ _ _, by simp [PR, RV]⟩
    · exact hk.elim
  · rename_i hu
    split at hk
    · refine ⟨_, hk, fun X W0 w0 D a w env F hR ty vx hx => ?_⟩
      simp only [PR, RV, List.cons.injEq, and_true] at hx
      subst hx
      exact ⟨_, by simp only [Builtin.len_]; simp [run_underlying hu, goInt]; rfl, by simp [PR, RV]⟩
    · exact hk.elim
  · exact hk.elim
end Go.Proofs.Ytlpooghphoohcaa.R
/- Parts of slices. -/
namespace Go.Proofs.Ytlpooghphoohcaa.R
open Go.RowKit
set_option linter.unusedVariables false
set_option linter.unusedSimpArgs false

theorem toI_ok {b : Int} {n : Nat} {k : Nat → Prop} (h : toI False b n k) : 0 ≤ b ∧ b ≤ n ∧ k b.toNat := by
  unfold toI at h
  split at h
  · split at h
    · exact ⟨‹_›, ‹_›, h⟩
    · exact h.elim
  · exact h.elim
theorem run_bound {P : Program} {w : World} {k : IntKind} {i : Int} {y : Nat} {code : BoundsCode} (h0 : 0 ≤ i) (h1 : i ≤ y) : (Instr.sliceBound (.int k i) y code).run P w = .ok i.toNat w := by
  simp [Instr.sliceBound, asIntOf, h0, h1]
/-- What the bounds say of the values. -/
structure Bd (lo hi : Option Value) (len l n : Nat) : Prop where
  lo : (lo = none ∧ l = 0) ∨ ∃ k i, lo = some (.int k i) ∧ 0 ≤ i ∧ l = i.toNat
  hi : (hi = none ∧ l + n = len) ∨ ∃ k i, hi = some (.int k i) ∧ 0 ≤ i ∧ l + n = i.toNat
  le : l + n ≤ len
theorem run_slice_bd {P : Program} {s e : TypeId} {t : Ty} (he : elOf P s = some (e, t)) {lo hi : Option Value} {len l n : Nat} (hb : Bd lo hi len l n) {aa : Option Addr} {c : Nat} (hc : len ≤ c) {w : World} :
    (Instr.sliceAt s (.slice aa len c) lo hi none).run P w = .ok (.slice (if c = l then aa else aa.map (·.add (l * t.sz))) n (c - l)) w := by
  obtain ⟨hu, i, z, hi', hsz, _⟩ := elOf_spec he
  have hh : ∀ w, (Instr.sliceBounds true len c lo hi none).run P w = .ok (l, l + n, c) w := by
    intro w
    have hle := hb.le
    rcases hb.hi with ⟨rfl, h2⟩ | ⟨k, b, rfl, h0, h2⟩
    · rcases hb.lo with ⟨rfl, h1⟩ | ⟨k', b', rfl, h0', h1⟩
      · simp [Instr.sliceBounds, h1, ← h2]
      · have := run_bound (P := P) (w := w) (k := k') (i := b') (y := len) (code := .sliceB) h0' (by omega)
        simp only [Instr.sliceBounds, Sem.run_bind, Sem.run_pure, Result.andThen_ok]
        simp [this, h1]
        omega
    · have hr := run_bound (P := P) (w := w) (k := k) (i := b) (y := c) (code := .sliceAcap) h0 (by omega)
      rcases hb.lo with ⟨rfl, h1⟩ | ⟨k', b', rfl, h0', h1⟩
      · simp only [Instr.sliceBounds, Sem.run_bind, Sem.run_pure, Result.andThen_ok]
        simp [hr, h1, h2]
        omega
      · have hr' := run_bound (P := P) (w := w) (k := k') (i := b') (y := b.toNat) (code := .sliceB) h0' (by omega)
        simp only [Instr.sliceBounds, Sem.run_bind, Sem.run_pure, Result.andThen_ok]
        simp [hr, hr', h1]
        omega
  simp only [Instr.sliceAt, Instr.slice, Sem.run_bind, run_underlying hu, Result.andThen_ok, hh, sizeOf, typeInfo, run_program, hi', Sem.run_pure, hsz]
  simp
theorem RVs.part {w : World} {O : Foot} {t : Ty} {xs : List t.El} {us : List Value} (h : RVs w O t xs us) {l n : Nat} (hl : l + n ≤ xs.length) :
    RVs w O t ((xs.drop l).take n) ((us.drop (l * t.sz)).take (n * t.sz)) := by
  obtain ⟨h1, h2⟩ := h
  have hm : (l + n) * t.sz ≤ xs.length * t.sz := Nat.mul_le_mul_right _ hl
  rw [Nat.add_mul] at hm
  refine ⟨?_, fun i hi => ?_⟩
  · simp only [List.length_take, List.length_drop, h1]
    rw [Nat.min_eq_left (by omega), Nat.min_eq_left (by omega)]
  · simp only [List.length_take, List.length_drop] at hi
    have hi' : l + i < xs.length := by omega
    have := h2 (l + i) hi'
    have hg : ((xs.drop l).take n).get ⟨i, by simp; omega⟩ = xs.get ⟨l + i, hi'⟩ := by simp
    rw [hg]
    have hin : i < n := by omega
    have hs : i * t.sz + t.sz ≤ n * t.sz := by rw [← Nat.succ_mul]; exact Nat.mul_le_mul_right _ hin
    have e : ((us.drop (l * t.sz)).take (n * t.sz)).drop (i * t.sz) = ((us.drop ((l + i) * t.sz)).take (n * t.sz - i * t.sz)) := by
      rw [List.drop_take, List.drop_drop, Nat.add_mul]
    rw [e, List.take_take, Nat.min_eq_left (by omega)]
    exact this
theorem len_part {α : Type} (xs : List α) {l n : Nat} (h : l + n ≤ xs.length) : ((xs.drop l).take n).length = n := by
  rw [List.length_take, List.length_drop]; omega
theorem slice_ok {P : Program} {o : Oper} {s e : TypeId} {t' : Ty} (he : elOf P s = some (e, t')) {x : Operand} {lo hi : Option Operand} {σ : St} {h : Nat → PV} (hv : Vw h σ) (ho : o.op = .slice s x lo hi none) {nm : Nat}
    {k : List Upd → Prop} (hk : sliceP False (szOf P e) h o (σ.eval x) (lo.map σ.eval) (hi.map σ.eval) k) : ∃ us, k us ∧ OpOk P nm o σ us := by
  obtain ⟨_, _, _, _, _, hsz, _⟩ := elOf_spec he
  -- the bounds
  have go : ∀ (len : Nat) (kk : Nat → Nat → Prop), (match hi.map σ.eval with
      | none => (match lo.map σ.eval with
        | none => kk 0 len
        | some (.val (.int _) a) => toI False a len fun a => kk a (len - a)
        | _ => False)
      | some (.val (.int _) b) => toI False b len fun b => (match lo.map σ.eval with
        | none => kk 0 b
        | some (.val (.int _) a) => toI False a b fun a => kk a (b - a)
        | _ => False)
      | _ => False) →
      ∃ l n, kk l n ∧ l + n ≤ len ∧ ∀ (X W0 : Foot) (w0 : World) (D : Nat → Prop) (a : Act) (w : World) env F, Rl X W0 w0 D σ a w env F → Bd (lo.map a.eval) (hi.map a.eval) len l n := by
    intro len kk hk
    have ev : ∀ {y : Operand} {i : IntKind} {b : Int}, σ.eval y = .val (.int i) b → ∀ (X W0 : Foot) (w0 : World) (D : Nat → Prop) (a : Act) (w : World) env F, Rl X W0 w0 D σ a w env F → a.eval y = .int i b := by
      intro y i b hy X W0 w0 D a w env F hR
      have := hR.ev y
      rw [hy] at this
      simpa [PR, RV] using this
    have lower : ∀ m, m ≤ len → (∀ l n, l + n = m → (∀ (X W0 : Foot) (w0 : World) (D : Nat → Prop) (a : Act) (w : World) env F, Rl X W0 w0 D σ a w env F → (lo.map a.eval = none ∧ l = 0) ∨ ∃ k i, lo.map a.eval = some (.int k i) ∧ 0 ≤ i ∧ l = i.toNat) → kk l n →
          ∃ l n, kk l n ∧ l + n ≤ len ∧ ∀ (X W0 : Foot) (w0 : World) (D : Nat → Prop) (a : Act) (w : World) env F, Rl X W0 w0 D σ a w env F → Bd (lo.map a.eval) (hi.map a.eval) len l n) →
        (match lo.map σ.eval with
        | none => kk 0 m
        | some (.val (.int _) a) => toI False a m fun a => kk a (m - a)
        | _ => False) → ∃ l n, kk l n ∧ l + n ≤ len ∧ ∀ (X W0 : Foot) (w0 : World) (D : Nat → Prop) (a : Act) (w : World) env F, Rl X W0 w0 D σ a w env F → Bd (lo.map a.eval) (hi.map a.eval) len l n := by
      intro m hm hfin hk
      cases lo with
      | none => exact hfin 0 m (by omega) (fun _ _ _ _ _ _ _ _ _ => .inl ⟨rfl, rfl⟩) hk
      | some y =>
        simp only [Option.map_some] at hk
        split at hk
        · rename_i hy; cases hy
        · rename_i i b hy
          simp only [Option.some.injEq] at hy
          obtain ⟨h0, h1, hk⟩ := toI_ok hk
          exact hfin _ _ (by omega) (fun X W0 w0 D a w env F hR => .inr ⟨i, b, by simp [ev hy X W0 w0 D a w env F hR], h0, rfl⟩) hk
        · exact hk.elim
    cases hi with
    | none =>
      simp only [Option.map_none] at hk
      exact lower len (Nat.le_refl _) (fun l n hl hlo hkk => ⟨l, n, hkk, by omega, fun X W0 w0 D a w env F hR => ⟨hlo X W0 w0 D a w env F hR, .inl ⟨rfl, hl⟩, by omega⟩⟩) hk
    | some y =>
      simp only [Option.map_some] at hk
      split at hk
      · rename_i hy; cases hy
      · rename_i i b hy
        simp only [Option.some.injEq] at hy
        obtain ⟨h0, h1, hk⟩ := toI_ok hk
        exact lower b.toNat (by omega) (fun l n hl hlo hkk => ⟨l, n, hkk, by omega, fun X W0 w0 D a w env F hR => ⟨hlo X W0 w0 D a w env F hR, .inr ⟨i, b, by simp [ev hy X W0 w0 D a w env F hR], h0, hl⟩, by omega⟩⟩) hk
      · exact hk.elim
  unfold sliceP at hk
  dsimp only at hk
  split at hk
  · rename_i t xs hx
    split at hk
    · rename_i hs
      obtain ⟨l, n, hk, hle, hbd⟩ := go xs.length (fun a n => k (put o (.val (.sl t) ((xs.drop a).take n)))) (by revert hk; cases hi.map σ.eval <;> exact id)
      refine ⟨_, hk, ok_pure fun X W0 w0 D a w env F hR => ?_⟩
      have hp := hR.ev x
      rw [hx] at hp
      simp only [PR] at hp
      obtain ⟨aa, c, us, hen, hr, hm, hc⟩ := RV_sl.1 hp
      have hlx : (List.take n (List.drop l xs)).length = n := len_part xs hle
      refine ⟨_, by simp only [execOp, ho, hen, Sem.run_bind, Option.map_none, run_slice_bd he (hbd X W0 w0 D a w env F hR) hc, Result.andThen_ok]; rfl, ?_⟩
      simp only [PR]
      refine RV_sl.2 ⟨if c = l then aa else aa.map (·.add (l * t'.sz)), c - l, _, ?_, hr.part hle, fun hne => ?_, ?_⟩
      · rw [hlx]
      · have hn : n ≠ 0 := by rintro rfl; simp at hne
        have hus : us ≠ [] := by rintro rfl; simp at hne
        obtain ⟨b, oo, rfl, hl⟩ := hm hus
        rw [if_neg (by omega)]
        refine ⟨b, oo + l * t'.sz, by simp [add_at], ?_⟩
        rw [show t'.sz = t.sz by omega]
        exact (hl.drop _).take _
      · rw [hlx]; omega
    · exact hk.elim
  · rename_i N hx
    have key : ∀ (t : Ty) (xs : List t.El), (∃ e, look σ.ob N = .row e t xs) ∨ look σ.ob N = .val (.sl t) xs → t.sz = szOf P e → ∀ l n, l + n ≤ xs.length → (∀ (X W0 : Foot) (w0 : World) (D : Nat → Prop) (a : Act) (w : World) env F, Rl X W0 w0 D σ a w env F → Bd (lo.map a.eval) (hi.map a.eval) xs.length l n) →
        OpOk P nm o σ (put o (.win N (szOf P e) l n)) := by
      intro t xs hob hs l n hle hbd
      refine ok_pure fun X W0 w0 D a w env F hR => ?_
      have hp := hR.ev x
      rw [hx] at hp
      simp only [PR] at hp
      obtain ⟨aa, c, us, hen, hr, hm, hc⟩ := hR.hdr hob
      obtain ⟨hD, hp⟩ := hp
      rw [hen] at hp
      refine ⟨_, by simp only [execOp, ho, hp, Sem.run_bind, Option.map_none, run_slice_bd he (hbd X W0 w0 D a w env F hR) hc, Result.andThen_ok]; rfl, ?_⟩
      simp only [PR, hen, hlen]
      refine ⟨hD, hle, _, _, rfl, by omega, fun hn => ?_⟩
      obtain ⟨b, oo, rfl, hl⟩ := hm (hr.pos (i := l) (by omega))
      rw [if_neg (by omega)]
      exact ⟨b, oo, rfl, by simp [add_at, hsz]⟩
    split at hk
    · rename_i e' t xs hN
      split at hk
      · rename_i hs
        obtain ⟨l, n, hk, hle, hbd⟩ := go xs.length (fun a n => k (put o (.win N (szOf P e) a n))) (by revert hk; cases hi.map σ.eval <;> exact id)
        exact ⟨_, hk, key t xs (.inl ⟨e', hv.eq hN (by simp)⟩) hs l n hle hbd⟩
      · exact hk.elim
    · rename_i t xs hN
      split at hk
      · rename_i hs
        obtain ⟨l, n, hk, hle, hbd⟩ := go xs.length (fun a n => k (put o (.win N (szOf P e) a n))) (by revert hk; cases hi.map σ.eval <;> exact id)
        exact ⟨_, hk, key t xs (.inr (hv.eq hN (by simp))) hs l n hle hbd⟩
      · exact hk.elim
    · exact hk.elim
  · rename_i N s' l0 m hx
    split at hk
    · rename_i hs
      obtain ⟨l, n, hk, hle, hbd⟩ := go m (fun a n => k (put o (.win N (szOf P e) (l0 + a) n))) (by revert hk; cases hi.map σ.eval <;> exact id)
      refine ⟨_, hk, ok_pure fun X W0 w0 D a w env F hR => ?_⟩
      have hp := hR.ev x
      rw [hx] at hp
      simp only [PR] at hp
      obtain ⟨hD, hlen0, aa, c, hp, hc, hm⟩ := hp
      refine ⟨_, by simp only [execOp, ho, hp, Sem.run_bind, Option.map_none, run_slice_bd he (hbd X W0 w0 D a w env F hR) hc, Result.andThen_ok]; rfl, ?_⟩
      simp only [PR]
      refine ⟨hD, by omega, _, _, rfl, by omega, fun hn => ?_⟩
      obtain ⟨b, oo, hbb, rfl⟩ := hm (by omega)
      rw [if_neg (by omega)]
      refine ⟨b, oo, hbb, ?_⟩
      simp only [Option.map_some, add_at, hs, hsz, Option.some.injEq, Addr.mk.injEq, and_true, true_and]
      rw [Nat.add_mul]
      omega
    · exact hk.elim
  · exact hk.elim
end Go.Proofs.Ytlpooghphoohcaa.R
