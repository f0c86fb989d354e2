/- Texts of this proof, merged: Sxc Sxd. -/
import Derived.Test.YthmokdfigjffjaaGreatDoorMaa
import Derived.Laws.StructEq
import Derived.Laws.Concat
namespace Go.Proofs.YthmokdfigjffjaaGreatDoor
set_option linter.unusedVariables false
set_option linter.unusedSimpArgs false
open Go.RowKit
noncomputable section

def kEq : IntKind → IntKind → Bool
  | .i8, .i8 | .i16, .i16 | .i32, .i32 | .i64, .i64 | .u8, .u8 | .u16, .u16 | .u32, .u32 | .u64, .u64 => true
  | _, _ => false
theorem kEq_ok {a b : IntKind} (h : kEq a b = true) : a = b := by cases a <;> cases b <;> first | rfl | cases h
abbrev cI (k : IntKind) (n : Int) : SV := .e (.c (.i k n))
abbrev cB (b : Bool) : SV := .e (.c (.b b))
/-- Two ints. (What divides is to be a constant: 'div'.) -/
def intS (op : BinOp) (k : IntKind) (x y : Int) (div : Bool) : Option SV :=
  match op with
  | .add => some (cI k (k.wrap (x + y)))
  | .sub => some (cI k (k.wrap (x - y)))
  | .mul => some (cI k (k.wrap (x * y)))
  | .quo => bif div then some (cI k (k.wrap (x.tdiv y))) else none
  | .rem => bif div then some (cI k (x.tmod y)) else none
  | .and => some (cI k (k.wrap (BitVec.ofInt k.bits x &&& BitVec.ofInt k.bits y).toNat))
  | .or => some (cI k (k.wrap (BitVec.ofInt k.bits x ||| BitVec.ofInt k.bits y).toNat))
  | .xor => some (cI k (k.wrap (BitVec.ofInt k.bits x ^^^ BitVec.ofInt k.bits y).toNat))
  | .andNot => some (cI k (k.wrap (BitVec.ofInt k.bits x &&& ~~~BitVec.ofInt k.bits y).toNat))
  | .eql => some (cB (x == y))
  | .neq => some (cB (x != y))
  | .lss => some (cB (decide (x < y)))
  | .leq => some (cB (decide (x ≤ y)))
  | .gtr => some (cB (decide (x > y)))
  | .geq => some (cB (decide (x ≥ y)))
  | _ => none
/-- A constant that is not nought, and none below it. -/
def divC : Operand → Bool
  | .const (.int _ (.ofNat (_ + 1))) => true
  | _ => false
/-- A constant that is not below nought. -/
def shC : Operand → Bool
  | .const (.int _ (.ofNat _)) => true
  | _ => false
def shS (op : BinOp) (k : IntKind) (x y : Int) : Option SV :=
  match op with
  | .shl => some (cI k (k.wrap (x * 2 ^ min y.toNat k.bits)))
  | .shr => some (cI k (x.fdiv (2 ^ min y.toNat k.bits)))
  | _ => none
def isSh : BinOp → Bool
  | .shl | .shr => true
  | _ => false
/-- A pointer that is none? -/
def nilP : CV → Option Bool
  | .p .. => some false
  | .q .. => some false
  | .v (.pointer none) => some true
  | .v (.pointer (some _)) => some false
  | _ => none
def eqS (op : BinOp) (b : Bool) : Option SV :=
  match op with
  | .eql => some (cB b)
  | .neq => some (cB (!b))
  | _ => none
def toB : CV → Option Bool
  | .b x => some x
  | .tt => some true
  | .ff => some false
  | _ => none
def notS : CV → Option SV
  | .b x => some (cB (!x))
  | .tt => some (.e (.c .ff))
  | .ff => some (.e (.c .tt))
  | _ => none
/-- Of a test whose outcome is known. -/
def eqK : BinOp → Bool → Option SV
  | .eql, true => some (.e (.c .tt))
  | .eql, false => some (.e (.c .ff))
  | .neq, true => some (.e (.c .ff))
  | .neq, false => some (.e (.c .tt))
  | _, _ => none
/-- A slice, or map, that is none? -/
def nilV : CV → Option Bool
  | .s .. => some false
  | .gs .. => some false
  | .v (.slice none _ _) => some true
  | .v (.slice (some _) _ _) => some false
  | _ => none
def nilM : CV → Option Bool
  | .m .. => some false
  | .v (.map none) => some true
  | .v (.map (some _)) => some false
  | _ => none
def nil2 (op : BinOp) : Option Bool → Option Bool → Option SV
  | some true, some b => eqK op b
  | some false, some true => eqK op false
  | _, _ => none
def cmpS (tb : Tbx) (op : BinOp) (T : TypeId) (x y : CV) : Option SV :=
  match tbl tb T with
  | some ⟨.bool, _, _⟩ => (match toB x, toB y with
    | some p, some q => eqS op (p == q)
    | _, _ => none)
  | some ⟨.ptr _, _, _⟩ => nil2 op (nilP x) (nilP y)
  | some ⟨.slice _, _, _⟩ => nil2 op (nilV x) (nilV y)
  | some ⟨.map _ _, _, _⟩ => nil2 op (nilM x) (nilM y)
  | _ => none
def strS (op : BinOp) (a b : ByteArray) : Option SV :=
  match op with
  | .add => bif Nat.ble a.data.toList.length 65535 && Nat.ble b.data.toList.length 65535 then some (.e (.c (.v (.string ⟨⟨a.data.toList ++ b.data.toList⟩⟩)))) else none
  | .eql => some (cB (a.toList == b.toList))
  | .neq => some (cB (!(a.toList == b.toList)))
  | .lss => some (cB (Op.bytesLess a.toList b.toList))
  | .leq => some (cB (Op.bytesLess a.toList b.toList || a.toList == b.toList))
  | .gtr => some (cB (!(Op.bytesLess a.toList b.toList || a.toList == b.toList)))
  | .geq => some (cB (!Op.bytesLess a.toList b.toList))
  | _ => none
def partE (xs : List CV) (o s : Nat) : Nat → Option EV
  | 1 => match xs[o]? with
    | some x => some (.c x)
    | none => none
  | 2 => some (.a ((xs.drop o).take s))
  | _ => none
def eqFs (f : Nat → EV → EV → Option Bool) (xs ys : List CV) : List (Nat × Nat × Nat × Nat) → Option Bool
  | [] => some true
  | (o, s, g, t) :: r => match s, partE xs o s g, partE ys o s g with
    | _ + 1, some a, some b => (match f t a b, eqFs f xs ys r with
      | some p, some q => some (p && q)
      | _, _ => none)
    | _, _, _ => none
/-- Are two values of a type the same? -/
def eqT (tb : Tbx) : Nat → Nat → EV → EV → Option Bool
  | 0, _, _, _ => none
  | d + 1, T, x, y => match tbl tb T, x, y with
    | some ⟨.int _, _, _⟩, .c (.i k a), .c (.i k' b) => bif kEq k k' then some (a == b) else none
    | some ⟨.bool, _, _⟩, .c a, .c b => (match toB a, toB b with
      | some p, some q => some (p == q)
      | _, _ => none)
    | some ⟨.str, _, _⟩, .c (.v (.string a)), .c (.v (.string b)) => some (a.toList == b.toList)
    | some ⟨.struct true fs, _, _⟩, .a xs, .a ys => eqFs (eqT tb d) xs ys fs
    | _, _, _ => none
def binS (tb : Tbx) (op : BinOp) (T : TypeId) (yo : Operand) : SV → SV → Option SV
  | .e (.c (.i k x)), .e (.c (.i k' y)) => bif isSh op then (bif shC yo then shS op k x y else none) else (bif kEq k k' then intS op k x y (divC yo) else none)
  | .e (.c (.v (.string a))), .e (.c (.v (.string b))) => strS op a b
  | .e (.c x), .e (.c y) => cmpS tb op T x y
  | .e (.a x), .e (.a y) => match eqT tb 9 T (.a x) (.a y) with
    | some b => eqS op b
    | none => none
  | _, _ => none
def fieldS (l : List CV) : Option (Nat × Nat × Nat × Nat) → Option SV
  | some (o, _ + 1, 1, _) => match l[o]? with
    | some x => some (.e (.c x))
    | none => none
  | some (o, s + 1, 2, _) => some (.e (.a ((l.drop o).take (s + 1))))
  | _ => none
def atS : SV → Nat → Option SV
  | .e (.c (.p j b o)), n => some (.e (.c (.p j b (o + n))))
  | .e (.c (.q j b u o)), n => some (.e (.c (.q j b u (o + n))))
  | .e (.c (.v (.pointer (some ⟨g, o, none⟩)))), n => some (.e (.c (.v (.pointer (some ⟨g, o + n, none⟩)))))
  | _, _ => none
def idxC : Operand → Option Nat
  | .const (.int _ (.ofNat n)) => some n
  | _ => none
def lenS : SV → Option SV
  | .e (.c (.v (.slice _ n _))) => some (cI .i64 n)
  | .e (.c (.s _ _ _ n _)) => some (cI .i64 n)
  | .e (.c (.gs _ _ _ _ n _ _)) => some (cI .i64 n)
  | _ => none
def lenStr : SV → Option SV
  | .e (.c (.v (.string s))) => some (cI .i64 s.size)
  | _ => none
/-- A bound that is none, or nought. -/
def zeroO (F : Fr) : Option Operand → Bool
  | none => true
  | some x => match evO F x with
    | some (.e (.c (.i _ n))) => decide (n = 0)
    | _ => false
/-- An operation that only reckons: its value, if this text knows it. -/
def pureS (tb : Tbx) (F : Fr) : Op → Option SV
  | .move x => evO F x
  | .assign x => evO F x
  | .binOp op T x y _ => match evO F x, evO F y with
    | some a, some b => binS tb op T y a b
    | _, _ => none
  | .unOp .not _ x => match evO F x with
    | some (.e (.c b)) => notS b
    | _ => none
  | .unOp .neg _ x => match evO F x with
    | some (.e (.c (.i k n))) => some (cI k (k.wrap (0 - n)))
    | _ => none
  | .convert s d x => match tbl tb s, tbl tb d, evO F x with
    | some ⟨.int _, _, _⟩, some ⟨.int k, _, _⟩, some (.e (.c (.i _ n))) => some (cI k (k.wrap n))
    | _, _, _ => none
  | .extract x i => match evO F x with
    | some (.t l) => match l[i]? with
      | some y => some (.e y)
      | none => none
    | _ => none
  | .field T x f => match tbl tb T, evO F x with
    | some ⟨.struct _ fs, _, _⟩, some (.e (.a l)) => fieldS l fs[f]?
    | _, _ => none
  | .fieldAddr T x f => match tbl tb T, evO F x with
    | some ⟨.struct _ fs, _, _⟩, some y => match fs[f]? with
      | some (o, _ + 1, _, _) => atS y o
      | _ => none
    | _, _ => none
  | .indexAddr T x i => match tbl tb T, evO F x, idxC i with
    | some ⟨.array n e, _, _⟩, some y, some k => match tbl tb e with
      | some r => bif Nat.blt k n then atS y (k * r.size) else none
      | none => none
    | _, _, _ => none
  | .nilCheck x => match evO F x with
    | some (.e (.c (.p j b o))) => some (.e (.c (.p j b o)))
    | some (.e (.c (.q j b u o))) => some (.e (.c (.q j b u o)))
    | some (.e (.c (.v (.pointer (some a))))) => some (.e (.c (.v (.pointer (some a)))))
    | _ => none
  | .pick c x y => match evO F c with
    | some (.e (.c .tt)) => evO F x
    | some (.e (.c .ff)) => evO F y
    | _ => none
  | .call ⟨.builtin .len, az, ts⟩ => match az.toList, ts.toList with
    | [x], [t] => match tbl tb t, evO F x with
      | some ⟨.slice _, _, _⟩, some y => lenS y
      | some ⟨.str, _, _⟩, some y => lenStr y
      | _, _ => none
    | _, _ => none
  | .call ⟨.builtin .min, az, _⟩ => match az.toList with
    | [x, y] => match evO F x, evO F y with
      | some (.e (.c (.i k a))), some (.e (.c (.i _ b))) => some (cI k (bif decide (b < a) then b else a))
      | _, _ => none
    | _ => none
  | .call ⟨.builtin .max, az, _⟩ => match az.toList with
    | [x, y] => match evO F x, evO F y with
      | some (.e (.c (.i k a))), some (.e (.c (.i _ b))) => some (cI k (bif decide (b > a) then b else a))
      | _, _ => none
    | _ => none
  | .index T x i => match tbl tb T, evO F x, evO F i with
    | some ⟨.array n e, _, _⟩, some (.e (.a l)), some (.e (.c (.i _ (.ofNat j)))) => match tbl tb e with
      | some r => bif Nat.blt j n then fieldS l (some (j * r.size, r.size, bif r.d.sure then (bif r.d.agg then 2 else 1) else 0, 0)) else none
      | none => none
    | _, _, _ => none
  | .slice T x lo hi none => match tbl tb T, evO F x with
    | some ⟨.slice e, _, _⟩, some (.e (.c (.v (.slice none 0 0)))) => match tbl tb e with
      | some _ => bif zeroO F lo && zeroO F hi then some (.e (.c (.v (.slice none 0 0)))) else none
      | none => none
    | _, _ => none
  | _ => none

section
variable {P : Program} {tb : Tbx} {n : Nz} {a : Act} {L : Hp} {F : Fr} {w : World}
theorem binS_int {op : BinOp} {T : TypeId} {yo : Operand} {k k' : IntKind} {x y : Int} {r : SV} (hy : a.eval yo = .int k' y) (h : binS tb op T yo (cI k x) (cI k' y) = some r) :
    (binOp op T (.int k x) (.int k' y)).run P w = .ok r.den w ∧ r.ok L := by
  simp only [binS] at h
  rcases hs : isSh op with _ | _
  · rw [hs] at h
    simp only [cond_false] at h
    rcases hk : kEq k k' with _ | _
    · rw [hk] at h; simp at h
    rw [hk] at h
    simp only [cond_true] at h
    obtain rfl := kEq_ok hk
    have hd : divC yo = true → y ≠ 0 := by
      intro hd
      cases yo with
      | const v =>
        obtain rfl : v = .int k y := hy
        cases y with
        | ofNat m => cases m with
          | zero => simp [divC] at hd
          | succ m => (simp; omega)
        | negSucc m => simp
      | _ => simp [divC] at hd
    cases op <;> simp only [intS, isSh] at h hs <;> first
      | (cases hs; done)
      | (obtain rfl := Option.some.inj h; exact ⟨by simp [binOp, Op.intArith, Op.intCmp, Op.intBits, SV.den, EV.den, CV.den], trivial⟩)
      | (rcases hv : divC yo with _ | _
         · rw [hv] at h; simp at h
         · rw [hv] at h
           obtain rfl := Option.some.inj h
           exact ⟨by simp [binOp, Op.intDiv, hd hv, SV.den, EV.den, CV.den], trivial⟩)
  · rw [hs] at h
    simp only [cond_true] at h
    rcases hv : shC yo with _ | _
    · rw [hv] at h; simp at h
    rw [hv] at h
    simp only [cond_true] at h
    have hd : ¬ y < 0 := by
      cases yo with
      | const v =>
        obtain rfl : v = .int k' y := hy
        cases y with
        | ofNat m => simp
        | negSucc m => simp [shC] at hv
      | _ => simp [shC] at hv
    cases op <;> simp only [shS, isSh] at h hs <;> first
      | (cases hs; done)
      | (obtain rfl := Option.some.inj h; exact ⟨by simp [binOp, Op.shift, hd, SV.den, EV.den, CV.den], trivial⟩)

theorem eqS_ok {op : BinOp} {b : Bool} {r : SV} (h : eqS op b = some r) : (op = .eql ∧ r = cB b) ∨ (op = .neq ∧ r = cB (!b)) := by
  cases op <;> simp only [eqS] at h <;> first | (cases h; done) | (obtain rfl := Option.some.inj h; simp)
theorem run_equal {T : TypeId} {x y : Value} {d : TypeDesc} {b : Bool} (_hu : P.underlying T = some d) (h : ∀ m, (Op.equalIn (m + 1) T x y).run P w = .ok b w) : (Op.equal T x y).run P w = .ok b w := h 9999
theorem nilP_ok {x : CV} {b : Bool} (h : nilP x = some b) : ∃ q, x.den = .pointer q ∧ q.isNone = b := by
  cases x with
  | p j g o => obtain rfl := Option.some.inj h; exact ⟨some _, rfl, rfl⟩
  | q j g u o => obtain rfl := Option.some.inj h; exact ⟨some _, rfl, rfl⟩
  | v x =>
    simp only [nilP] at h
    split at h <;> first | (cases h; done) | skip
    all_goals (first | (rename_i he; cases he; done) | skip)
    · rename_i he; cases he; obtain rfl := Option.some.inj h; exact ⟨none, rfl, rfl⟩
    · rename_i he; cases he; obtain rfl := Option.some.inj h; exact ⟨some _, rfl, rfl⟩
  | _ => simp [nilP] at h
theorem run_eq_nil {T e : TypeId} {p q : Option Addr} (hu : P.underlying T = some (.pointer e)) (h : p = none ∨ q = none) (m : Nat) : (Op.equalIn (m + 1) T (.pointer p) (.pointer q)).run P w = .ok (p.isNone && q.isNone) w := by
  rcases h with rfl | rfl
  · simp [Op.equalIn, run_underlying hu]
  · cases p <;> simp [Op.equalIn, run_underlying hu]
theorem run_eq_bool {T : TypeId} {x y : Bool} (hu : P.underlying T = some .bool) (m : Nat) : (Op.equalIn (m + 1) T (.bool x) (.bool y)).run P w = .ok (x == y) w := by
  simp [Op.equalIn, run_underlying hu]
theorem tbl_d {t : TypeId} {d : TD} {s : Nat} {z : List CV} (hT : TbOk P tb) (h : tbl tb t = some ⟨d, s, z⟩) : vd P t = d := by
  obtain ⟨i, _, _, hd, _⟩ := vr_info (tbl_ok hT h); exact hd
theorem toB_ok {x : CV} {b : Bool} (h : toB x = some b) : x.den = .bool b := by
  cases x <;> simp only [toB] at h <;> first | (cases h; done) | (obtain rfl := Option.some.inj h; rfl)
theorem nilV_ok {x : CV} {b : Bool} (h : nilV x = some b) : ∃ q l c, x.den = .slice q l c ∧ q.isNone = b := by
  cases x with
  | s j g o l c => obtain rfl := Option.some.inj h; exact ⟨some _, l, c, rfl, rfl⟩
  | gs j g o z l k x => obtain rfl := Option.some.inj h; exact ⟨some _, l, k + x, rfl, rfl⟩
  | v x =>
    simp only [nilV] at h
    split at h <;> first | (cases h; done) | skip
    all_goals (first | (rename_i he; cases he; done) | skip)
    · rename_i he; cases he; obtain rfl := Option.some.inj h; exact ⟨none, _, _, rfl, rfl⟩
    · rename_i he; cases he; obtain rfl := Option.some.inj h; exact ⟨some _, _, _, rfl, rfl⟩
  | _ => simp [nilV] at h
theorem nilM_ok {x : CV} {b : Bool} (h : nilM x = some b) : ∃ q, x.den = .map q ∧ q.isNone = b := by
  cases x with
  | m j g => obtain rfl := Option.some.inj h; exact ⟨some _, rfl, rfl⟩
  | v x =>
    simp only [nilM] at h
    split at h <;> first | (cases h; done) | skip
    all_goals (first | (rename_i he; cases he; done) | skip)
    · rename_i he; cases he; obtain rfl := Option.some.inj h; exact ⟨none, rfl, rfl⟩
    · rename_i he; cases he; obtain rfl := Option.some.inj h; exact ⟨some _, rfl, rfl⟩
  | _ => simp [nilM] at h
theorem nil2_ok {op : BinOp} {a b : Option Bool} {r : SV} (h : nil2 op a b = some r) : ∃ p q, a = some p ∧ b = some q ∧ (p = true ∨ q = true) ∧ eqK op (p && q) = some r := by
  unfold nil2 at h
  split at h <;> first | (cases h; done) | skip
  · exact ⟨true, _, rfl, rfl, Or.inl rfl, h⟩
  · exact ⟨false, true, rfl, rfl, Or.inr rfl, h⟩
/-- Values that '==' looks at by their type. -/
def Cmp : Value → Prop
  | .pointer _ => True
  | .bool _ => True
  | .slice _ _ _ => True
  | .map _ => True
  | .agg _ => True
  | _ => False
theorem binOp_cmp {op : BinOp} {T : TypeId} {x y : Value} (hx : Cmp x) {b : Bool} (he : (Op.equal T x y).run P w = .ok b w) (hop : op = .eql ∨ op = .neq) : (binOp op T x y).run P w = .ok (.bool (if op = .eql then b else !b)) w := by
  rcases hop with rfl | rfl <;> cases x <;> first | exact hx.elim | simp [binOp, he]
theorem eqK_ok {op : BinOp} {b : Bool} {r : SV} {T : TypeId} {x y : Value} (hx : Cmp x) (h : eqK op b = some r) (he : (Op.equal T x y).run P w = .ok b w) : (binOp op T x y).run P w = .ok r.den w ∧ r.ok L := by
  cases op <;> cases b <;> simp only [eqK] at h <;> first
    | (cases h; done)
    | (obtain rfl := Option.some.inj h; exact ⟨(binOp_cmp hx he (Or.inl rfl)).trans rfl, trivial⟩)
    | (obtain rfl := Option.some.inj h; exact ⟨(binOp_cmp hx he (Or.inr rfl)).trans rfl, trivial⟩)
theorem eqS_ok2 {op : BinOp} {b : Bool} {r : SV} {T : TypeId} {x y : Value} (hx : Cmp x) (h : eqS op b = some r) (he : (Op.equal T x y).run P w = .ok b w) : (binOp op T x y).run P w = .ok r.den w ∧ r.ok L := by
  rcases eqS_ok h with ⟨rfl, rfl⟩ | ⟨rfl, rfl⟩
  · exact ⟨(binOp_cmp hx he (Or.inl rfl)).trans rfl, trivial⟩
  · exact ⟨(binOp_cmp hx he (Or.inr rfl)).trans rfl, trivial⟩
theorem cmpS_ok {op : BinOp} {T : TypeId} {x y : CV} {r : SV} (hT : TbOk P tb) (h : cmpS tb op T x y = some r) :
    (binOp op T x.den y.den).run P w = .ok r.den w ∧ r.ok L ∧ Cmp x.den := by
  unfold cmpS at h
  split at h
  · rename_i s z ht
    have hu := und_bool (tbl_d hT ht)
    split at h <;> first | (cases h; done) | skip
    rename_i p q hp hq
    rw [toB_ok hp, toB_ok hq]
    have := eqS_ok2 (P := P) (w := w) (L := L) (T := T) (x := .bool p) (y := .bool q) trivial h (run_equal hu fun m => run_eq_bool hu m)
    exact ⟨this.1, this.2, trivial⟩
  · rename_i e s z ht
    have hu := und_ptr (tbl_d hT ht)
    obtain ⟨p, q, hp, hq, hpq, hk⟩ := nil2_ok h
    obtain ⟨x', hx, rfl⟩ := nilP_ok hp
    obtain ⟨y', hy, rfl⟩ := nilP_ok hq
    rw [hx, hy]
    have := eqK_ok (P := P) (w := w) (L := L) (T := T) (x := .pointer x') (y := .pointer y') trivial hk (run_equal hu fun m => run_eq_nil hu (by rcases hpq with q | q <;> simp at q <;> simp [q]) m)
    exact ⟨this.1, this.2, trivial⟩
  · rename_i e s z ht
    have hu := und_slice (tbl_d hT ht)
    obtain ⟨p, q, hp, hq, hpq, hk⟩ := nil2_ok h
    obtain ⟨x', l, c, hx, rfl⟩ := nilV_ok hp
    obtain ⟨y', l', c', hy, rfl⟩ := nilV_ok hq
    rw [hx, hy]
    have := eqK_ok (P := P) (w := w) (L := L) (T := T) (x := .slice x' l c) (y := .slice y' l' c') trivial hk (run_equal hu fun m => by
      cases x' <;> cases y' <;> simp_all [Op.equalIn, run_underlying hu])
    exact ⟨this.1, this.2, trivial⟩
  · rename_i k e s z ht
    have hu := und_map (tbl_d hT ht)
    obtain ⟨p, q, hp, hq, hpq, hk⟩ := nil2_ok h
    obtain ⟨x', hx, rfl⟩ := nilM_ok hp
    obtain ⟨y', hy, rfl⟩ := nilM_ok hq
    rw [hx, hy]
    have := eqK_ok (P := P) (w := w) (L := L) (T := T) (x := .map x') (y := .map y') trivial hk (run_equal hu fun m => by
      cases x' <;> cases y' <;> simp_all [Op.equalIn, run_underlying hu])
    exact ⟨this.1, this.2, trivial⟩
  · cases h
theorem partE_ok {t : Field} {xs : List CV} {r : EV} {s g : Nat} (hs : ∀ w, (sizeOf t.type).run P w = .ok s w) (hg : aggN P t.type = g) (h : partE xs t.offset s g = some r) :
    (part t.type (xs.map CV.den).toArray t.offset).run P w = .ok r.den w := by
  subst hg
  rcases hq : aggN P t.type with _ | _ | _ | q
  · rw [hq] at h; simp [partE] at h
  · rw [hq] at h
    simp only [partE] at h
    rcases hx : xs[t.offset]? with _ | x
    · rw [hx] at h; cases h
    rw [hx] at h
    obtain rfl := Option.some.inj h
    simp only [part, Sem.run_bind, (run_isAgg w).1 hq, Result.andThen_ok, Bool.false_eq_true, if_false]
    simp [hx, EV.den]
  · rw [hq] at h
    obtain rfl := Option.some.inj h
    simp only [part, Sem.run_bind, (run_isAgg w).2 hq, Result.andThen_ok, if_true, hs, Sem.run_pure]
    simp [EV.den, List.map_take, List.map_drop]
  · rw [hq] at h; simp [partE] at h
theorem eqFs_ok {f : Nat → EV → EV → Option Bool} {d : Nat} {xs ys : List CV} (hf : ∀ t x y b, f t x y = some b → (Op.equalIn d t x.den y.den).run P w = .ok b w) : ∀ (l : List Field) (b : Bool), (∀ t ∈ l, t.name ≠ "_") →
    eqFs f xs ys (l.map fun f => (f.offset, (match P.info? f.type with | some i => i.size | none => 0), aggN P f.type, f.type)) = some b → (Op.eqFields d (xs.map CV.den).toArray (ys.map CV.den).toArray l).run P w = .ok b w
  | [], b, _, h => by obtain rfl := Option.some.inj h; rfl
  | t :: l, b, hn, h => by
    simp only [List.map_cons, eqFs] at h
    split at h <;> first | (cases h; done) | skip
    rename_i s a c hs ha hc
    split at h <;> first | (cases h; done) | skip
    rename_i p q hp hq
    obtain rfl := Option.some.inj h
    have hsz : ∀ w, (sizeOf t.type).run P w = .ok (s + 1) w := fun w => by
      rcases hi : P.info? t.type with _ | i
      · rw [hi] at hs; simp at hs
      · rw [hi] at hs
        simp only at hs
        simp [sizeOf, typeInfo, hi, hs]
    rw [hs] at ha hc
    have ih := eqFs_ok hf l q (fun t ht => hn t (List.mem_cons_of_mem _ ht)) hq
    simp only [Op.eqFields]
    rw [if_pos (hn t (List.mem_cons_self ..))]
    simp only [Sem.run_bind, partE_ok hsz rfl ha, partE_ok hsz rfl hc, Result.andThen_ok, hf _ _ _ _ hp]
    cases p <;> simp [ih]
theorem eqT_ok (hT : TbOk P tb) : ∀ (d : Nat) (T : Nat) (x y : EV) (b : Bool), eqT tb d T x y = some b → ∀ m, (Op.equalIn (m + d) T x.den y.den).run P w = .ok b w
  | 0, _, _, _, _, h, _ => by simp [eqT] at h
  | d + 1, T, x, y, b, h, m => by
    have ih := eqT_ok hT d
    simp only [eqT] at h
    rw [← Nat.add_assoc]
    split at h
    · rename_i k0 s z k a k' c ht
      rcases hk : kEq k k' with _ | _
      · rw [hk] at h; cases h
      rw [hk] at h
      obtain rfl := kEq_ok hk
      obtain rfl := Option.some.inj h
      exact run_equalIn_int w (m + d) T k k0 a c (und_int (tbl_d hT ht))
    · rename_i s z a c ht
      split at h <;> first | (cases h; done) | skip
      rename_i p q hp hq
      obtain rfl := Option.some.inj h
      simp only [EV.den]
      rw [toB_ok hp, toB_ok hq]
      exact run_eq_bool (und_bool (tbl_d hT ht)) (m + d)
    · rename_i s z a c ht
      obtain rfl := Option.some.inj h
      exact run_equalIn_string w (m + d) T a c (und_str (tbl_d hT ht))
    · rename_i fs s z xs ys ht
      obtain ⟨t, hu, rfl, hc⟩ := und_struct (tbl_d hT ht)
      simp only [Eq.comm (a := true), Bool.and_eq_true, Bool.not_eq_true'] at hc
      obtain ⟨⟨h1, h2⟩, h3⟩ := hc
      have hfo : P.fieldsOf T = t := by simp [Program.fieldsOf, hu]
      refine (run_equalIn_struct w (m + d) T _ _ (by rw [hfo]; exact hu) h1).trans ?_
      rw [hfo]
      exact eqFs_ok (fun t x y b hb => ih t x y b hb m) t.toList b (fun f hf => by simpa using List.all_eq_true.1 h3 f hf) h
    · cases h
theorem strS_ok {op : BinOp} {T : TypeId} {a b : ByteArray} {r : SV} (h : strS op a b = some r) : (binOp op T (.string a) (.string b)).run P w = .ok r.den w ∧ r.ok L := by
  cases op <;> simp only [strS] at h <;> first
    | (cases h; done)
    | (obtain rfl := Option.some.inj h; exact ⟨by simp [binOp, Op.stringOp, SV.den, EV.den, CV.den], trivial⟩)
    | skip
  rcases hb : Nat.ble a.data.toList.length 65535 && Nat.ble b.data.toList.length 65535 with _ | _
  · rw [hb] at h; cases h
  rw [hb] at h
  obtain rfl := Option.some.inj h
  simp only [Bool.and_eq_true, Nat.ble_eq] at hb
  refine ⟨?_, rfl⟩
  have := run_string_add_lists (P := P) (w := w) a.data.toList b.data.toList (by omega) (by omega)
  simp only [binOp]
  exact this
theorem binS_ok {op : BinOp} {T : TypeId} {xo yo : Operand} {x y r : SV} (hT : TbOk P tb) (hy : a.eval yo = y.den) (h : binS tb op T yo x y = some r) :
    (do eqGuard op T xo yo x.den y.den; binOp op T x.den y.den : Sem Value).run P w = .ok r.den w ∧ r.ok L := by
  rcases x with (x | x) | x <;> rcases y with (y | y) | y <;> first | (simp [binS] at h; done) | (cases x <;> simp [binS] at h; done) | skip
  · have key : (Cmp x.den ∧ ∀ l, x.den ≠ .agg l) ∨ (∃ k n, x.den = .int k n) ∨ (∃ s, x.den = .string s) → (eqGuard op T xo yo x.den y.den).run P w = .ok () w := by
      rintro (⟨hc, hl⟩ | ⟨k, n, e⟩ | ⟨b, e⟩)
      · rcases hx : x.den with _ | _ | _ | _ | _ | _ | _ | _ | _ | _ | _ | _ | _ | l | _ <;> rw [hx] at hc <;> first | exact hc.elim | exact absurd hx (hl _) | (cases op <;> rfl)
      · rw [e]; cases op <;> rfl
      · rw [e]; cases op <;> rfl
    have noagg : ∀ {r}, cmpS tb op T x y = some r → ∀ l, x.den ≠ .agg l := fun hq l he => by
      unfold cmpS at hq
      split at hq
      · split at hq <;> first | (cases hq; done) | skip
        rename_i p q hp _
        rw [toB_ok hp] at he; cases he
      · obtain ⟨p, q, hp, _⟩ := nil2_ok hq; obtain ⟨x', hx, _⟩ := nilP_ok hp; rw [hx] at he; cases he
      · obtain ⟨p, q, hp, _⟩ := nil2_ok hq; obtain ⟨x', _, _, hx, _⟩ := nilV_ok hp; rw [hx] at he; cases he
      · obtain ⟨p, q, hp, _⟩ := nil2_ok hq; obtain ⟨x', hx, _⟩ := nilM_ok hp; rw [hx] at he; cases he
      · cases hq
    have main : (binOp op T x.den y.den).run P w = .ok r.den w ∧ r.ok L ∧ ((Cmp x.den ∧ ∀ l, x.den ≠ .agg l) ∨ (∃ k n, x.den = .int k n) ∨ (∃ b, x.den = .string b)) := by
      have two : (∃ k m k' m', x = .i k m ∧ y = .i k' m') ∨ (∃ a b, x = .v (.string a) ∧ y = .v (.string b)) ∨ cmpS tb op T x y = some r := by
        unfold binS at h
        split at h
        · rename_i h1 h2; cases h1; cases h2; exact Or.inl ⟨_, _, _, _, rfl, rfl⟩
        · rename_i h1 h2; cases h1; cases h2; exact Or.inr (Or.inl ⟨_, _, rfl, rfl⟩)
        · rename_i h1 h2; cases h1; cases h2; exact Or.inr (Or.inr h)
        · rename_i h1 h2; cases h1
        · cases h
      rcases two with ⟨k, m, k', m', rfl, rfl⟩ | ⟨a, b, rfl, rfl⟩ | h'
      · have h2 := binS_int (P := P) (w := w) (L := L) hy h
        exact ⟨h2.1, h2.2, Or.inr (Or.inl ⟨k, m, rfl⟩)⟩
      · have h2 := strS_ok (P := P) (w := w) (L := L) (T := T) (show strS op a b = some r from h)
        exact ⟨h2.1, h2.2, Or.inr (Or.inr ⟨a, rfl⟩)⟩
      · have h2 := cmpS_ok (w := w) (L := L) hT h'
        exact ⟨h2.1, h2.2.1, Or.inl ⟨h2.2.2, noagg h'⟩⟩
    refine ⟨?_, main.2.1⟩
    show (do eqGuard op T xo yo x.den y.den; binOp op T x.den y.den : Sem Value).run P w = _
    simp [key main.2.2, main.1]
  · simp only [binS] at h
    split at h <;> first | (cases h; done) | skip
    rename_i b hb
    have h1 := eqT_ok (P := P) (w := w) hT 9 T (.a x) (.a y) b hb 9991
    have h2 := eqS_ok2 (P := P) (w := w) (L := L) (x := (EV.a x).den) (y := (EV.a y).den) trivial h h1
    have hg : P.eqGuardType P.depth T = false := by
      simp only [eqT] at hb
      split at hb <;> first | (cases hb; done) | skip
      all_goals (first | (rename_i h1 h2; cases h1; done) | skip)
      rename_i fs s z xs ys ht hx hy
      obtain ⟨t, hu, _, hc⟩ := und_struct (tbl_d hT ht)
      simp only [Eq.comm (a := true), Bool.and_eq_true, Bool.not_eq_true'] at hc
      exact hc.1.2
    refine ⟨?_, h2.2⟩
    show (do eqGuard op T xo yo (EV.a x).den (EV.a y).den; binOp op T (EV.a x).den (EV.a y).den : Sem Value).run P w = _
    simp only [Sem.run_bind, EV.den, run_eqGuard_agg w op T xo yo _ _ hg, Result.andThen_ok]
    exact h2.1
theorem notS_ok {x : CV} {r : SV} (h : notS x = some r) : ∃ b, x.den = .bool b ∧ r.den = .bool (!b) ∧ r.ok L := by
  cases x <;> simp only [notS] at h <;> first | (cases h; done) | (obtain rfl := Option.some.inj h; exact ⟨_, rfl, rfl, trivial⟩)
theorem atS_ok {y r : SV} {m : Nat} (h : atS y m = some r) (hk : y.ok L) : ∃ ad : Addr, y.den = .pointer (some ad) ∧ r.den = .pointer (some (ad.add m)) ∧ r.ok L := by
  rcases y with (y | y) | y <;> first | (simp [atS] at h; done) | skip
  cases y with
  | p j b o =>
    obtain rfl := Option.some.inj h
    refine ⟨⟨b, o, none⟩, rfl, ?_, hk⟩
    cases m <;> simp [Addr.add, SV.den, EV.den, CV.den]
  | q j b u o =>
    obtain rfl := Option.some.inj h
    refine ⟨⟨b, u + o, none⟩, rfl, ?_, hk⟩
    cases m <;> simp [Addr.add, SV.den, EV.den, CV.den, Nat.add_assoc]
  | v x =>
    cases x with
    | pointer p =>
      cases p with
      | none => simp [atS] at h
      | some ad =>
        obtain ⟨g, o, sp⟩ := ad
        cases sp with
        | some _ => simp [atS] at h
        | none =>
          obtain rfl := Option.some.inj h
          exact ⟨⟨g, o, none⟩, rfl, by cases m <;> simp [Addr.add, SV.den, EV.den, CV.den], rfl⟩
    | _ => simp [atS] at h
  | _ => simp [atS] at h

theorem ok_getD {l : List CV} {o : Nat} {x : CV} (hl : ∀ x ∈ l, x.ok L) (h : l[o]? = some x) : x.ok L := hl x (List.mem_of_getElem? h)
theorem fieldS_ok {t : Array Field} {f : Nat} {l : List CV} {r : SV} (hl : ∀ x ∈ l, x.ok L)
    (h : fieldS l ((t.toList.map fun f => (f.offset, (match P.info? f.type with | some i => i.size | none => 0), aggN P f.type, f.type))[f]?) = some r) :
    ∃ x, t[f]? = some x ∧ (part x.type (l.map CV.den).toArray x.offset).run P w = .ok r.den w ∧ r.ok L := by
  rcases hq : (t.toList.map fun f => (f.offset, (match P.info? f.type with | some i => i.size | none => 0), aggN P f.type, f.type))[f]? with _ | ⟨o, s, g, ft⟩
  · rw [hq] at h; simp [fieldS] at h
  rw [hq] at h
  rcases s with _ | s
  · simp [fieldS] at h
  obtain ⟨x, hx, rfl, hs, hg⟩ := fld hq
  refine ⟨x, hx, ?_⟩
  rcases g with _ | _ | _ | g
  · simp [fieldS] at h
  · simp only [fieldS] at h
    rcases hlo : l[x.offset]? with _ | y
    · rw [hlo] at h; simp at h
    rw [hlo] at h
    obtain rfl := Option.some.inj h
    refine ⟨?_, ok_getD hl hlo⟩
    simp only [part, Sem.run_bind, (run_isAgg w).1 hg, Result.andThen_ok, Bool.false_eq_true, if_false]
    simp [hlo, SV.den, EV.den]
  · simp only [fieldS] at h
    obtain rfl := Option.some.inj h
    refine ⟨?_, fun y hy => hl y (List.mem_of_mem_drop (List.mem_of_mem_take hy))⟩
    simp only [part, Sem.run_bind, (run_isAgg w).2 hg, Result.andThen_ok, if_true, hs, Sem.run_pure]
    simp [SV.den, EV.den, List.map_take, List.map_drop]
  · simp [fieldS] at h
theorem part_ok (hT : TbOk P tb) {e : Nat} {r : TR} (hr : tbl tb e = some r) {l : List CV} {o : Nat} {v : SV} (hl : ∀ x ∈ l, x.ok L) (h : fieldS l (some (o, r.size, bif r.d.sure then (bif r.d.agg then 2 else 1) else 0, 0)) = some v) :
    (part e (l.map CV.den).toArray o).run P w = .ok v.den w ∧ v.ok L := by
  obtain ⟨i0, _, _, hd, _⟩ := vr_info (tbl_ok hT hr)
  have hsz := run_sizeOf (tbl_ok hT hr) w
  rcases hs : r.size with _ | s
  · rw [hs] at h; simp [fieldS] at h
  rw [hs] at h hsz
  rcases hsu : r.d.sure with _ | _
  · rw [hsu] at h; simp [fieldS] at h
  have hg := agg_of hd hsu
  rw [hsu] at h
  rcases ha : r.d.agg with _ | _
  · rw [ha] at h hg
    simp only [cond_true, cond_false, fieldS] at h
    rcases hlo : l[o]? with _ | y
    · rw [hlo] at h; simp at h
    rw [hlo] at h
    obtain rfl := Option.some.inj h
    refine ⟨?_, ok_getD hl hlo⟩
    simp only [part, Sem.run_bind, (run_isAgg w).1 (by simpa using hg), Result.andThen_ok, Bool.false_eq_true, if_false]
    simp [hlo, SV.den, EV.den]
  · rw [ha] at h hg
    simp only [cond_true, fieldS] at h
    obtain rfl := Option.some.inj h
    refine ⟨?_, fun y hy => hl y (List.mem_of_mem_drop (List.mem_of_mem_take hy))⟩
    simp only [part, Sem.run_bind, (run_isAgg w).2 (by simpa using hg), Result.andThen_ok, if_true, hsz, Sem.run_pure]
    simp [SV.den, EV.den, List.map_take, List.map_drop]
theorem lenS_ok {y r : SV} (h : lenS y = some r) : ∃ p n c, y.den = .slice p n c ∧ r = cI .i64 n := by
  unfold lenS at h
  split at h <;> first | (cases h; done) | (obtain rfl := Option.some.inj h; exact ⟨_, _, _, rfl, rfl⟩)
theorem lenStr_ok {y r : SV} (h : lenStr y = some r) : ∃ s, y.den = .string s ∧ r = cI .i64 s.size := by
  unfold lenStr at h
  split at h <;> first | (cases h; done) | (obtain rfl := Option.some.inj h; exact ⟨_, rfl, rfl⟩)
theorem idxC_ok {x : Operand} {k : Nat} (h : idxC x = some k) : ∃ kk, a.eval x = .int kk (Int.ofNat k) := by
  unfold idxC at h
  split at h <;> first | (cases h; done) | skip
  obtain rfl := Option.some.inj h
  exact ⟨_, rfl⟩
theorem den_cI {k : IntKind} {m : Int} : (cI k m).den = .int k m := rfl
/-- Such an operation leaves the world az it is, whatever it is. -/
theorem pureS_ok (hT : TbOk P tb) (hF : FrOk n a L F) {o : Oper} {r : SV} (h : pureS tb F o.op = some r) : (execOp a.eval o).run P w = .ok (.value r.den) w ∧ r.ok L := by
  obtain ⟨dst, op, ty, pos, after, guard⟩ := o
  simp only at h
  unfold pureS at h
  split at h
  · obtain ⟨h1, h2⟩ := evO_ok hF h
    exact ⟨by simp [execOp, h1], h2⟩
  · obtain ⟨h1, h2⟩ := evO_ok hF h
    exact ⟨by simp [execOp, h1], h2⟩
  · rename_i op T x y ty
    split at h <;> first | (cases h; done) | skip
    rename_i u v hu hv
    have h1 := (evO_ok hF hu).1
    have h2 := (evO_ok hF hv).1
    have := binS_ok (w := w) (L := L) (xo := x) hT h2 h
    refine ⟨?_, this.2⟩
    simp only [execOp, h1, h2, Sem.run_bind, Sem.run_pure] at this ⊢
    rw [this.1]; rfl
  · split at h <;> first | (cases h; done) | skip
    rename_i b hb
    obtain ⟨q, h1, h2, h3⟩ := notS_ok (L := L) h
    have e : (SV.e (.c b)).den = .bool q := h1
    exact ⟨by simp [execOp, (evO_ok hF hb).1, e, h2, Op.unary], h3⟩
  · split at h <;> first | (cases h; done) | skip
    rename_i b hb
    obtain rfl := Option.some.inj h
    exact ⟨by simp [execOp, (evO_ok hF hb).1, Op.unary, Op.intArith, SV.den, EV.den, CV.den], trivial⟩
  · split at h <;> first | (cases h; done) | skip
    rename_i k1 s1 z1 k2 s2 z2 k3 m hs hd hb
    obtain rfl := Option.some.inj h
    exact ⟨by simp [execOp, (evO_ok hF hb).1, convert, run_underlying (und_int (tbl_d hT hs)), run_underlying (und_int (tbl_d hT hd)), Conv.intToInt, SV.den, EV.den, CV.den], trivial⟩
  · split at h <;> first | (cases h; done) | skip
    rename_i l hl
    split at h <;> first | (cases h; done) | skip
    rename_i y hy
    obtain rfl := Option.some.inj h
    have h1 := evO_ok hF hl
    refine ⟨?_, h1.2 y (List.mem_of_getElem? hy)⟩
    simp [execOp, h1.1, Instr.extract, SV.den, hy]
  · split at h <;> first | (cases h; done) | skip
    rename_i c fs s z l hs hl
    have h1 := evO_ok hF hl
    obtain ⟨t, ht, rfl, _⟩ := und_struct (tbl_d hT hs)
    obtain ⟨x, hx, hp, ho⟩ := fieldS_ok (w := w) (P := P) h1.2 h
    refine ⟨?_, ho⟩
    simp [execOp, h1.1, Instr.field, run_underlying ht, hx, asAgg, SV.den, EV.den] at hp ⊢
    rw [hp]; rfl
  · split at h <;> first | (cases h; done) | skip
    rename_i c fs s z y hs hy
    split at h <;> first | (cases h; done) | skip
    rename_i o s' g ft hq
    have h1 := evO_ok hF hy
    obtain ⟨t, ht, rfl, _⟩ := und_struct (tbl_d hT hs)
    obtain ⟨x, hx, rfl, hsz, hg⟩ := fld hq
    obtain ⟨ad, h3, h4, h5⟩ := atS_ok h h1.2
    refine ⟨?_, h5⟩
    simp only [execOp, h1.1, h3, Instr.fieldAt, Sem.run_bind, run_underlying ht, Result.andThen_ok, hx, Instr.sureAddr, Sem.run_pure, fieldPlace, hsz]
    simp [h4]
  · split at h <;> first | (cases h; done) | skip
    rename_i m e s z y k hs hy hk
    split at h <;> first | (cases h; done) | skip
    rename_i r' hr
    rcases hb : Nat.blt k m with _ | _
    · rw [hb] at h; simp at h
    rw [hb] at h
    have hlt : k < m := by simpa [Nat.blt_eq] using hb
    have h1 := evO_ok hF hy
    obtain ⟨ad, h3, h4, h5⟩ := atS_ok h h1.2
    refine ⟨?_, h5⟩
    obtain ⟨kk, hi⟩ := idxC_ok (a := a) hk
    have hu := und_array (tbl_d hT hs)
    simp only [execOp, h1.1, h3, hi, Instr.indexAt, asIntOf, Sem.run_bind, Sem.run_pure, run_underlying hu, Result.andThen_ok, Instr.sureAddr]
    simp [hlt, h4, run_sizeOf (tbl_ok hT hr)]
  · split at h <;> first | (cases h; done) | skip
    all_goals
      rename_i hy
      obtain rfl := Option.some.inj h
      have h1 := evO_ok hF hy
      exact ⟨by simp [execOp, h1.1, SV.den, EV.den, CV.den], h1.2⟩
  · rename_i c x y
    split at h
    · rename_i hc
      have e1 := (evO_ok hF hc).1
      have e2 := evO_ok hF h
      refine ⟨?_, e2.2⟩
      have : a.eval c = .bool true := e1
      simp [execOp, this, asBool, e2.1]
    · rename_i hc
      have e1 := (evO_ok hF hc).1
      have e2 := evO_ok hF h
      refine ⟨?_, e2.2⟩
      have : a.eval c = .bool false := e1
      simp [execOp, this, asBool, e2.1]
    · cases h
  · rename_i az ts
    split at h <;> first | (cases h; done) | skip
    rename_i x t hx ht
    obtain rfl : az = #[x] := by apply Array.ext'; simpa using hx
    obtain rfl : ts = #[t] := by apply Array.ext'; simpa using ht
    split at h <;> first | (cases h; done) | skip
    · rename_i e s z y hs hy
      have h1 := evO_ok hF hy
      obtain ⟨p, m, c, h3, rfl⟩ := lenS_ok h
      exact ⟨by simp [execOp, resolve, invoke, builtin, Builtin.len_, h1.1, h3, run_underlying (und_slice (tbl_d hT hs)), goInt, den_cI], trivial⟩
    · rename_i s z y hs hy
      have h1 := evO_ok hF hy
      obtain ⟨p, h3, rfl⟩ := lenStr_ok h
      exact ⟨by simp [execOp, resolve, invoke, builtin, Builtin.len_, h1.1, h3, run_underlying (und_str (tbl_d hT hs)), goInt, den_cI], trivial⟩
  · rename_i az ts
    split at h <;> first | (cases h; done) | skip
    rename_i x y hxy
    obtain rfl : az = #[x, y] := by apply Array.ext'; simpa using hxy
    split at h <;> first | (cases h; done) | skip
    rename_i k m k' m' hx hy
    obtain rfl := Option.some.inj h
    have h1 := (evO_ok hF hx).1
    have h2 := (evO_ok hF hy).1
    refine ⟨?_, trivial⟩
    by_cases hlt : m' < m <;> simp [execOp, resolve, invoke, builtin, Builtin.min_, Builtin.min2, h1, h2, SV.den, EV.den, CV.den, hlt]
  · rename_i az ts
    split at h <;> first | (cases h; done) | skip
    rename_i x y hxy
    obtain rfl : az = #[x, y] := by apply Array.ext'; simpa using hxy
    split at h <;> first | (cases h; done) | skip
    rename_i k m k' m' hx hy
    obtain rfl := Option.some.inj h
    have h1 := (evO_ok hF hx).1
    have h2 := (evO_ok hF hy).1
    refine ⟨?_, trivial⟩
    by_cases hlt : m' > m <;> simp [execOp, resolve, invoke, builtin, Builtin.max_, Builtin.max2, h1, h2, SV.den, EV.den, CV.den, hlt]
  · split at h <;> first | (cases h; done) | skip
    rename_i m e s z l k j ht hx hi
    split at h <;> first | (cases h; done) | skip
    rename_i r' hr
    rcases hb : Nat.blt j m with _ | _
    · rw [hb] at h; cases h
    rw [hb] at h
    simp only [cond_true] at h
    have h1 := evO_ok hF hx
    have h2 := (evO_ok hF hi).1
    have hlt : j < m := by simpa [Nat.blt_eq] using hb
    obtain ⟨p1, p2⟩ := part_ok (P := P) (w := w) hT hr h1.2 h
    refine ⟨?_, p2⟩
    simp only [SV.den, EV.den, CV.den] at h1 h2
    simp only [execOp, h1.1, h2, Instr.index, asIntOf, Sem.run_bind, Sem.run_pure, run_underlying (und_array (tbl_d hT ht)), Result.andThen_ok]
    have : (0 : Int) ≤ Int.ofNat j ∧ (Int.ofNat j : Int) < m := by simp; omega
    rw [if_pos this]
    have e3 : (Int.ofNat j).toNat = j := rfl
    simp only [Sem.run_bind, run_sizeOf (tbl_ok hT hr), Result.andThen_ok, e3, p1, Sem.run_pure]
  · rename_i T x lo hi
    split at h <;> first | (cases h; done) | skip
    rename_i e s z ht hx
    split at h <;> first | (cases h; done) | skip
    rename_i r' hr
    rcases hb : zeroO F lo && zeroO F hi with _ | _
    · rw [hb] at h; cases h
    rw [hb] at h
    obtain rfl := Option.some.inj h
    simp only [Bool.and_eq_true] at hb
    have h1 := (evO_ok hF hx).1
    have hz : ∀ {y : Option Operand}, zeroO F y = true → y.map a.eval = none ∨ ∃ k, y.map a.eval = some (.int k 0) := fun {y} hy => by
      unfold zeroO at hy
      split at hy
      · exact Or.inl rfl
      · split at hy <;> first | (cases hy; done) | skip
        rename_i k m hq
        have := (evO_ok hF hq).1
        obtain rfl := of_decide_eq_true hy
        exact Or.inr ⟨k, by rw [Option.map_some, this]; rfl⟩
    have hbd : ∀ lo hi : Option Value, (lo = none ∨ ∃ k, lo = some (.int k 0)) → (hi = none ∨ ∃ k, hi = some (.int k 0)) → (Instr.sliceBounds true 0 0 lo hi none).run P w = .ok (0, 0, 0) w := fun lo hi hl hh => by
      rcases hl with rfl | ⟨k, rfl⟩ <;> rcases hh with rfl | ⟨k', rfl⟩ <;> simp [Instr.sliceBounds, Instr.sliceBound, asIntOf]
    refine ⟨?_, rfl⟩
    simp only [SV.den, EV.den, CV.den] at h1
    simp only [execOp, h1, Option.map_none, Instr.sliceAt, Instr.slice, Sem.run_bind, run_underlying (und_slice (tbl_d hT ht)), Result.andThen_ok, hbd _ _ (hz hb.1) (hz hb.2), run_sizeOf (tbl_ok hT hr), Sem.run_pure, if_true]
    rfl
  · cases h
end
end
end Go.Proofs.YthmokdfigjffjaaGreatDoor

namespace Go.Proofs.YthmokdfigjffjaaGreatDoor
set_option linter.unusedVariables false
set_option linter.unusedSimpArgs false
open Go.RowKit
noncomputable section

def takeN : Nat → List CV → Option (List CV)
  | 0, _ => some []
  | _ + 1, [] => none
  | n + 1, x :: l => match takeN n l with
    | some r => some (x :: r)
    | none => none
theorem takeN_ok : ∀ {n : Nat} {l r : List CV}, takeN n l = some r → r = l.take n ∧ r.length = n := by
  intro n
  induction n with
  | zero => intro l r h; obtain rfl := Option.some.inj h; simp
  | succ n ih =>
    intro l r h
    cases l with
    | nil => simp [takeN] at h
    | cons x l =>
      simp only [takeN] at h
      rcases ht : takeN n l with _ | q
      · rw [ht] at h; simp at h
      · rw [ht] at h
        obtain rfl := Option.some.inj h
        obtain ⟨h1, h2⟩ := ih ht
        exact ⟨by simp [h1], by simp [h2]⟩
/-- What a variable of a type holds, from a place on. -/
def rdS (r : TR) (cs : List CV) (o : Nat) : Option SV :=
  bif r.d.agg then (match takeN r.size (cs.drop o) with
    | some l => some (.e (.a l))
    | none => none) else
  bif r.d.sure then (match cs[o]? with
    | some x => some (.e (.c x))
    | none => none) else none
theorem Blk.cell {e : Blk} {w : World} (h : e.sat w) (hu : e.T.isC = true) {k : Nat} {x : CV} (hk : e.cs[k]? = some x) : w.cell? ⟨e.b, e.u + k, none⟩ = some x.den ∧ w.frozen? ⟨e.b, e.u + k, none⟩ = false := by
  obtain ⟨b, u, cs, T⟩ := e
  simp only at hk
  cases T with
  | row => exact h k x.den (by simp [hk])
  | grow N => exact h.1 k x.den (by simp [hk])
  | map ks vs => cases hu
  | pin o ks vs => cases hu
  | defr => cases hu
  | loop ld => cases hu
  | obj T =>
    obtain ⟨h1, h2⟩ := h
    simp only at h1 h2
    subst h2
    refine ⟨?_, ?_⟩
    · simp [World.cell?, h1, hk]
    · simp [World.frozen?, h1]
section
variable {P : Program} {tb : Tbx} {n : Nz} {a : Act} {L : Hp} {F : Fr} {w : World}
theorem run_loadVar_cv {T : TypeId} {r : TR} (hr : vr P T = some r) {e : Blk} (hs : e.sat w) (hu : e.T.isC = true) (he : ∀ x ∈ e.cs, x.ok L) {o : Nat} {v : SV} (h : rdS r e.cs o = some v) :
    (loadVar T ⟨e.b, e.u + o, none⟩).run P w = .ok v.den w ∧ v.ok L := by
  obtain ⟨i, hi, hsz, hd, _⟩ := vr_info hr
  unfold rdS at h
  rcases ha : r.d.agg with _ | _
  · rw [ha] at h
    rcases hsu : r.d.sure with _ | _
    · rw [hsu] at h; simp at h
    rw [hsu] at h
    simp only [cond_false, cond_true] at h
    rcases hc : e.cs[o]? with _ | x
    · rw [hc] at h; simp at h
    rw [hc] at h
    obtain rfl := Option.some.inj h
    have hg := agg_of hd hsu
    rw [ha] at hg
    refine ⟨?_, ok_getD he hc⟩
    simp only [loadVar, Sem.run_bind, (run_isAgg w).1 (by simpa using hg), Result.andThen_ok, Bool.false_eq_true, if_false]
    simp [(Blk.cell hs hu hc).1, SV.den, EV.den]
  · rw [ha] at h
    simp only [cond_true] at h
    rcases hc : takeN r.size (e.cs.drop o) with _ | l
    · rw [hc] at h; simp at h
    rw [hc] at h
    obtain rfl := Option.some.inj h
    obtain ⟨hl, hn⟩ := takeN_ok hc
    have hsu : r.d.sure = true := by revert ha; cases r.d <;> simp [TD.agg, TD.sure]
    have hg := agg_of hd hsu
    rw [ha] at hg
    refine ⟨?_, fun x hx => he x ?_⟩
    · have hrun := run_loadCells_list (P := P) (w := w) ⟨e.b, e.u + o, none⟩ (l.map CV.den) (fun j v hv => by
        rw [List.getElem?_map] at hv
        rcases hlj : l[j]? with _ | x
        · rw [hlj] at hv; simp at hv
        · rw [hlj] at hv
          obtain rfl : x.den = v := by simpa using hv
          have hj : j < r.size := by rw [← hn]; exact (List.getElem?_eq_some_iff.1 hlj).1
          have hx : e.cs[o + j]? = some x := by rw [← hlj, hl, List.getElem?_take_of_lt hj, List.getElem?_drop]
          have := (Blk.cell hs hu hx).1
          cases j with
          | zero => simpa [Addr.add] using this
          | succ j => simpa [Addr.add, Nat.add_assoc] using this)
      rw [List.length_map, hn] at hrun
      simp only [loadVar, Sem.run_bind, (run_isAgg w).2 (by simpa using hg), Result.andThen_ok, if_true, run_sizeOf hr, hrun, Sem.run_pure]
      rfl
    · subst hl; exact List.mem_of_mem_drop (List.mem_of_mem_take hx)
end
/-- Cells from a place on put anew. -/
def setV : List CV → List CV → Option (List CV)
  | [], cs => some cs
  | v :: vs, cs => match cs with
    | _ :: cs => (match setV vs cs with
      | some r => some (v :: r)
      | none => none)
    | [] => none
def setI : Nat → List CV → List CV → Option (List CV)
  | 0, cs, vs => setV vs cs
  | o + 1, cs, vs => match cs with
    | c :: cs => (match setI o cs vs with
      | some r => some (c :: r)
      | none => none)
    | [] => none
/-- (By recursors, in continuation style: the kernel is quicker so.) -/
noncomputable def setD (vs : List CV) (o : Nat) : List CV → (List CV → List CV) → Option (List CV) :=
  Nat.rec (fun cs acc => match setV vs cs with
    | some r => some (acc r)
    | none => none) (fun _ ih cs acc => List.rec none (fun c cs _ => ih cs (fun r => acc (c :: r))) cs) o
theorem setD_eq (vs : List CV) : ∀ (o : Nat) (cs : List CV) (acc : List CV → List CV), setD vs o cs acc = (setI o cs vs).map acc
  | 0, cs, acc => by
    show (match setV vs cs with
      | some r => some (acc r)
      | none => none) = _
    unfold setI
    cases setV vs cs <;> rfl
  | o + 1, [], acc => rfl
  | o + 1, c :: cs, acc => by
    show setD vs o cs (fun r => acc (c :: r)) = _
    rw [setD_eq vs o cs]
    show _ = (match setI o cs vs with
      | some r => some (c :: r)
      | none => none).map acc
    cases setI o cs vs <;> rfl
def setA (o : Nat) (cs vs : List CV) : Option (List CV) := setD vs o cs id
theorem setA_eq (o : Nat) (cs vs : List CV) : setA o cs vs = setI o cs vs := by
  show setD vs o cs id = _
  rw [setD_eq]
  cases setI o cs vs <;> rfl
theorem setA_zero (cs vs : List CV) : setA 0 cs vs = setV vs cs := setA_eq 0 cs vs
theorem setA_succ (o : Nat) (cs vs : List CV) : setA (o + 1) cs vs = match cs with
    | c :: cs => (match setA o cs vs with
      | some r => some (c :: r)
      | none => none)
    | [] => none := by
  rw [setA_eq]
  cases cs with
  | nil => rfl
  | cons c cs => simp only [setA_eq, setI]
def setN (cs : List CV) (o : Nat) (vs : List CV) : Option (List CV) := setA o cs vs
theorem setV_ok : ∀ {vs cs r : List CV}, setV vs cs = some r → vs.length ≤ cs.length ∧ r.length = cs.length ∧ ∀ k, r[k]? = if k < vs.length then vs[k]? else cs[k]? := by
  intro vs
  induction vs with
  | nil => intro cs r h; obtain rfl := Option.some.inj h; exact ⟨Nat.zero_le _, rfl, fun k => by rw [if_neg (by simp)]⟩
  | cons v vs ih =>
    intro cs r h
    cases cs with
    | nil => simp [setV] at h
    | cons c cs =>
      simp only [setV] at h
      rcases hs : setV vs cs with _ | q
      · rw [hs] at h; simp at h
      rw [hs] at h
      obtain rfl := Option.some.inj h
      obtain ⟨h1, h2, h3⟩ := ih hs
      refine ⟨by simpa using h1, by simp [h2], fun k => ?_⟩
      cases k with
      | zero => simp
      | succ k => simp [h3 k]
theorem setN_ok : ∀ {o : Nat} {cs vs r : List CV}, setN cs o vs = some r → o + vs.length ≤ cs.length ∧ r.length = cs.length ∧ ∀ k, r[k]? = if o ≤ k ∧ k < o + vs.length then vs[k - o]? else cs[k]? := by
  unfold setN
  intro o
  induction o with
  | zero =>
    intro cs vs r h
    rw [setA_zero] at h
    obtain ⟨h1, h2, h3⟩ := setV_ok h
    exact ⟨by omega, h2, fun k => by simp [h3 k]⟩
  | succ o ih =>
    intro cs vs r h
    cases cs with
    | nil => simp [setA_succ] at h
    | cons c cs =>
      simp only [setA_succ] at h
      rcases hs : setA o cs vs with _ | q
      · rw [hs] at h; simp at h
      rw [hs] at h
      obtain rfl := Option.some.inj h
      obtain ⟨h1, h2, h3⟩ := ih hs
      refine ⟨by simp; omega, by simp [h2], fun k => ?_⟩
      cases k with
      | zero => simp
      | succ k =>
        have := h3 k
        simp only [List.getElem?_cons_succ, this]
        have e : o + 1 ≤ k + 1 ∧ k + 1 < o + 1 + vs.length ↔ o ≤ k ∧ k < o + vs.length := by omega
        by_cases hc : o ≤ k ∧ k < o + vs.length
        · rw [if_pos hc, if_pos (e.2 hc)]; congr 1; omega
        · rw [if_neg hc, if_neg (fun h => hc (e.1 h))]
/-- The world behind the stores of a row of cells. -/
def stW (w : World) (b : Nat) : Nat → List Value → World
  | _, [] => w
  | o, v :: vs => stW (w.setCell ⟨b, o, none⟩ v) b (o + 1) vs
theorem stW_other {b k : Nat} (h : k ≠ b) : ∀ (vs : List Value) (o : Nat) (w : World), (stW w b o vs).heap[k]? = w.heap[k]?
  | [], _, _ => rfl
  | _ :: vs, o, _ => (stW_other h vs (o + 1) _).trans (Below.heap_setCell _ _ _ _ h)
theorem stW_same {b : Nat} : ∀ (vs : List Value) (o : Nat) (w : World), (stW w b o vs).os = w.os ∧ (stW w b o vs).tape = w.tape ∧ (stW w b o vs).output = w.output ∧ (stW w b o vs).heap.size = w.heap.size
  | [], _, _ => ⟨rfl, rfl, rfl, rfl⟩
  | v :: vs, o, w => by
    obtain ⟨h1, h2, h3, h4⟩ := stW_same (b := b) vs (o + 1) (w.setCell ⟨b, o, none⟩ v)
    exact ⟨h1, h2, h3, h4.trans (by simp [World.setCell])⟩
theorem heap_setCell_self {w : World} {b o : Nat} {c : Array Value} {T : TypeId} {fr : Nat × Nat} (h : w.heap[b]? = some (.cells c T fr)) (v : Value) : (w.setCell ⟨b, o, none⟩ v).heap[b]? = some (.cells (c.setIfInBounds o v) T fr) := by
  have hlt := (Array.getElem?_eq_some_iff.1 h).1
  have hg := (Array.getElem?_eq_some_iff.1 h).2
  simp only [World.setCell, Array.getElem?_modify]
  simp [h]
theorem stW_self {b : Nat} {T : TypeId} {fr : Nat × Nat} : ∀ (vs : List Value) (o : Nat) (w : World) (c : Array Value), w.heap[b]? = some (.cells c T fr) →
    ∃ c', (stW w b o vs).heap[b]? = some (.cells c' T fr) ∧ c'.size = c.size ∧ ∀ k, c'[k]? = if o ≤ k ∧ k < o + vs.length ∧ k < c.size then vs[k - o]? else c[k]? := by
  intro vs
  induction vs with
  | nil => intro o w c h; exact ⟨c, h, rfl, fun k => by rw [if_neg (by simp; omega)]⟩
  | cons v vs ih =>
    intro o w c h
    obtain ⟨c', h1, h2, h3⟩ := ih (o + 1) (w.setCell ⟨b, o, none⟩ v) (c.setIfInBounds o v) (heap_setCell_self h v)
    refine ⟨c', h1, h2.trans (by simp), fun k => ?_⟩
    rw [h3 k]
    simp only [Array.size_setIfInBounds, List.length_cons]
    by_cases hk : k = o
    · subst hk
      rw [if_neg (by omega)]
      by_cases hs : k < c.size
      · rw [if_pos (by omega)]; simp [hs]
      · rw [if_neg (by omega)]; simp [hs]
    · by_cases hc : o + 1 ≤ k ∧ k < o + 1 + vs.length ∧ k < c.size
      · rw [if_pos hc, if_pos (by omega)]
        have : k - o = (k - (o + 1)) + 1 := by omega
        rw [this]; simp
      · rw [if_neg hc, if_neg (by omega)]
        simp [Ne.symm hk]
theorem run_storeCells_cv {P : Program} {b u : Nat} : ∀ (vs : List Value) (i : Nat) (w : World), (∀ v ∈ vs, v.oneCell' = true) → (∀ k, k < vs.length → (w.cell? ⟨b, u + i + k, none⟩).isSome = true ∧ w.frozen? ⟨b, u + i + k, none⟩ = false) →
    (storeCells ⟨b, u, none⟩ vs i).run P w = .ok () (stW w b (u + i) vs)
  | [], _, _, _, _ => rfl
  | v :: vs, i, w, h1, hc => by
    obtain ⟨c0, f0⟩ := hc 0 (by simp)
    obtain ⟨x, hx⟩ := Option.isSome_iff_exists.1 c0
    have hadd : Addr.add ⟨b, u, none⟩ i = ⟨b, u + i, none⟩ := by cases i <;> simp [Addr.add]
    have hx' : w.cell? ⟨b, u + i, none⟩ = some x := by simpa using hx
    have f0' : w.frozen? ⟨b, u + i, none⟩ = false := by simpa using f0
    obtain ⟨c, T, fr, hb⟩ : ∃ c T fr, w.heap[b]? = some (.cells c T fr) := by
      unfold World.cell? at hx'
      split at hx' <;> first | (cases hx'; done) | exact ⟨_, _, _, by assumption⟩
    have ih := run_storeCells_cv (P := P) (b := b) (u := u) vs (i + 1) (w.setCell ⟨b, u + i, none⟩ v) (fun v hv => h1 v (List.mem_cons_of_mem _ hv)) (fun k hk => by
      obtain ⟨ck, fk⟩ := hc (k + 1) (by simpa using hk)
      have hb' := heap_setCell_self (o := u + i) hb v
      have e : u + (i + 1) + k = u + i + (k + 1) := by omega
      rw [e]
      refine ⟨?_, ?_⟩
      · simp only [World.cell?, hb, hb'] at ck ⊢
        simpa using ck
      · simp only [World.frozen?, hb, hb'] at fk ⊢
        exact fk)
    simp only [storeCells, Sem.run_bind, hadd]
    rw [run_store P w _ v _ (h1 v (List.mem_cons_self ..))]
    simp only [hx', f0', Bool.false_eq_true, if_false, Result.andThen_ok]
    exact ih
end
end Go.Proofs.YthmokdfigjffjaaGreatDoor
