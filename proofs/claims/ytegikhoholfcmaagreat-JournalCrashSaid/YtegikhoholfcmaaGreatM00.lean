/-
  Part 0 of the proof: SxA, SxB, SxC, SxD, SxE, SxF, SxG, SxH, SxI.
-/
import Derived.WalkKit
import Derived.Orders
import Derived.Still
import Derived.TacticsIn
import Derived.OrdersIn
import Derived.RangeFuncLeaves
import Derived.RangeFuncRecord
namespace Go.Sx
set_option linter.unusedVariables false
abbrev Heap := Array Obj
abbrev Env := Nat → Value
def upd (ρ : Env) (d : Nat) (v : Value) : Env := fun t => bif Nat.beq t d then v else ρ t
def updO (ρ : Env) (d : Option Nat) (v : Value) : Env := match d with | some d => upd ρ d v | none => ρ
def ev (ρ : Env) : Operand → Value
  | .tmp t => ρ t
  | .const v => v
  | .global g => .pointer (some ⟨g, 0, none⟩)
  | .func f => .func (.func f) #[] #[]
def SameW (w w' : World) : Prop := w'.os = w.os ∧ w'.tape = w.tape ∧ w'.output = w.output
theorem SameW.refl (w : World) : SameW w w := ⟨rfl, rfl, rfl⟩
theorem SameW.trans {a b c : World} (h : SameW a b) (k : SameW b c) : SameW a c := ⟨k.1.trans h.1, k.2.1.trans h.2.1, k.2.2.trans h.2.2⟩
structure Sl where
  a : Option Addr
  l : Nat
  c : Nat
inductive K1 where
  | i (k : IntKind) | b | s | p | sl | m | v
@[reducible] def K1.T : K1 → Type
  | .i _ => Int | .b => Bool | .s => ByteArray | .p => Option Addr | .sl => Sl | .m => Option Nat | .v => Value
def K1.mk : (k : K1) → k.T → Value
  | .i k, n => .int k n
  | .b, x => .bool x
  | .s, x => .string x
  | .p, x => .pointer x
  | .sl, x => .slice x.a x.l x.c
  | .m, x => .map x
  | .v, x => x
def ikNum : IntKind → Nat
  | .i8 => 0 | .i16 => 1 | .i32 => 2 | .i64 => 3 | .u8 => 4 | .u16 => 5 | .u32 => 6 | .u64 => 7
theorem ikNum_inj {a b : IntKind} (h : Nat.beq (ikNum a) (ikNum b) = true) : a = b := by cases a <;> cases b <;> first | rfl | cases h
def K1.el {α : Type} (d : α) : (k : K1) → (k.T → α) → Value → α
  | .i k, f, .int k' n => bif Nat.beq (ikNum k') (ikNum k) then f n else d
  | .b, f, .bool x => f x
  | .s, f, .string x => f x
  | .p, f, .pointer x => f x
  | .sl, f, .slice a l c => f ⟨a, l, c⟩
  | .m, f, .map x => f x
  | .v, f, x => f x
  | _, _, _ => d
theorem K1.el_spec {k : K1} {f : k.T → Prop} {v : Value} (h : K1.el False k f v) : ∃ x, v = k.mk x ∧ f x := by
  cases k <;> cases v <;> simp only [K1.el] at h <;> first
    | exact h.elim
    | exact ⟨_, rfl, h⟩
    | (rename_i k k' n
       cases e : Nat.beq (ikNum k') (ikNum k) with
       | true => rw [e] at h; obtain rfl := ikNum_inj e; exact ⟨_, rfl, h⟩
       | false => rw [e] at h; exact h.elim)
theorem K1.el_mk {α : Type} {d : α} {k : K1} {f : k.T → α} (x : k.T) : K1.el d k f (k.mk x) = f x := by
  cases k <;> simp only [K1.el, K1.mk]
  rename_i k
  cases k <;> rfl
inductive Kd where
  | one (k : K1)
  | ag (l : List K1)
@[reducible] def TA (β : Type) : List K1 → Type
  | [] => β
  | k :: l => k.T → TA β l
@[reducible] def TG (α : Type) : List Kd → Type
  | [] => Heap → α
  | .one k :: r => k.T → TG α r
  | .ag l :: r => TA (TG α r) l
def elA {α β : Type} (d : α) : (l : List K1) → TA β l → List Value → (β → α) → α
  | [], J, [], f => f J
  | k :: l, J, v :: vs, f => K1.el d k (fun x => elA d l (J x) vs f) v
  | _, _, _, _ => d
def app {α : Type} (d : α) : (ks : List Kd) → TG α ks → List Value → Heap → α
  | [], J, [], h => J h
  | .one k :: r, J, v :: vs, h => K1.el d k (fun x => app d r (J x) vs h) v
  | .ag l :: r, J, v :: vs, h => match v with
    | .agg cs => elA d l J cs.toList (fun J' => app d r J' vs h)
    | _ => d
  | _, _, _, _ => d
def allA : (l : List K1) → (List Value → Prop) → Prop
  | [], P => P []
  | k :: l, P => ∀ x : k.T, allA l (fun vs => P (k.mk x :: vs))
def allT : (ks : List Kd) → (List Value → Prop) → Prop
  | [], P => P []
  | .one k :: r, P => ∀ x : k.T, allT r (fun vs => P (k.mk x :: vs))
  | .ag l :: r, P => allA l (fun cs => allT r (fun vs => P (.agg cs.toArray :: vs)))
def exA : (l : List K1) → (List Value → Prop) → Prop
  | [], P => P []
  | k :: l, P => ∃ x : k.T, exA l (fun vs => P (k.mk x :: vs))
def exT : (ks : List Kd) → (List Value → Prop) → Prop
  | [], P => P []
  | .one k :: r, P => ∃ x : k.T, exT r (fun vs => P (k.mk x :: vs))
  | .ag l :: r, P => exA l (fun cs => exT r (fun vs => P (.agg cs.toArray :: vs)))
def exR : List Kd → (Value → Prop) → Prop
  | [], P => P (.tuple #[])
  | [.one k], P => ∃ x : k.T, P (k.mk x)
  | [.ag l], P => exA l (fun cs => P (.agg cs.toArray))
  | ks, P => exT ks (fun vs => P (.tuple vs.toArray))
theorem exA_spec {l : List K1} {P : List Value → Prop} (h : exA l P) : ∃ vs, vs.length = l.length ∧ P vs := by
  induction l generalizing P with
  | nil => exact ⟨[], rfl, h⟩
  | cons k l ih => obtain ⟨x, h⟩ := h; obtain ⟨vs, e, h⟩ := ih h; exact ⟨_, by simp [e], h⟩
theorem exT_spec {ks : List Kd} {P : List Value → Prop} (h : exT ks P) : ∃ vs, P vs := by
  induction ks generalizing P with
  | nil => exact ⟨[], h⟩
  | cons k l ih => cases k with
    | one k => obtain ⟨x, h⟩ := h; obtain ⟨vs, h⟩ := ih h; exact ⟨_, h⟩
    | ag l => obtain ⟨cs, _, h⟩ := exA_spec h; obtain ⟨vs, h⟩ := ih h; exact ⟨_, h⟩
theorem exR_spec {ks : List Kd} {P : Value → Prop} (h : exR ks P) : ∃ v, P v := by
  unfold exR at h
  split at h
  · exact ⟨_, h⟩
  · obtain ⟨x, h⟩ := h; exact ⟨_, h⟩
  · obtain ⟨cs, _, h⟩ := exA_spec h; exact ⟨_, h⟩
  · obtain ⟨vs, h⟩ := exT_spec h; exact ⟨_, h⟩
theorem allA_elA {β : Type} {l : List K1} {J : TA β l} {P : List Value → Prop} {f : β → Prop} {cs : List Value}
    (h : allA l (fun vs => elA False l J vs f → P vs)) (hs : elA False l J cs f) : P cs := by
  induction l generalizing P cs with
  | nil => cases cs with
    | nil => exact h hs
    | cons => exact hs.elim
  | cons k l ih => cases cs with
    | nil => exact hs.elim
    | cons v vs =>
      obtain ⟨x, rfl, hx⟩ := K1.el_spec hs
      refine ih (J := J x) (P := fun vs => P (k.mk x :: vs)) ?_ hx
      have := h x
      simpa only [elA, K1.el_mk] using this
theorem elA_mono {β : Type} {l : List K1} {J : TA β l} {f g : β → Prop} {cs : List Value} (hfg : ∀ b, f b → g b) (hs : elA False l J cs f) : elA False l J cs g := by
  induction l generalizing cs with
  | nil => cases cs with
    | nil => exact hfg _ hs
    | cons => exact hs.elim
  | cons k l ih => cases cs with
    | nil => exact hs.elim
    | cons v vs =>
      obtain ⟨x, rfl, hx⟩ := K1.el_spec hs
      show K1.el False k _ _
      rw [K1.el_mk]
      exact ih hx
theorem allT_app {ks : List Kd} {J : TG Prop ks} {P : List Value → Heap → Prop}
    (h : allT ks (fun vs => ∀ h, app False ks J vs h → P vs h)) {vs : List Value} {hp : Heap} (hs : app False ks J vs hp) : P vs hp := by
  induction ks generalizing P vs with
  | nil => cases vs with
    | nil => exact h hp hs
    | cons => exact hs.elim
  | cons k r ih => cases k with
    | one k => cases vs with
      | nil => exact hs.elim
      | cons v vs =>
        obtain ⟨x, rfl, hx⟩ := K1.el_spec hs
        refine ih (J := J x) (P := fun vs hp => P (k.mk x :: vs) hp) ?_ hx
        have := h x
        simpa only [app, K1.el_mk] using this
    | ag l => cases vs with
      | nil => exact hs.elim
      | cons v vs =>
        cases v with
        | agg cs =>
          have hs' : elA False l J cs.toList (fun J' => app False r J' vs hp) := hs
          have key : ∀ (l : List K1) (J : TA (TG Prop r) l) (Q : List Value → List Value → Heap → Prop) (cs : List Value),
              allA l (fun cs => allT r (fun vs => ∀ h, elA False l J cs (fun J' => app False r J' vs h) → Q cs vs h)) →
              elA False l J cs (fun J' => app False r J' vs hp) → Q cs vs hp := by
            intro l
            induction l with
            | nil => intro J Q cs hh hcs; cases cs with
              | nil => exact ih (J := J) (P := fun vs hp => Q [] vs hp) hh hcs
              | cons => exact hcs.elim
            | cons k l ihl => intro J Q cs hh hcs; cases cs with
              | nil => exact hcs.elim
              | cons v cs =>
                obtain ⟨x, rfl, hx⟩ := K1.el_spec hcs
                refine ihl (J x) (fun cs => Q (k.mk x :: cs)) cs ?_ hx
                have := hh x
                simpa only [elA, K1.el_mk] using this
          have := key l J (fun cs vs hp => P (.agg cs.toArray :: vs) hp) cs.toList (by simpa only [allT, app] using h) hs'
          simpa using this
        | _ => exact hs.elim
def CallsH (P : Program) (f : FuncId) (args : Array Value) (h : Heap) (R : Value → Heap → Prop) : Prop :=
  ∀ w : World, w.heap = h → Calls P f args w (fun e w' => SameW w w' ∧ ∃ v, e = .returned v ∧ R v w'.heap)
theorem CallsH.mono {P : Program} {f : FuncId} {args : Array Value} {h : Heap} {R R' : Value → Heap → Prop} (hc : CallsH P f args h R) (hr : ∀ v h', R v h' → R' v h') : CallsH P f args h R' :=
  fun w hw => (hc w hw).mono fun _ _ ⟨s, v, e, r⟩ => ⟨s, v, e, hr _ _ r⟩
abbrev Fr (r : Option Nat) : Fence := { fn := fun _ => True, depth := none, alive := false, round := r }
theorem CallsH.fenced {P : Program} {f : FuncId} {args : Array Value} {h : Heap} {R : Value → Heap → Prop} (hc : CallsH P f args h R) {w : World} (hw : w.heap = h) (r : Option Nat) :
    CallsIn (Fr r) 0 P f args w (fun e w' => SameW w w' ∧ ∃ v, e = .returned v ∧ R v w'.heap) := (callsIn_wide (n := 0)).2 (hc w hw)
def RoundH (P : Program) (l : Nat) (args : List Value) (h : Heap) (R : Value → Heap → Prop) : Prop :=
  ∀ w : World, w.heap = h → ∃ f tmps asg body, (Instr.yield l args.toArray).run P w = .ok (.round l f tmps asg body) w ∧
    RoundIn (Fr none) 0 P l f tmps asg body w (fun e w' => SameW w w' ∧ ∃ v, e = .returned v ∧ R v w'.heap)
theorem RoundH.mono {P : Program} {l : Nat} {args : List Value} {h : Heap} {R R' : Value → Heap → Prop} (hc : RoundH P l args h R) (hr : ∀ v h', R v h' → R' v h') : RoundH P l args h R' := fun w hw => by
  obtain ⟨f, tmps, asg, body, h1, h2⟩ := hc w hw
  exact ⟨f, tmps, asg, body, h1, h2.mono fun _ _ ⟨s, v, e, r⟩ => ⟨s, v, e, hr _ _ r⟩⟩
def RunK (P : Program) (k : K1) (s : Sem Value) (h : Heap) (K : k.T → Heap → Prop) : Prop :=
  ∀ w : World, w.heap = h → ∃ x w', s.run P w = .ok (k.mk x) w' ∧ SameW w w' ∧ K x w'.heap
def RunU (P : Program) (s : Sem Unit) (h : Heap) (K : Heap → Prop) : Prop :=
  ∀ w : World, w.heap = h → ∃ w', s.run P w = .ok () w' ∧ SameW w w' ∧ K w'.heap
def QRunK (P : Program) (k : K1) (s : Sem Value) (h : Heap) (K : k.T → Prop) : Prop :=
  ∃ x, (∀ w : World, w.heap = h → s.run P w = .ok (k.mk x) w) ∧ K x
def cellH (h : Heap) (b o : Nat) : Option Value := match h[b]? with
  | some (.cells c _ _) => c[o]?
  | _ => none
theorem cell?_eq (w : World) (b o : Nat) : w.cell? ⟨b, o, none⟩ = cellH w.heap b o := by
  unfold World.cell? cellH
  split <;> simp_all
def CellsAt (h : Heap) (b : Nat) : Nat → List Value → Prop
  | _, [] => True
  | o, v :: vs => cellH h b o = some v ∧ CellsAt h b (o + 1) vs
def Fresh (h : Heap) (o : Obj) (b : Nat) (h' : Heap) : Prop := b = h.size ∧ h' = h.push o
def splice (c : Array Value) (o : Nat) : List Value → Array Value
  | [] => c
  | v :: vs => splice (c.setIfInBounds o v) (o + 1) vs
def CanSt (h : Heap) (b o : Nat) (vs : List Value) : Prop :=
  ∃ c T fz, h[b]? = some (.cells c T fz) ∧ o + vs.length ≤ c.size ∧ (fz.2 ≤ o ∨ o + vs.length ≤ fz.1)
def Stored (h : Heap) (b o : Nat) (vs : List Value) (h' : Heap) : Prop :=
  h' = h.modify b fun | .cells c T fz => .cells (splice c o vs) T fz | x => x
def CondP (c : Bool) (A B : Prop) : Prop := match c with | true => A | false => B
theorem CondP.of {c : Bool} {A B : Prop} (h1 : c = true → A) (h2 : c = false → B) : CondP c A B := by cases c; exact h2 rfl; exact h1 rfl
end Go.Sx
namespace Go.Sx
set_option linter.unusedVariables false
inductive Shape where
  | int (k : IntKind) | bool | str | ptr | slice (e : TypeId) | arr (n : Nat) (e : TypeId) | strct (fs : List (Nat × TypeId)) | fn | map
def Shape.ok : Shape → TypeDesc → Prop
  | .int k, d => d = .int k
  | .bool, d => d = .bool
  | .str, d => d = .string
  | .ptr, d => ∃ e, d = .pointer e
  | .slice e, d => d = .slice e
  | .arr n e, d => d = .array n e
  | .strct fs, d => ∃ a, d = .struct a ∧ a.toList.map (fun f => (f.offset, f.type)) = fs
  | .fn, d => ∃ a b c, d = .func a b c
  | .map, d => ∃ a b, d = .map a b
def Shape.agg : Shape → Bool
  | .arr _ _ => true | .strct _ => true | _ => false
structure Ti where
  shape : Shape
  size : Nat
  zero : List Value
  ks : List K1
structure Tab where
  ty : TypeId → Option Ti
  res : FuncId → Option (List Kd)
  rt : TypeId → Option (List Kd)
def Ti.ok (P : Program) (t : TypeId) (ti : Ti) : Prop :=
  (∃ i, P.info? t = some i ∧ (∃ z, i.zero = some z ∧ z.cells.toList = ti.zero) ∧ i.size = ti.size) ∧ ∃ d, P.underlying t = some d ∧ ti.shape.ok d
def Callable (P : Program) (g : FuncId) : Prop := ∃ fn, P.funcs[g]? = some fn ∧ (fn.name == "runtime.NumGoroutine") = false ∧ fn.body.isNone = false
structure TabOk (P : Program) (T : Tab) : Prop where
  ty : ∀ t ti, T.ty t = some ti → ti.ok P t
  res : ∀ g r, T.res g = some r → Callable P g
abbrev QK := Value → Option (Heap → Prop) → Prop
def OkIn (c : Option (Heap → Prop)) (h : Heap) : Prop := match c with | none => True | some C => C h
def NilP (p : Option Addr) (K : Nat → Nat → Prop) : Prop := match p with
  | some ⟨b, o, none⟩ => K b o
  | _ => False
theorem NilP.spec {p : Option Addr} {K : Nat → Nat → Prop} (h : NilP p K) : ∃ b o, p = some ⟨b, o, none⟩ ∧ K b o := by
  unfold NilP at h
  split at h
  · exact ⟨_, _, rfl, h⟩
  · exact h.elim
theorem NilP.of {p : Option Addr} {K : Nat → Nat → Prop} {b o : Nat} (h : p = some ⟨b, o, none⟩) (hk : K b o) : NilP p K := by subst h; exact hk
def mulN (n s : Nat) : Nat := bif Nat.beq s 1 then n else n * s
theorem mulN_eq (n s : Nat) : mulN n s = n * s := by
  unfold mulN
  cases h : Nat.beq s 1 with
  | true => have := Nat.eq_of_beq_eq_true h; subst this; simp
  | false => rfl
def vcPick (c : Bool) (a b : Value) (κ : QK) : Prop := match a, b with
  | .bool x, .bool y => κ (.bool (bif c then x else y)) none
  | x, y => CondP c (κ x none) (κ y none)
def bAnd (k : IntKind) (a b : Int) : Int := k.wrap (BitVec.ofInt k.bits a &&& BitVec.ofInt k.bits b).toNat
def bOr (k : IntKind) (a b : Int) : Int := k.wrap (BitVec.ofInt k.bits a ||| BitVec.ofInt k.bits b).toNat
def bXor (k : IntKind) (a b : Int) : Int := k.wrap (BitVec.ofInt k.bits a ^^^ BitVec.ofInt k.bits b).toNat
def bAndNot (k : IntKind) (a b : Int) : Int := k.wrap (BitVec.ofInt k.bits a &&& ~~~ (BitVec.ofInt k.bits b)).toNat
def shlV (k : IntKind) (a b : Int) : Int := k.wrap (a * 2 ^ min b.toNat k.bits)
def shrV (k : IntKind) (a b : Int) : Int := a.fdiv (2 ^ min b.toNat k.bits)
def vcBinI (op : BinOp) (k : IntKind) (a b : Int) (κ : Value → Prop) : Prop := match op with
  | .add => κ (.int k (k.wrap (a + b)))
  | .sub => κ (.int k (k.wrap (a - b)))
  | .mul => κ (.int k (k.wrap (a * b)))
  | .quo => b ≠ 0 ∧ κ (.int k (k.wrap (a.tdiv b)))
  | .rem => b ≠ 0 ∧ κ (.int k (a.tmod b))
  | .and => κ (.int k (bAnd k a b))
  | .or => κ (.int k (bOr k a b))
  | .xor => κ (.int k (bXor k a b))
  | .andNot => κ (.int k (bAndNot k a b))
  | .eql => κ (.bool (a == b))
  | .neq => κ (.bool (a != b))
  | .lss => κ (.bool (decide (a < b)))
  | .leq => κ (.bool (decide (a ≤ b)))
  | .gtr => κ (.bool (decide (a > b)))
  | .geq => κ (.bool (decide (a ≥ b)))
  | _ => False
def vcBin (T : Tab) (op : BinOp) (t : TypeId) (x y : Value) (κ : Value → Prop) : Prop := match x, y with
  | .int k a, .int k' b => (match op with
    | .shl => 0 ≤ b ∧ κ (.int k (shlV k a b))
    | .shr => 0 ≤ b ∧ κ (.int k (shrV k a b))
    | op => bif Nat.beq (ikNum k) (ikNum k') then vcBinI op k a b κ else False)
  | .pointer p, .pointer none => (match op, (T.ty t).map Ti.shape with
    | .eql, some .ptr => κ (.bool p.isNone)
    | .neq, some .ptr => κ (.bool (!p.isNone))
    | _, _ => False)
  | .slice p _ _, .slice none _ _ => (match op, (T.ty t).map Ti.shape with
    | .eql, some (.slice _) => κ (.bool p.isNone)
    | .neq, some (.slice _) => κ (.bool (!p.isNone))
    | _, _ => False)
  | .string a, .string b => (match op with
    | .eql => κ (.bool (a.toList == b.toList))
    | .neq => κ (.bool (!(a.toList == b.toList)))
    | _ => False)
  | .bool a, .bool b => (match op, (T.ty t).map Ti.shape with
    | .eql, some .bool => κ (.bool (a == b))
    | .neq, some .bool => κ (.bool (!(a == b)))
    | _, _ => False)
  | _, _ => False
def vcUn (op : UnOp) (x : Value) (κ : Value → Prop) : Prop := match op, x with
  | .neg, .int k n => κ (.int k (k.wrap (0 - n)))
  | .xor, .int k n => κ (.int k (bXor k (if k.signed then -1 else k.max) n))
  | .not, .bool b => κ (.bool (!b))
  | _, _ => False
theorem run_pure' {P : Program} {w : World} {α : Type} (a : α) : (pure a : Sem α).run P w = .ok a w := rfl
theorem vcBinI_sound {op : BinOp} {k : IntKind} {a b : Int} {κ : Value → Prop} (h : vcBinI op k a b κ) (t : TypeId) :
    ∃ v, κ v ∧ ∀ (P : Program) (w : World), (binOp op t (.int k a) (.int k b)).run P w = .ok v w := by
  cases op <;> simp only [vcBinI] at h <;> first
    | exact h.elim
    | (exact ⟨_, h, fun P w => by simp [binOp, Op.intArith, Op.intBits, Op.intCmp, bAnd, bOr, bXor, bAndNot]⟩)
    | (exact ⟨_, h.2, fun P w => by simp [binOp, Op.intDiv, h.1]⟩)
theorem eqGuard_plain {P : Program} {w : World} {op : BinOp} {t : TypeId} {x y : Operand} {a b : Value} (ha : a ≠ .nilIface) (hb : ∀ c, a ≠ .agg c) : (eqGuard op t x y a b).run P w = .ok () w := by
  cases op <;> simp only [eqGuard] <;> first
    | rfl
    | (cases a <;> cases b <;> first | exact absurd rfl ha | exact absurd rfl (hb _) | rfl)
theorem Ti.und {P : Program} {T : Tab} (hT : TabOk P T) {t : TypeId} {s : Shape} (h : (T.ty t).map Ti.shape = some s) : ∃ d, P.underlying t = some d ∧ s.ok d := by
  cases hti : T.ty t with
  | none => simp [hti] at h
  | some ti =>
    simp [hti] at h
    obtain ⟨d, hd, ho⟩ := (hT.ty t ti hti).2
    exact ⟨d, hd, h ▸ ho⟩
theorem eqIn_ptr {P : Program} {w : World} {t e : TypeId} (d : Nat) (hd : P.underlying t = some (.pointer e)) (p : Option Addr) : (Op.equalIn (d + 1) t (.pointer p) (.pointer none)).run P w = .ok p.isNone w := by
  cases p <;> simp [Op.equalIn, run_underlying hd]
theorem eqIn_sl {P : Program} {w : World} {t e : TypeId} (d : Nat) (hd : P.underlying t = some (.slice e)) (p : Option Addr) (l c l' c' : Nat) : (Op.equalIn (d + 1) t (.slice p l c) (.slice none l' c')).run P w = .ok p.isNone w := by
  cases p <;> simp [Op.equalIn, run_underlying hd]
theorem eqIn_bool {P : Program} {w : World} {t : TypeId} (d : Nat) (hd : P.underlying t = some .bool) (a b : Bool) : (Op.equalIn (d + 1) t (.bool a) (.bool b)).run P w = .ok (a == b) w := by
  simp [Op.equalIn, run_underlying hd]
theorem eql_of {P : Program} {w : World} {t : TypeId} {x y : Value} {r : Bool} (hx : (match x with | .int _ _ => false | .float _ _ => false | .complex _ _ _ => false | .string _ => false | _ => true) = true)
    (h : (Op.equalIn (9999 + 1) t x y).run P w = .ok r w) : (binOp .eql t x y).run P w = .ok (.bool r) w ∧ (binOp .neq t x y).run P w = .ok (.bool (!r)) w := by
  have e1 : binOp .eql t x y = (do pure (.bool (← Op.equal t x y))) := by
    cases x <;> first | rfl | cases hx
  have e2 : binOp .neq t x y = (do pure (.bool (!(← Op.equal t x y)))) := by
    cases x <;> first | rfl | cases hx
  have h' : (Op.equal t x y).run P w = .ok r w := h
  rw [e1, e2]
  constructor <;> simp only [Sem.run_bind, h', Result.andThen_ok, Sem.run_pure]
theorem vcBin_sound {P : Program} {T : Tab} (hT : TabOk P T) {op : BinOp} {t : TypeId} {x y : Value} {κ : Value → Prop} (h : vcBin T op t x y κ) :
    ∃ v, κ v ∧ ∀ w : World, (binOp op t x y).run P w = .ok v w := by
  unfold vcBin at h
  split at h
  · split at h
    · obtain ⟨h0, h⟩ := h
      exact ⟨_, h, fun w => by simp only [binOp, Op.shift]; rw [if_neg (by omega)]; rfl⟩
    · obtain ⟨h0, h⟩ := h
      exact ⟨_, h, fun w => by simp only [binOp, Op.shift]; rw [if_neg (by omega)]; rfl⟩
    · rename_i k a k' b op h1 h2
      cases e : Nat.beq (ikNum k) (ikNum k') with
      | true =>
        rw [e] at h
        obtain rfl := ikNum_inj e
        obtain ⟨v, hv, hr⟩ := vcBinI_sound h t
        exact ⟨v, hv, fun w => hr P w⟩
      | false => rw [e] at h; exact h.elim
  · split at h
    · rename_i hs
      obtain ⟨d, hd, e, rfl⟩ := Ti.und hT hs
      exact ⟨_, h, fun w => (eql_of rfl (eqIn_ptr 9999 hd _)).1⟩
    · rename_i hs
      obtain ⟨d, hd, e, rfl⟩ := Ti.und hT hs
      exact ⟨_, h, fun w => (eql_of rfl (eqIn_ptr 9999 hd _)).2⟩
    · exact h.elim
  · split at h
    · rename_i hs
      obtain ⟨d, hd, rfl⟩ := Ti.und hT hs
      exact ⟨_, h, fun w => (eql_of rfl (eqIn_sl 9999 hd _ _ _ _ _)).1⟩
    · rename_i hs
      obtain ⟨d, hd, rfl⟩ := Ti.und hT hs
      exact ⟨_, h, fun w => (eql_of rfl (eqIn_sl 9999 hd _ _ _ _ _)).2⟩
    · exact h.elim
  · split at h
    · exact ⟨_, h, fun w => by rw [binOp_string_eql]; rfl⟩
    · exact ⟨_, h, fun w => by rw [binOp_string_neq]; rfl⟩
    · exact h.elim
  · split at h
    · rename_i hs
      obtain ⟨d, hd, rfl⟩ := Ti.und hT hs
      exact ⟨_, h, fun w => (eql_of rfl (eqIn_bool 9999 hd _ _)).1⟩
    · rename_i hs
      obtain ⟨d, hd, rfl⟩ := Ti.und hT hs
      exact ⟨_, h, fun w => (eql_of rfl (eqIn_bool 9999 hd _ _)).2⟩
    · exact h.elim
  · exact h.elim
end Go.Sx
namespace Go.Sx
set_option linter.unusedVariables false
def Tab.shape (T : Tab) (t : TypeId) : Option Shape := match T.ty t with | some ti => some ti.shape | none => none
def Tab.off (T : Tab) (s : TypeId) (f : Nat) : Option Nat := match T.ty s with
  | some ti => (match ti.shape with
    | .strct fs => (match fs[f]? with
      | some (off, ft) => (match T.ty ft with | some fi => bif Nat.beq fi.size 0 then none else some off | none => none)
      | none => none)
    | _ => none)
  | none => none
def Tab.size (T : Tab) (t : TypeId) : Option Nat := match T.ty t with | some ti => some ti.size | none => none
def vcLoad (T : Tab) (t : TypeId) (v : Value) (h : Heap) (κ : QK) : Prop := match v with
  | .pointer p => NilP p fun b o => (match T.ty t with
    | some ti => (match ti.shape.agg with
      | true => (match Nat.beq ti.ks.length ti.size with
        | true => exA ti.ks (fun vs => CellsAt h b o vs ∧ κ (.agg vs.toArray) (some fun h' => CellsAt h' b o vs))
        | false => ∃ vs : List Value, vs.length = ti.size ∧ CellsAt h b o vs ∧ κ (.agg vs.toArray) (some fun h' => CellsAt h' b o vs))
      | false => (match ti.ks with
        | [k] => ∃ x : k.T, cellH h b o = some (k.mk x) ∧ κ (k.mk x) (some fun h' => cellH h' b o = some (k.mk x))
        | _ => False))
    | none => False)
  | _ => False
def vcIndexAddr (T : Tab) (t : TypeId) (x i : Value) (κ : Value → Prop) : Prop := match T.shape t, x, i with
  | some (.slice e), .slice p l c, .int k n => (match T.size e with
    | some s => (0 ≤ n ∧ n < (l : Int)) ∧ NilP p fun b o => κ (.pointer (some ⟨b, o + mulN n.toNat s, none⟩))
    | none => False)
  | some (.arr len e), .pointer p, .int k n => (match T.size e with
    | some s => (0 ≤ n ∧ n < (len : Int)) ∧ Nat.ble 2 len = true ∧ NilP p fun b o => κ (.pointer (some ⟨b, o + mulN n.toNat s, none⟩))
    | none => False)
  | _, _, _ => False
def subA (p : Option Addr) (l m s : Nat) : Option Addr := if m = l then p else p.map (·.add (l * s))
def bd : Option Value → Int → Option Int
  | none, d => some d
  | some (.int _ n), _ => some n
  | _, _ => none
def vcSlice (T : Tab) (t : TypeId) (x : Value) (lo hi mx : Option Value) (κ : Value → Prop) : Prop := match T.shape t, x with
  | some (.slice e), .slice p l c => (match T.size e, bd lo 0 with
    | some s, some i => (match hi, mx with
      | none, none => (0 ≤ i ∧ i ≤ (l : Int)) ∧ κ (.slice (subA p i.toNat c s) (l - i.toNat) (c - i.toNat))
      | some (.int _ j), none => (0 ≤ i ∧ i ≤ j ∧ j ≤ (c : Int)) ∧ κ (.slice (subA p i.toNat c s) (j.toNat - i.toNat) (c - i.toNat))
      | some (.int _ j), some (.int _ m) => (0 ≤ i ∧ i ≤ j ∧ j ≤ m ∧ m ≤ (c : Int)) ∧ κ (.slice (subA p i.toNat m.toNat s) (j.toNat - i.toNat) (m.toNat - i.toNat))
      | _, _ => False)
    | _, _ => False)
  | some .str, .string st => (match bd lo 0, hi, mx with
    | some i, none, none => (0 ≤ i ∧ i ≤ (st.size : Int)) ∧ κ (.string (st.extract i.toNat st.size))
    | some i, some (.int _ j), none => (0 ≤ i ∧ i ≤ j ∧ j ≤ (st.size : Int)) ∧ κ (.string (st.extract i.toNat j.toNat))
    | _, _, _ => False)
  | _, _ => False
def bytesV (s : ByteArray) : List Value := s.data.toList.map fun c => Value.int .u8 c.toNat
def StrOf (h : Heap) (p : Option Addr) (l : Nat) (s : ByteArray) : Prop := s.size = l ∧ (l = 0 ∨ ∃ b o, p = some ⟨b, o, none⟩ ∧ CellsAt h b o (bytesV s))
def vcConv (T : Tab) (src dst : TypeId) (x : Value) (h : Heap) (κ : QK) : Prop := match T.shape src, T.shape dst, x with
  | some _, some (.int k), .int _ n => κ (.int k (k.wrap n)) none
  | some .str, some .str, .string s => κ (.string s) none
  | some (.slice e), some .str, .slice p l c => (match T.shape e with
    | some (.int .u8) => ∃ s : ByteArray, StrOf h p l s ∧ κ (.string s) (some fun h' => StrOf h' p l s)
    | _ => False)
  | _, _, _ => False
def fillL (T : Tab) (place : Nat → Option (Nat × Nat)) : List Value → List (Nat × Value) → Option (List Value)
  | cells, [] => some cells
  | cells, (i, v) :: r => match place i with
    | none => none
    | some (off, size) => (match Nat.beq v.cells.toList.length size, Nat.ble (off + size) cells.length with
      | true, true => fillL T place (cells.take off ++ v.cells.toList ++ cells.drop (off + size)) r
      | _, _ => none)
def fieldsIn (T : Tab) (fs : List (Nat × TypeId)) : Bool := fs.all fun x => (T.size x.2).isSome
def kOf (T : Tab) (t : TypeId) : K1 := match T.ty t with | some ti => (match ti.ks with | [k] => k | _ => .v) | none => .v
def vcField (T : Tab) (t : TypeId) (x : Value) (f : Nat) (κ : Value → Prop) : Prop := match T.ty t, x with
  | some ti, .agg cs => (match ti.shape with
    | .strct fs => (match fs[f]? with
      | some (off, ft) => (match T.ty ft with
        | some fi => (match fi.shape.agg with
          | true => κ (.agg ((cs.toList.drop off).take fi.size).toArray)
          | false => (match cs.toList[off]? with | some v => κ v | none => False))
        | none => False)
      | none => False)
    | _ => False)
  | _, _ => False
def vcQ (T : Tab) (P : Program) (o : Oper) (ρ : Env) (h : Heap) (κ : QK) : Prop := match o.op with
  | .move x => κ (ev ρ x) none
  | .assign x => κ (ev ρ x) none
  | .pick c a b => (match ev ρ c with | .bool c => vcPick c (ev ρ a) (ev ρ b) κ | _ => False)
  | .binOp op t x y _ => vcBin T op t (ev ρ x) (ev ρ y) (fun v => κ v none)
  | .unOp op _ x => vcUn op (ev ρ x) (fun v => κ v none)
  | .convert s d x => vcConv T s d (ev ρ x) h κ
  | .nilCheck x => (match ev ρ x with
    | .pointer p => NilP p fun b o => κ (.pointer (some ⟨b, o, none⟩)) none
    | .func (.func g) f c => κ (.func (.func g) f c) none
    | _ => False)
  | .fieldAddr s x f => (match ev ρ x, T.off s f with
    | .pointer p, some off => NilP p fun b o => κ (.pointer (some ⟨b, o + off, none⟩)) none
    | _, _ => False)
  | .indexAddr t x i => vcIndexAddr T t (ev ρ x) (ev ρ i) (fun v => κ v none)
  | .slice t x lo hi mx => vcSlice T t (ev ρ x) (lo.map (ev ρ)) (hi.map (ev ρ)) (mx.map (ev ρ)) (fun v => κ v none)
  | .extract x i => (match ev ρ x with | .tuple vs => (match vs.toList[i]? with | some v => κ v none | none => False) | _ => False)
  | .makeFunc fn f c => κ (.func fn (f.toList.map (ev ρ)).toArray (c.toList.map (ev ρ)).toArray) none
  | .field t x f => vcField T t (ev ρ x) f (fun v => κ v none)
  | .build t parts => (match T.ty t with
    | some ti => (match ti.shape with
      | .strct fs => (match fieldsIn T fs with
        | true => (match fillL T (fun i => match fs[i]? with | some (off, ft) => (match T.size ft with | some s => some (off, s) | none => none) | none => none) ti.zero (parts.toList.map fun x => (x.1, ev ρ x.2)) with
          | some cs => κ (.agg cs.toArray) none
          | none => False)
        | false => False)
      | .arr n e => (match T.size e with
        | some s => (match fillL T (fun i => some (mulN i s, s)) ti.zero (parts.toList.map fun x => (x.1, ev ρ x.2)) with
          | some cs => κ (.agg cs.toArray) none
          | none => False)
        | none => False)
      | _ => False)
    | none => False)
  | .load t x => vcLoad T t (ev ρ x) h κ
  | .call { callee := .builtin .len, args, argTypes } => (match args.toList.map (ev ρ), argTypes.toList with
    | [.slice _ l _], [t] => (match T.shape t with | some (.slice _) => κ (.int .i64 (l : Int)) none | _ => False)
    | [.string s], [t] => (match T.shape t with | some .str => κ (.int .i64 (s.size : Int)) none | _ => False)
    | _, _ => False)
  | .call { callee := .builtin .cap, args, argTypes } => (match args.toList.map (ev ρ), argTypes.toList with
    | [.slice _ _ c], [t] => (match T.shape t with | some (.slice _) => κ (.int .i64 (c : Int)) none | _ => False)
    | _, _ => False)
  | .call { callee := .builtin .min, args, .. } => (match args.toList.map (ev ρ) with
    | [.int k x, .int _ y] => κ (.int k (if y < x then y else x)) none
    | _ => False)
  | .call { callee := .builtin .max, args, .. } => (match args.toList.map (ev ρ) with
    | [.int k x, .int _ y] => κ (.int k (if y > x then y else x)) none
    | _ => False)
  | .lookup t m i ok => ∃ x : (kOf T o.type).T, (∀ w : World, w.heap = h → (Instr.lookup t (ev ρ m) (ev ρ i) ok).run P w = .ok ((kOf T o.type).mk x) w) ∧ κ ((kOf T o.type).mk x) (some fun h' => ∀ w : World, w.heap = h' → (Instr.lookup t (ev ρ m) (ev ρ i) ok).run P w = .ok ((kOf T o.type).mk x) w)
  | .index t x i => ∃ y : (kOf T o.type).T, (∀ w : World, (Instr.index t (ev ρ x) (ev ρ i)).run P w = .ok ((kOf T o.type).mk y) w) ∧ κ ((kOf T o.type).mk y) none
  | _ => False
end Go.Sx
namespace Go.Sx
set_option linter.unusedVariables false
def QOk (P : Program) (s : Sem Value) (h : Heap) (κ : QK) : Prop := ∃ v c, κ v c ∧ OkIn c h ∧ ∀ w : World, OkIn c w.heap → s.run P w = .ok v w
theorem QOk.pure {P : Program} {s : Sem Value} {h : Heap} {κ : QK} {v : Value} (hk : κ v none) (hr : ∀ w : World, s.run P w = .ok v w) : QOk P s h κ :=
  ⟨v, none, hk, trivial, fun w _ => hr w⟩
theorem QOk.ofP {P : Program} {s : Sem Value} {h : Heap} {κ : QK} (hk : ∃ v, κ v none ∧ ∀ w : World, s.run P w = .ok v w) : QOk P s h κ :=
  let ⟨v, a, b⟩ := hk; ⟨v, none, a, trivial, fun w _ => b w⟩
theorem run_info {P : Program} {w : World} {t : TypeId} {i : TypeInfo} (h : P.info? t = some i) : (typeInfo t).run P w = .ok i w := by
  simp only [typeInfo, program, Sem.run_bind, Sem.run, Result.andThen_ok, h]
  rfl
theorem run_size {P : Program} {w : World} {t : TypeId} {i : TypeInfo} (h : P.info? t = some i) : (sizeOf t).run P w = .ok i.size w := by
  simp only [sizeOf, Sem.run_bind, run_info h, Result.andThen_ok, Sem.run_pure]
theorem Tab.size_run {P : Program} {T : Tab} (hT : TabOk P T) {t : TypeId} {s : Nat} (h : T.size t = some s) (w : World) : (sizeOf t).run P w = .ok s w := by
  unfold Tab.size at h
  split at h
  · rename_i ti hti
    obtain ⟨⟨i, hi, _, hs⟩, _⟩ := hT.ty t ti hti
    rw [run_size hi, hs]
    simpa using h
  · cases h
theorem Tab.shape_und {P : Program} {T : Tab} (hT : TabOk P T) {t : TypeId} {s : Shape} (h : T.shape t = some s) : ∃ d, P.underlying t = some d ∧ s.ok d := by
  unfold Tab.shape at h
  split at h
  · rename_i ti hti
    obtain ⟨_, d, hd, ho⟩ := hT.ty t ti hti
    cases h
    exact ⟨d, hd, ho⟩
  · cases h
theorem addr_add (b o n : Nat) : (⟨b, o, none⟩ : Addr).add n = ⟨b, o + n, none⟩ := by
  unfold Addr.add
  split
  · subst_vars; rfl
  · rfl
theorem agg_run {P : Program} {T : Tab} (hT : TabOk P T) {t : TypeId} {ti : Ti} (h : T.ty t = some ti) (w : World) : (isAgg t).run P w = .ok ti.shape.agg w := by
  obtain ⟨_, d, hd, ho⟩ := hT.ty t ti h
  simp only [isAgg, Sem.run_bind, run_underlying hd, Result.andThen_ok]
  cases hs : ti.shape <;> rw [hs] at ho
  case ptr => obtain ⟨e, rfl⟩ := ho; rfl
  case strct => obtain ⟨e, rfl, _⟩ := ho; rfl
  case fn => obtain ⟨a, b, c, rfl⟩ := ho; rfl
  case map => obtain ⟨a, b, rfl⟩ := ho; rfl
  all_goals (have ho' := ho; simp only [Shape.ok] at ho'; subst ho'; rfl)
theorem CellsAt.get {h : Heap} {b : Nat} : ∀ {vs : List Value} {o : Nat}, CellsAt h b o vs → ∀ j v, vs[j]? = some v → cellH h b (o + j) = some v
  | [], _, _, j, v, hv => by cases hv
  | x :: vs, o, hc, 0, v, hv => by simp at hv; subst hv; exact hc.1
  | x :: vs, o, hc, j + 1, v, hv => by
    have := hc.2.get j v (by simpa using hv)
    rwa [Nat.add_assoc, Nat.add_comm 1 j] at this
theorem CellsAt.of {h : Heap} {b : Nat} : ∀ {vs : List Value} {o : Nat}, (∀ j v, vs[j]? = some v → cellH h b (o + j) = some v) → CellsAt h b o vs
  | [], _, _ => trivial
  | x :: vs, o, hc => ⟨hc 0 x rfl, CellsAt.of fun j v hv => by have := hc (j + 1) v (by simpa using hv); rwa [Nat.add_comm j 1, ← Nat.add_assoc] at this⟩
theorem run_cells {P : Program} {w : World} {b o : Nat} {vs : List Value} (h : CellsAt w.heap b o vs) : (loadCells ⟨b, o, none⟩ vs.length).run P w = .ok vs.toArray w :=
  run_loadCells_list w ⟨b, o, none⟩ vs fun j v hv => by rw [addr_add, cell?_eq]; exact h.get j v hv
theorem run_load1 {P : Program} {w : World} {b o : Nat} {v : Value} (h : cellH w.heap b o = some v) : (load ⟨b, o, none⟩).run P w = .ok v w := by
  have : w.cell? ⟨b, o, none⟩ = some v := by rw [cell?_eq]; exact h
  simp only [load, Sem.run, this]
theorem vcLoad_sound {P : Program} {T : Tab} (hT : TabOk P T) {t : TypeId} {v : Value} {h : Heap} {κ : QK} (hq : vcLoad T t v h κ) : QOk P (Instr.loadAt t v) h κ := by
  unfold vcLoad at hq
  split at hq
  · obtain ⟨b, o, rfl, hq⟩ := hq.spec
    split at hq
    · rename_i ti hti
      have hag := agg_run hT hti
      obtain ⟨⟨i, hi, _, hsz⟩, _⟩ := hT.ty t ti hti
      have hlv : ∀ (vs : List Value), vs.length = ti.size → ti.shape.agg = true → ∀ w : World, CellsAt w.heap b o vs → (Instr.loadAt t (.pointer (some ⟨b, o, none⟩))).run P w = .ok (.agg vs.toArray) w := by
        intro vs hl ha w hc
        simp only [Instr.loadAt, Instr.sureAddr, loadVar, Sem.run_bind, Sem.run_pure, Result.andThen_ok, hag, ha, if_true, run_size hi, hsz, ← hl, run_cells hc]
      split at hq
      · rename_i ha
        split at hq
        · rename_i hn
          obtain ⟨vs, hl, h1, h2⟩ := exA_spec hq
          exact ⟨_, _, h2, h1, fun w hc => hlv vs (hl.trans (Nat.eq_of_beq_eq_true hn)) ha w hc⟩
        · obtain ⟨vs, hl, h1, h2⟩ := hq
          exact ⟨_, _, h2, h1, fun w hc => hlv vs hl ha w hc⟩
      · rename_i ha
        split at hq
        · obtain ⟨x, h1, h2⟩ := hq
          refine ⟨_, _, h2, h1, fun w hc => ?_⟩
          simp only [Instr.loadAt, Instr.sureAddr, loadVar, Sem.run_bind, Sem.run_pure, Result.andThen_ok, hag, ha, Bool.false_eq_true, if_false]
          exact run_load1 hc
        · exact hq.elim
    · exact hq.elim
  · exact hq.elim
theorem vcIndexAddr_sound {P : Program} {T : Tab} (hT : TabOk P T) {t : TypeId} {x i : Value} {κ : Value → Prop} (hq : vcIndexAddr T t x i κ) : ∃ v, κ v ∧ ∀ w : World, (Instr.indexAt t x i).run P w = .ok v w := by
  unfold vcIndexAddr at hq
  split at hq
  · rename_i hs
    obtain ⟨d, hd, rfl⟩ := Tab.shape_und hT hs
    split at hq
    · rename_i s hsz
      obtain ⟨hb, hq⟩ := hq
      obtain ⟨b, o, rfl, hq⟩ := hq.spec
      refine ⟨_, hq, fun w => ?_⟩
      simp only [Instr.indexAt, asIntOf, Sem.run_bind, Sem.run_pure, Result.andThen_ok, run_underlying hd, hb, and_self, if_true, Tab.size_run hT hsz, addr_add, mulN_eq]
    · exact hq.elim
  · rename_i hs
    obtain ⟨d, hd, rfl⟩ := Tab.shape_und hT hs
    split at hq
    · rename_i s hsz
      obtain ⟨hb, _, hq⟩ := hq
      obtain ⟨b, o, rfl, hq⟩ := hq.spec
      refine ⟨_, hq, fun w => ?_⟩
      simp only [Instr.indexAt, Instr.sureAddr, asIntOf, Sem.run_bind, Sem.run_pure, Result.andThen_ok, run_underlying hd, hb, and_self, if_true, Tab.size_run hT hsz, addr_add, mulN_eq]
    · exact hq.elim
  · exact hq.elim
theorem subA_eq (p : Option Addr) (l m s : Nat) : (if m = l then p else p.map (·.add (l * s))) = subA p l m s := rfl
theorem bound_run {P : Program} {w : World} {k : IntKind} {n : Int} {y : Nat} {code : BoundsCode} (h0 : 0 ≤ n) (h1 : n ≤ (y : Int)) : (Instr.sliceBound (.int k n) y code).run P w = .ok n.toNat w := by
  simp only [Instr.sliceBound, asIntOf, Sem.run_bind, Sem.run_pure, Result.andThen_ok, h0, h1, and_self, if_true]
theorem bd_cases {lo : Option Value} {i : Int} (h : bd lo 0 = some i) : (lo = none ∧ i = 0) ∨ ∃ k, lo = some (.int k i) := by
  unfold bd at h
  split at h
  · cases h; exact .inl ⟨rfl, rfl⟩
  · cases h; exact .inr ⟨_, rfl⟩
  · cases h
theorem vcSlice_sound {P : Program} {T : Tab} (hT : TabOk P T) {t : TypeId} {x : Value} {lo hi mx : Option Value} {κ : Value → Prop} (hq : vcSlice T t x lo hi mx κ) : ∃ v, κ v ∧ ∀ w : World, (Instr.sliceAt t x lo hi mx).run P w = .ok v w := by
  unfold vcSlice at hq
  split at hq
  · rename_i hs
    obtain ⟨d, hd, rfl⟩ := Tab.shape_und hT hs
    split at hq
    · rename_i s i hsz hlo
      split at hq
      · obtain ⟨hb, hq⟩ := hq
        refine ⟨_, hq, fun w => ?_⟩
        rcases bd_cases hlo with ⟨rfl, rfl⟩ | ⟨k, rfl⟩
        · simp [Instr.sliceAt, Instr.slice, Instr.sliceBounds, run_underlying hd, Tab.size_run hT hsz, subA]
        · simp only [Instr.sliceAt, Instr.slice, Instr.sliceBounds, Sem.run_bind, run_underlying hd, Result.andThen_ok, Sem.run_pure, bound_run hb.1 hb.2, Tab.size_run hT hsz, subA_eq]
      · obtain ⟨hb, hq⟩ := hq
        refine ⟨_, hq, fun w => ?_⟩
        rename_i j
        have ej : ((j.toNat : Nat) : Int) = j := Int.toNat_of_nonneg (by omega)
        rcases bd_cases hlo with ⟨rfl, rfl⟩ | ⟨k, rfl⟩
        · simp only [Instr.sliceAt, Instr.slice, Instr.sliceBounds, Sem.run_bind, run_underlying hd, Result.andThen_ok, Sem.run_pure, bound_run (show 0 ≤ j by omega) hb.2.2, Tab.size_run hT hsz, subA_eq, if_true]
          rfl
        · simp only [Instr.sliceAt, Instr.slice, Instr.sliceBounds, Sem.run_bind, run_underlying hd, Result.andThen_ok, Sem.run_pure, if_true, bound_run (show 0 ≤ j by omega) hb.2.2, bound_run hb.1 (show i ≤ ((j.toNat : Nat) : Int) by omega), Tab.size_run hT hsz, subA_eq]
      · obtain ⟨hb, hq⟩ := hq
        refine ⟨_, hq, fun w => ?_⟩
        rename_i j _ m
        rcases bd_cases hlo with ⟨rfl, rfl⟩ | ⟨k, rfl⟩
        · simp only [Instr.sliceAt, Instr.slice, Instr.sliceBounds, Sem.run_bind, run_underlying hd, Result.andThen_ok, Sem.run_pure, if_true, bound_run (show 0 ≤ m by omega) hb.2.2.2, bound_run (show 0 ≤ j by omega) (show j ≤ ((m.toNat : Nat) : Int) by omega), Tab.size_run hT hsz, subA_eq]
          rfl
        · simp only [Instr.sliceAt, Instr.slice, Instr.sliceBounds, Sem.run_bind, run_underlying hd, Result.andThen_ok, Sem.run_pure, if_true, bound_run (show 0 ≤ m by omega) hb.2.2.2, bound_run (show 0 ≤ j by omega) (show j ≤ ((m.toNat : Nat) : Int) by omega), bound_run hb.1 (show i ≤ ((j.toNat : Nat) : Int) by omega), Tab.size_run hT hsz, subA_eq]
      · exact hq.elim
    · exact hq.elim
  · rename_i hs
    obtain ⟨d, hd, ho⟩ := Tab.shape_und hT hs
    simp only [Shape.ok] at ho
    subst ho
    split at hq
    · rename_i st i hlo
      obtain ⟨hb, hq⟩ := hq
      refine ⟨_, hq, fun w => ?_⟩
      rcases bd_cases hlo with ⟨rfl, rfl⟩ | ⟨k, rfl⟩
      · simp [Instr.sliceAt, Instr.slice, Instr.sliceBounds, run_underlying hd]
      · simp [Instr.sliceAt, Instr.slice, Instr.sliceBounds, run_underlying hd, bound_run hb.1 hb.2]
    · rename_i st i _ j hlo
      obtain ⟨hb, hq⟩ := hq
      refine ⟨_, hq, fun w => ?_⟩
      rcases bd_cases hlo with ⟨rfl, rfl⟩ | ⟨k, rfl⟩
      · simp [Instr.sliceAt, Instr.slice, Instr.sliceBounds, run_underlying hd, bound_run (show 0 ≤ j by omega) hb.2.2]
      · simp [Instr.sliceAt, Instr.slice, Instr.sliceBounds, run_underlying hd, bound_run (show 0 ≤ j by omega) hb.2.2, bound_run hb.1 (show i ≤ ((j.toNat : Nat) : Int) by omega)]
    · exact hq.elim
  · exact hq.elim
end Go.Sx
namespace Go.Sx
set_option linter.unusedVariables false
theorem vcPick_sound {P : Program} {c : Bool} {a b : Value} {h : Heap} {κ : QK} (hq : vcPick c a b κ) : QOk P (do pure (if ← asBool (.bool c) then a else b)) h κ := by
  unfold vcPick at hq
  split at hq
  · exact .pure hq fun w => by cases c <;> rfl
  · cases c
    · exact .pure (v := b) hq fun w => rfl
    · exact .pure (v := a) hq fun w => rfl
theorem vcUn_sound {op : UnOp} {x : Value} {κ : Value → Prop} (hq : vcUn op x κ) : ∃ v, κ v ∧ ∀ (P : Program) (w : World), (Op.unary op x).run P w = .ok v w := by
  unfold vcUn at hq
  split at hq
  · exact ⟨_, hq, fun P w => rfl⟩
  · exact ⟨_, hq, fun P w => rfl⟩
  · exact ⟨_, hq, fun P w => rfl⟩
  · exact hq.elim
theorem push_bytes : ∀ (l : List UInt8) (s : ByteArray), (l.map fun c => (c.toNat : Int)).foldl (fun (r : ByteArray) n => r.push (UInt8.ofNat n.toNat)) s = ⟨s.data ++ l.toArray⟩
  | [], s => by simp
  | c :: l, s => by
    simp only [List.map_cons, List.foldl_cons]
    rw [push_bytes l]
    simp [ByteArray.push]
theorem run_b2s {P : Program} {w : World} {p : Option Addr} {l c : Nat} {s : ByteArray} (h : StrOf w.heap p l s) : (Conv.bytesToString (.slice p l c)).run P w = .ok (.string s) w := by
  obtain ⟨hl, h⟩ := h
  have he : l = 0 → s = .empty := fun h0 => by
    have : s.data.size = 0 := by rw [← h0, ← hl]; rfl
    cases s with | mk d => simp at this; subst this; rfl
  cases p with
  | none =>
    rcases h with h | ⟨_, _, h, _⟩
    · rw [he h]; rfl
    · cases h
  | some a =>
    have hc : (loadCells a l).run P w = .ok ((s.data.toList.map fun c => (c.toNat : Int)).map (Value.int .u8)).toArray w := by
      rcases h with h | ⟨b, o, h, hc⟩
      · subst h; rw [he rfl]; rfl
      · cases h
        have e : (bytesV s).length = l := by rw [← hl]; simp only [bytesV, List.length_map, Array.length_toList]; rfl
        rw [← e, List.map_map]
        exact run_cells hc
    rw [run_bytesToString w a l c _ hc, push_bytes]
    cases s; simp
theorem vcConv_sound {P : Program} {T : Tab} (hT : TabOk P T) {s d : TypeId} {x : Value} {h : Heap} {κ : QK} (hq : vcConv T s d x h κ) : QOk P (convert s d x) h κ := by
  unfold vcConv at hq
  split at hq
  · rename_i hs hd
    obtain ⟨t, ht, ho⟩ := Tab.shape_und hT hd
    obtain ⟨t', ht', _⟩ := Tab.shape_und hT hs
    simp only [Shape.ok] at ho
    subst ho
    exact .pure hq fun w => by simp [convert, run_underlying ht, run_underlying ht', Conv.intToInt]
  · rename_i hs hd
    obtain ⟨t, ht, ho⟩ := Tab.shape_und hT hd
    obtain ⟨t', ht', ho'⟩ := Tab.shape_und hT hs
    simp only [Shape.ok] at ho ho'
    subst ho ho'
    exact .pure hq fun w => by simp [convert, run_underlying ht, run_underlying ht']
  · rename_i e p l c hs hd
    obtain ⟨t, ht, ho⟩ := Tab.shape_und hT hd
    obtain ⟨t', ht', ho'⟩ := Tab.shape_und hT hs
    simp only [Shape.ok] at ho ho'
    subst ho ho'
    split at hq
    · rename_i he
      obtain ⟨t, hte, ho⟩ := Tab.shape_und hT he
      simp only [Shape.ok] at ho
      subst ho
      obtain ⟨st, h1, h2⟩ := hq
      refine ⟨_, _, h2, h1, fun w hc => ?_⟩
      simp [convert, run_underlying ht, run_underlying ht', run_underlying hte, run_b2s (c := c) hc]
    · exact hq.elim
  · exact hq.elim
theorem field_run {P : Program} {T : Tab} (hT : TabOk P T) {s : TypeId} {f off : Nat} (hf : T.off s f = some off) (b o : Nat) (w : World) :
    (Instr.fieldAt s (.pointer (some ⟨b, o, none⟩)) f).run P w = .ok (.pointer (some ⟨b, o + off, none⟩)) w := by
  unfold Tab.off at hf
  split at hf
  · rename_i ti hti
    split at hf
    · rename_i fs hsh
      obtain ⟨_, d, hd, ho⟩ := hT.ty s ti hti
      rw [hsh] at ho
      obtain ⟨a, rfl, hfs⟩ := ho
      split at hf
      · rename_i off' ft hft
        split at hf
        · rename_i fi hfi
          have hsz : T.size ft = some fi.size := by simp only [Tab.size, hfi]
          cases hz : Nat.beq fi.size 0 with
          | true => rw [hz] at hf; cases hf
          | false =>
            rw [hz] at hf
            cases hf
            have hz' : ¬ fi.size = 0 := fun e => by rw [e] at hz; cases hz
            rw [← hfs] at hft
            simp only [List.getElem?_map, Array.getElem?_toList, Option.map_eq_some_iff, Prod.mk.injEq] at hft
            obtain ⟨fd, hfd, rfl, rfl⟩ := hft
            simp only [Instr.fieldAt, Sem.run_bind, run_underlying hd, Result.andThen_ok, hfd, Instr.sureAddr, Sem.run_pure, fieldPlace, Tab.size_run hT hsz, hz', if_false, addr_add]
        · cases hf
      · cases hf
    · cases hf
  · cases hf
theorem vcField_sound {P : Program} {T : Tab} (hT : TabOk P T) {t : TypeId} {x : Value} {f : Nat} {κ : Value → Prop} (hq : vcField T t x f κ) : ∃ v, κ v ∧ ∀ w : World, (Instr.field t x f).run P w = .ok v w := by
  unfold vcField at hq
  split at hq
  · rename_i ti cs hti
    split at hq
    · rename_i fs hsh
      obtain ⟨_, d, hd, ho⟩ := hT.ty t ti hti
      rw [hsh] at ho
      obtain ⟨a, rfl, hfs⟩ := ho
      split at hq
      · rename_i off ft hft
        split at hq
        · rename_i fi hfi
          have hsz : T.size ft = some fi.size := by simp only [Tab.size, hfi]
          rw [← hfs] at hft
          simp only [List.getElem?_map, Array.getElem?_toList, Option.map_eq_some_iff, Prod.mk.injEq] at hft
          obtain ⟨fd, hfd, rfl, rfl⟩ := hft
          have hag := agg_run hT hfi
          split at hq
          · rename_i ha
            refine ⟨_, hq, fun w => ?_⟩
            simp only [Instr.field, Sem.run_bind, run_underlying hd, Result.andThen_ok, hfd, asAgg, Sem.run_pure, part, hag, ha, if_true, Tab.size_run hT hsz]
            congr 2
            apply Array.ext'
            simp [List.take_drop]
          · rename_i ha
            split at hq
            · rename_i v hv
              refine ⟨_, hq, fun w => ?_⟩
              simp only [Array.getElem?_toList] at hv
              simp only [Instr.field, Sem.run_bind, run_underlying hd, Result.andThen_ok, hfd, asAgg, Sem.run_pure, part, hag, ha, Bool.false_eq_true, if_false, hv]
            · exact hq.elim
        · exact hq.elim
      · exact hq.elim
    · exact hq.elim
  · exact hq.elim
end Go.Sx
namespace Go.Sx
set_option linter.unusedVariables false
theorem splice_size : ∀ (vs : List Value) (c : Array Value) (o : Nat), (splice c o vs).size = c.size
  | [], c, o => rfl
  | v :: vs, c, o => by simp [splice, splice_size vs]
theorem splice_list : ∀ (vs : List Value) (c : Array Value) (o : Nat), o + vs.length ≤ c.size → (splice c o vs).toList = c.toList.take o ++ vs ++ c.toList.drop (o + vs.length)
  | [], c, o, _ => by simp [splice]
  | v :: vs, c, o, h => by
    simp only [List.length_cons] at h
    rw [splice, splice_list vs _ _ (by simp; omega)]
    have ho : o < c.toList.length := by simp; omega
    rw [Array.toList_setIfInBounds]
    have e1 : (c.toList.set o v).take (o + 1) = c.toList.take o ++ [v] := by
      rw [List.take_succ_eq_append_getElem (by simpa using ho)]
      simp [List.take_set_of_le]
    have e2 : (c.toList.set o v).drop (o + 1 + vs.length) = c.toList.drop (o + (v :: vs).length) := by
      rw [List.drop_set_of_lt (by omega)]
      congr 1
      simp
      omega
    rw [e1, e2]
    simp
theorem splice_get {vs : List Value} {c : Array Value} {o : Nat} (h : o + vs.length ≤ c.size) (j : Nat) : (splice c o vs)[j]? = if o ≤ j ∧ j < o + vs.length then vs[j - o]? else c[j]? := by
  rw [← Array.getElem?_toList, splice_list vs c o h, List.append_assoc, List.getElem?_append, List.getElem?_append, List.length_take, List.getElem?_take, List.getElem?_drop]
  have hm : min o c.toList.length = o := by simp; omega
  rw [hm]
  by_cases h1 : j < o
  · rw [if_pos h1, if_pos h1, if_neg (by omega)]; simp
  · rw [if_neg h1]
    by_cases h2 : j < o + vs.length
    · rw [if_pos (by omega), if_pos (by omega)]
    · rw [if_neg (by omega), if_neg (by omega)]
      simp only [Array.getElem?_toList]
      congr 1
      omega
theorem zip_splice : ∀ (l : List Value) (k off : Nat) (cs : Array Value), (l.zipIdx k).foldl (fun cs (x : Value × Nat) => cs.setIfInBounds (off + x.2) x.1) cs = splice cs (off + k) l
  | [], _, _, _ => rfl
  | v :: l, k, off, cs => by
    simp only [List.zipIdx_cons, List.foldl_cons, splice]
    rw [zip_splice l (k + 1) off]
    congr 1
theorem fill_run {T : Tab} {pl pl' : Nat → Option (Nat × Nat)} (hp : ∀ i x, pl i = some x → pl' i = some x) : ∀ (parts : List (Nat × Value)) (cells : List Value) {out : List Value}, fillL T pl cells parts = some out → Instr.fill pl' cells.toArray parts = some out.toArray
  | [], cells, out, h => by simp [fillL] at h; subst h; rfl
  | (i, v) :: r, cells, out, h => by
    simp only [fillL] at h
    split at h
    · cases h
    · rename_i off size hi
      split at h
      · rename_i h1 h2
        have h1 := Nat.eq_of_beq_eq_true h1
        have h2 := Nat.le_of_ble_eq_true h2
        simp only [Array.length_toList] at h1
        have ih := fill_run hp r _ h
        simp only [Instr.fill, hp _ _ hi]
        rw [if_neg (by simp [h1]; omega)]
        rw [← ih]
        congr 1
        have := zip_splice v.cells.toList 0 off cells.toArray
        rw [← Array.foldl_toList, Array.toList_zipIdx, this]
        apply Array.ext'
        rw [splice_list _ _ _ (by simp [h1]; omega)]
        simp [h1]
      · cases h
theorem mapM_run {P : Program} {w : World} {α β : Type} (f : α → Sem β) (g : α → β) : ∀ (l : List α), (∀ x ∈ l, (f x).run P w = .ok (g x) w) → (l.mapM f).run P w = .ok (l.map g) w
  | [], _ => by simp
  | x :: l, h => by
    simp only [List.mapM_cons, Sem.run_bind, h x (by simp), Result.andThen_ok, mapM_run f g l (fun y hy => h y (by simp [hy])), Sem.run_pure, List.map_cons]
theorem Tab.size_get {P : Program} {T : Tab} (hT : TabOk P T) {t : TypeId} {s : Nat} (h : T.size t = some s) : ∃ i, P.info? t = some i ∧ i.size = s := by
  unfold Tab.size at h
  split at h
  · rename_i ti hti
    obtain ⟨⟨i, hi, _, hs⟩, _⟩ := hT.ty t ti hti
    exact ⟨i, hi, hs.trans (by simpa using h)⟩
  · cases h
theorem build_run {P : Program} {T : Tab} (hT : TabOk P T) {t : TypeId} {parts : List (Nat × Value)} {ti : Ti} (hti : T.ty t = some ti) {fs : List (Nat × TypeId)} (hsh : ti.shape = .strct fs) (hfs : fieldsIn T fs = true) {out : List Value}
    (hf : fillL T (fun i => match fs[i]? with | some (off, ft) => (match T.size ft with | some s => some (off, s) | none => none) | none => none) ti.zero parts = some out) (w : World) :
    (Instr.build t parts.toArray).run P w = .ok (.agg out.toArray) w := by
  obtain ⟨⟨i, hi, ⟨z, hz, hzc⟩, _⟩, d, hd, ho⟩ := hT.ty t ti hti
  rw [hsh] at ho
  obtain ⟨a, rfl, hfs'⟩ := ho
  have hzero : (zeroValue t).run P w = .ok z w := by simp only [zeroValue, Sem.run_bind, run_info hi, Result.andThen_ok, hz, Sem.run_pure]
  let g : Field → Nat × Nat := fun f => (f.offset, (T.size f.type).getD 0)
  have hm : (a.mapM (fun f => do pure (f.offset, ← sizeOf f.type)) : Sem (Array (Nat × Nat))).run P w = .ok (a.toList.map g).toArray w := by
    rw [Array.mapM_eq_mapM_toList]
    have hl : ∀ x ∈ a.toList, ((do pure (x.offset, ← sizeOf x.type)) : Sem (Nat × Nat)).run P w = .ok (g x) w := by
      intro x hx
      have hin : (x.offset, x.type) ∈ fs := by rw [← hfs']; exact List.mem_map.2 ⟨x, hx, rfl⟩
      have := List.all_eq_true.1 hfs _ hin
      obtain ⟨s, hs⟩ := Option.isSome_iff_exists.1 this
      simp only [Sem.run_bind, Tab.size_run hT hs, Result.andThen_ok, Sem.run_pure, g, hs, Option.getD_some]
    simp only [Sem.run_map, mapM_run _ g _ hl]
    rfl
  simp only [Instr.build, Sem.run_bind, hzero, Result.andThen_ok, run_underlying hd, hm]
  have hfill := fill_run (T := T) (pl' := fun i => (a.toList.map g).toArray[i]?) (fun i x hx => ?_) parts ti.zero hf
  · rw [← hzc] at hfill
    simp only [Array.toArray_toList] at hfill
    simp only [hfill, Sem.run_pure]
  · split at hx
    · rename_i off ft hfo
      split at hx
      · rename_i s hs
        cases hx
        rw [← hfs'] at hfo
        simp only [List.getElem?_map, Option.map_eq_some_iff, Prod.mk.injEq] at hfo
        obtain ⟨fd, hfd, rfl, rfl⟩ := hfo
        simp only [List.getElem?_toArray, List.getElem?_map, hfd, Option.map_some, g, hs, Option.getD_some]
      · cases hx
    · cases hx
theorem buildA_run {P : Program} {T : Tab} (hT : TabOk P T) {t : TypeId} {parts : List (Nat × Value)} {ti : Ti} (hti : T.ty t = some ti) {n : Nat} {e : TypeId} {s : Nat} (hsh : ti.shape = .arr n e) (hs : T.size e = some s) {out : List Value}
    (hf : fillL T (fun i => some (mulN i s, s)) ti.zero parts = some out) (w : World) :
    (Instr.build t parts.toArray).run P w = .ok (.agg out.toArray) w := by
  obtain ⟨⟨i, hi, ⟨z, hz, hzc⟩, _⟩, d, hd, ho⟩ := hT.ty t ti hti
  rw [hsh] at ho
  simp only [Shape.ok] at ho
  subst ho
  have hzero : (zeroValue t).run P w = .ok z w := by simp only [zeroValue, Sem.run_bind, run_info hi, Result.andThen_ok, hz, Sem.run_pure]
  simp only [Instr.build, Sem.run_bind, hzero, Result.andThen_ok, run_underlying hd, Tab.size_run hT hs]
  have hfill := fill_run (T := T) (pl' := fun i => some (i * s, s)) (fun i x hx => by rw [mulN_eq] at hx; exact hx) parts ti.zero hf
  rw [← hzc] at hfill
  simp only [Array.toArray_toList] at hfill
  simp only [hfill, Sem.run_pure]
theorem map_of_list {args : Array Operand} {f : Operand → Value} {l : List Value} (h : args.toList.map f = l) : args.map f = l.toArray := by
  apply Array.ext'
  simpa using h
theorem arr_of_list {α : Type} {args : Array α} {l : List α} (h : args.toList = l) : args = l.toArray := by subst h; simp
theorem call_builtin {P : Program} {w : World} {ρ : Env} {dst : Option Tmp} {b : Builtin} {args : Array Operand} {argTypes : Array TypeId} {ty : TypeId} {pos : String} {after : Array Edge} {guard : Option (Nat × Bool)} :
    ∃ consts, execOp (ev ρ) ⟨dst, .call { callee := .builtin b, args, argTypes }, ty, pos, after, guard⟩ = builtin b argTypes ty consts (args.map (ev ρ)) := ⟨_, rfl⟩
theorem vcQ_sound {P : Program} {T : Tab} (hT : TabOk P T) {o : Oper} {ρ : Env} {h : Heap} {κ : QK} (hq : vcQ T P o ρ h κ) :
    ∃ v c, κ v c ∧ OkIn c h ∧ ∀ w : World, OkIn c w.heap → (execOp (ev ρ) o).run P w = .ok (.value v) w := by
  have lift : ∀ {s : Sem Value}, QOk P s h κ → (∀ w : World, (execOp (ev ρ) o).run P w = (s.run P w).andThen fun v w' => .ok (.value v) w') →
      ∃ v c, κ v c ∧ OkIn c h ∧ ∀ w : World, OkIn c w.heap → (execOp (ev ρ) o).run P w = .ok (.value v) w := by
    intro s ⟨v, c, h1, h2, h3⟩ he
    exact ⟨v, c, h1, h2, fun w hw => by rw [he, h3 w hw]; rfl⟩
  obtain ⟨dst, op, ty, pos, after, guard⟩ := o
  simp only [vcQ] at hq
  split at hq <;> try exact hq.elim
  · exact ⟨_, _, hq, trivial, fun w _ => rfl⟩
  · exact ⟨_, _, hq, trivial, fun w _ => rfl⟩
  · split at hq
    · rename_i c hc
      refine lift (vcPick_sound hq) fun w => ?_
      simp only [execOp, hc, asBool, Sem.run_bind, Sem.run_pure, Result.andThen_ok]
    · exact hq.elim
  · obtain ⟨v, hv, hr⟩ := vcBin_sound hT hq
    refine ⟨_, _, hv, trivial, fun w _ => ?_⟩
    have hg : ∀ (op : BinOp) (t : TypeId) (x y : Operand), vcBin T op t (ev ρ x) (ev ρ y) (fun v => κ v none) → (eqGuard op t x y (ev ρ x) (ev ρ y)).run P w = .ok () w := by
      intro op t x y hb
      refine eqGuard_plain (fun e => ?_) (fun c e => ?_) <;> (rw [e] at hb; exact hb.elim)
    simp only [execOp, Sem.run_bind, hg _ _ _ _ hq, Result.andThen_ok, hr, Sem.run_pure]
  · obtain ⟨v, hv, hr⟩ := vcUn_sound hq
    exact ⟨_, _, hv, trivial, fun w _ => by simp only [execOp, Sem.run_bind, hr, Result.andThen_ok, Sem.run_pure]⟩
  · exact lift (vcConv_sound hT hq) fun w => by simp only [execOp, Sem.run_bind, Sem.run_pure]
  · split at hq
    · rename_i p hp
      obtain ⟨b, o, rfl, hq⟩ := hq.spec
      exact ⟨_, _, hq, trivial, fun w _ => by simp only [execOp, hp, Sem.run_pure]⟩
    · rename_i hp
      exact ⟨_, _, hq, trivial, fun w _ => by simp only [execOp, hp, Sem.run_pure]⟩
    · exact hq.elim
  · split at hq
    · rename_i p off hp hoff
      obtain ⟨b, o, rfl, hq⟩ := hq.spec
      exact ⟨_, _, hq, trivial, fun w _ => by simp only [execOp, Sem.run_bind, hp, field_run hT hoff, Result.andThen_ok, Sem.run_pure]⟩
    · exact hq.elim
  · obtain ⟨v, hv, hr⟩ := vcIndexAddr_sound hT hq
    exact ⟨_, _, hv, trivial, fun w _ => by simp only [execOp, Sem.run_bind, hr, Result.andThen_ok, Sem.run_pure]⟩
  · obtain ⟨v, hv, hr⟩ := vcSlice_sound hT hq
    exact ⟨_, _, hv, trivial, fun w _ => by simp only [execOp, Sem.run_bind, hr, Result.andThen_ok, Sem.run_pure]⟩
  · split at hq
    · rename_i vs hp
      split at hq
      · rename_i v hv
        simp only [Array.getElem?_toList] at hv
        exact ⟨_, _, hq, trivial, fun w _ => by simp only [execOp, Sem.run_bind, hp, Instr.extract, hv, Result.andThen_ok, Sem.run_pure]⟩
      · exact hq.elim
    · exact hq.elim
  · refine ⟨_, _, hq, trivial, fun w _ => ?_⟩
    simp only [execOp, Instr.makeFunc, Sem.run_bind, Sem.run_pure, Result.andThen_ok, ← Array.toList_map, Array.toArray_toList]
  · obtain ⟨v, hv, hr⟩ := vcField_sound hT hq
    exact ⟨_, _, hv, trivial, fun w _ => by simp only [execOp, Sem.run_bind, hr, Result.andThen_ok, Sem.run_pure]⟩
  · split at hq
    · rename_i ti hti
      split at hq
      · rename_i fs hsh
        split at hq
        · rename_i hfs
          split at hq
          · rename_i cs hcs
            refine ⟨_, _, hq, trivial, fun w _ => ?_⟩
            have := build_run hT hti hsh hfs hcs w
            simp only [← Array.toList_map, Array.toArray_toList] at this
            simp only [execOp, Sem.run_bind, this, Result.andThen_ok, Sem.run_pure]
          · exact hq.elim
        · exact hq.elim
      · rename_i n e hsh
        split at hq
        · rename_i s hs
          split at hq
          · rename_i cs hcs
            refine ⟨_, _, hq, trivial, fun w _ => ?_⟩
            have := buildA_run hT hti hsh hs hcs w
            simp only [← Array.toList_map, Array.toArray_toList] at this
            simp only [execOp, Sem.run_bind, this, Result.andThen_ok, Sem.run_pure]
          · exact hq.elim
        · exact hq.elim
      · exact hq.elim
    · exact hq.elim
  · exact lift (vcLoad_sound hT hq) fun w => by simp only [execOp, Sem.run_bind, Sem.run_pure]
  · split at hq
    · rename_i l c t hl ht
      split at hq
      · rename_i e hs
        obtain ⟨d, hd, rfl⟩ := Tab.shape_und hT hs
        refine ⟨_, _, hq, trivial, fun w _ => ?_⟩
        obtain ⟨cs, he⟩ := call_builtin (P := P) (w := w) (ρ := ρ) (dst := dst) (b := .len) (args := _) (argTypes := _) (ty := ty) (pos := pos) (after := after) (guard := guard)
        rw [he, map_of_list hl, arr_of_list ht]
        simp [builtin, Builtin.len_, run_underlying hd, goInt]
      · exact hq.elim
    · rename_i st t hl ht
      split at hq
      · rename_i hs
        obtain ⟨d, hd, ho⟩ := Tab.shape_und hT hs
        simp only [Shape.ok] at ho
        subst ho
        refine ⟨_, _, hq, trivial, fun w _ => ?_⟩
        obtain ⟨cs, he⟩ := call_builtin (P := P) (w := w) (ρ := ρ) (dst := dst) (b := .len) (args := _) (argTypes := _) (ty := ty) (pos := pos) (after := after) (guard := guard)
        rw [he, map_of_list hl, arr_of_list ht]
        simp [builtin, Builtin.len_, run_underlying hd, goInt]
      · exact hq.elim
    · exact hq.elim
  · split at hq
    · rename_i l c t hl ht
      split at hq
      · rename_i e hs
        obtain ⟨d, hd, rfl⟩ := Tab.shape_und hT hs
        refine ⟨_, _, hq, trivial, fun w _ => ?_⟩
        obtain ⟨cs, he⟩ := call_builtin (P := P) (w := w) (ρ := ρ) (dst := dst) (b := .cap) (args := _) (argTypes := _) (ty := ty) (pos := pos) (after := after) (guard := guard)
        rw [he, map_of_list hl, arr_of_list ht]
        simp [builtin, Builtin.cap_, run_underlying hd, goInt]
      · exact hq.elim
    · exact hq.elim
  · split at hq
    · rename_i hl
      refine ⟨_, _, hq, trivial, fun w _ => ?_⟩
      obtain ⟨cs, he⟩ := call_builtin (P := P) (w := w) (ρ := ρ) (dst := dst) (b := .min) (args := _) (argTypes := _) (ty := ty) (pos := pos) (after := after) (guard := guard)
      rw [he, map_of_list hl]
      simp [builtin, Builtin.min_, Builtin.min2]
    · exact hq.elim
  · split at hq
    · rename_i hl
      refine ⟨_, _, hq, trivial, fun w _ => ?_⟩
      obtain ⟨cs, he⟩ := call_builtin (P := P) (w := w) (ρ := ρ) (dst := dst) (b := .max) (args := _) (argTypes := _) (ty := ty) (pos := pos) (after := after) (guard := guard)
      rw [he, map_of_list hl]
      simp [builtin, Builtin.max_, Builtin.max2]
    · exact hq.elim
  · obtain ⟨x, h1, h2⟩ := hq
    exact ⟨_, _, h2, h1, fun w hw => by simp only [execOp, Sem.run_bind, hw w rfl, Result.andThen_ok, Sem.run_pure]⟩
  · obtain ⟨x, h1, h2⟩ := hq
    exact ⟨_, _, h2, trivial, fun w hw => by simp only [execOp, Sem.run_bind, h1 w, Result.andThen_ok, Sem.run_pure]⟩
end Go.Sx
namespace Go.Sx
set_option linter.unusedVariables false
def rep (n s : Nat) (z : List Value) : List Value := (List.range (n * s)).map fun i => (z[i % s]?).getD undef
def quietB (T : Tab) (op : Op) : Bool := match op with
  | .alloc _ => false | .box _ _ => false | .buildSlice _ _ _ => false | .store _ _ _ => false
  | .makeSlice _ _ _ => false | .makeMap _ _ => false | .mapUpdate _ _ _ _ => false | .insert _ _ _ _ => false
  | .range _ _ => false | .next _ _ => false | .entry _ => false
  | .call { callee := .builtin .len, .. } => true
  | .call { callee := .builtin .cap, .. } => true
  | .call { callee := .builtin .min, .. } => true
  | .call { callee := .builtin .max, .. } => true
  | .call _ => false
  | .convert s d _ => (match T.shape d with | some (.slice _) => false | _ => true)
  | _ => true
def Chk (b : Bool) (A : Prop) : Prop := match b with | true => A | false => False
theorem Chk.spec {b : Bool} {A : Prop} (h : Chk b A) : b = true ∧ A := by cases b; exact h.elim; exact ⟨rfl, h⟩
def CallV (P : Program) (f : Value) (args : List Value) (h : Heap) (R : Value → Heap → Prop) : Prop :=
  (∃ g first cap, f = .func (.func g) first cap ∧ Callable P g ∧ CallsH P g (first.toList ++ args ++ cap.toList).toArray h R) ∨
  ∃ l, f = .func (.yield l) #[] #[] ∧ RoundH P l args h R
def vcM (T : Tab) (P : Program) (o : Oper) (ρ : Env) (h : Heap) (κ : Value → Heap → Prop) : Prop := match o.op with
  | .alloc t => (match T.ty t with
    | some ti => ∀ b h', Fresh h (.cells ti.zero.toArray t) b h' → κ (.pointer (some ⟨b, 0, none⟩)) h'
    | none => False)
  | .box t x => ∀ b h', Fresh h (.cells (ev ρ x).cells t) b h' → κ (.pointer (some ⟨b, 0, none⟩)) h'
  | .buildSlice t len parts => (match T.shape t with
    | some (.slice e) => (match T.ty e with
      | some ti => (match Nat.beq ti.zero.length ti.size, Nat.ble (len * ti.size) 16777216, Nat.ble 1 (len * ti.size), fillL T (fun i => some (mulN i ti.size, ti.size)) (rep len ti.size ti.zero) (parts.toList.map fun x => (x.1, ev ρ x.2)) with
        | true, true, true, some cs => ∀ b h', Fresh h (.cells cs.toArray e) b h' → κ (.slice (some ⟨b, 0, none⟩) len len) h'
        | true, true, false, some cs => ∀ b h', Fresh h (.cells #[] e) b h' → κ (.slice (some ⟨b, 0, none⟩) len len) h'
        | _, _, _, _ => False)
      | none => False)
    | _ => False)
  | .store t a x => (match ev ρ a, T.size t with
    | .pointer p, some s => NilP p fun b o => Chk (Nat.beq (ev ρ x).cells.toList.length s) (Chk ((ev ρ x).cells.toList.all Value.oneCell') (CanSt h b o (ev ρ x).cells.toList ∧ ∀ h', Stored h b o (ev ρ x).cells.toList h' → κ undef h'))
    | _, _ => False)
  | .call { callee := .value f, args, .. } => (match f with
    | .func g => (match T.res g with
      | some rk => CallsH P g (args.toList.map (ev ρ)).toArray h (fun v h' => exR rk (fun v' => v = v' ∧ κ v' h'))
      | none => False)
    | f => (match T.rt o.type with
      | some rk => CallV P (ev ρ f) (args.toList.map (ev ρ)) h (fun v h' => exR rk (fun v' => v = v' ∧ κ v' h'))
      | none => False))
  | .call { callee := .builtin .append, args, argTypes } => RunK P .sl (Builtin.append_ argTypes o.type (args.toList.map (ev ρ)).toArray) h (fun x h' => κ (K1.sl.mk x) h')
  | .call { callee := .builtin .copy, args, argTypes } => RunK P (.i .i64) (Builtin.copy_ argTypes o.type (args.toList.map (ev ρ)).toArray) h (fun x h' => κ ((K1.i .i64).mk x) h')
  | .call { callee := .builtin .clear, args, argTypes } => RunK P .v (Builtin.clear_ argTypes o.type (args.toList.map (ev ρ)).toArray) h (fun x h' => κ x h')
  | .call { callee := .builtin .delete, args, argTypes } => RunK P .v (Builtin.delete_ argTypes o.type (args.toList.map (ev ρ)).toArray) h (fun x h' => κ x h')
  | .makeSlice t l c => RunK P .sl (Instr.makeSlice t (ev ρ l) (ev ρ c)) h (fun x h' => κ (K1.sl.mk x) h')
  | .makeMap t r => RunK P .m (Instr.makeMap t (r.map (ev ρ))) h (fun x h' => κ (K1.m.mk x) h')
  | .mapUpdate t m k x => RunU P (Instr.mapUpdate t (ev ρ m) (ev ρ k) (ev ρ x)) h (fun h' => κ undef h')
  | .insert t m k x => RunU P (Instr.mapUpdate t (ev ρ m) (ev ρ k) (ev ρ x)) h (fun h' => κ undef h')
  | .convert s d x => RunK P .sl (convert s d (ev ρ x)) h (fun x h' => κ (K1.sl.mk x) h')
  | .range t x => RunK P .v (Instr.range t (ev ρ x)) h (fun x h' => κ x h')
  | .next it s => RunK P .v (Instr.next (ev ρ it) s o.type) h (fun x h' => κ x h')
  | _ => False
def Goes (P : Program) (s : Sem Next) (h : Heap) (κ : Value → Heap → Prop) : Prop := ∀ w : World, w.heap = h →
  (∃ v w', s.run P w = .ok (.value v) w' ∧ SameW w w' ∧ κ v w'.heap) ∨ (∃ w', s.run P w = .ok .skip w' ∧ SameW w w' ∧ κ undef w'.heap) ∨
  (∃ g args, s.run P w = .ok (.enter g args) w ∧ CallsH P g args h κ) ∨
  ∃ l f tmps asg body, s.run P w = .ok (.round l f tmps asg body) w ∧ RoundIn (Fr none) 0 P l f tmps asg body w (fun e w' => SameW w w' ∧ ∃ v, e = .returned v ∧ κ v w'.heap)
theorem Goes.val {P : Program} {s : Sem Value} {h : Heap} {κ : Value → Heap → Prop} (hs : ∀ w : World, w.heap = h → ∃ v w', s.run P w = .ok v w' ∧ SameW w w' ∧ κ v w'.heap) :
    Goes P (do pure (.value (← s))) h κ := fun w hw => by
  obtain ⟨v, w', h1, h2, h3⟩ := hs w hw
  exact .inl ⟨v, w', by simp only [Sem.run_bind, h1, Result.andThen_ok, Sem.run_pure], h2, h3⟩
theorem Goes.unit {P : Program} {s : Sem Unit} {h : Heap} {κ : Value → Heap → Prop} (hs : ∀ w : World, w.heap = h → ∃ w', s.run P w = .ok () w' ∧ SameW w w' ∧ κ undef w'.heap) :
    Goes P (do s; pure .skip) h κ := fun w hw => by
  obtain ⟨w', h1, h2, h3⟩ := hs w hw
  exact .inr (.inl ⟨w', by simp only [Sem.run_bind, h1, Result.andThen_ok, Sem.run_pure], h2, h3⟩)
theorem newRow_run {P : Program} {w : World} {t : TypeId} {c : Array Value} : (newRow t c).run P w = .ok ⟨w.heap.size, 0, none⟩ (w.alloc (.cells c t)) := rfl
theorem store_run {P : Program} : ∀ (vs : List Value) (i : Nat) (b o : Nat) (w : World) (c : Array Value) (T : TypeId) (fz : Nat × Nat), w.heap[b]? = some (.cells c T fz) → o + i + vs.length ≤ c.size → (fz.2 ≤ o + i ∨ o + i + vs.length ≤ fz.1) → vs.all Value.oneCell' = true →
    (storeCells ⟨b, o, none⟩ vs i).run P w = .ok () { w with heap := w.heap.modify b fun | .cells c T fz => .cells (splice c (o + i) vs) T fz | x => x }
  | [], i, b, o, w, c, T, fz, hb, _, _, _ => by
    have e : w.heap.modify b (fun | .cells c T fz => .cells (splice c (o + i) []) T fz | x => x) = w.heap := by
      apply Array.ext_getElem?
      intro j
      simp only [Array.getElem?_modify]
      split
      · subst_vars; rw [hb]; rfl
      · rfl
    simp only [storeCells, Sem.run_pure]
    rw [e]
  | v :: vs, i, b, o, w, c, T, fz, hb, hl, hf, h1 => by
    simp only [List.length_cons] at hl hf
    simp only [List.all_cons, Bool.and_eq_true] at h1
    have hcell : w.cell? ⟨b, o + i, none⟩ = some c[o + i] := by
      rw [cell?_eq]; simp only [cellH, hb]; exact Array.getElem?_eq_getElem (by omega)
    have hfz : w.frozen? ⟨b, o + i, none⟩ = false := by
      obtain ⟨lo, hi⟩ := fz
      simp only [World.frozen?, hb]
      simp only [Bool.and_eq_false_iff, decide_eq_false_iff_not]
      rcases hf with h | h
      · exact .inr (by simp at h ⊢; omega)
      · exact .inl (by simp at h ⊢; omega)
    have hst : (store ⟨b, o + i, none⟩ v).run P w = .ok () (w.setCell ⟨b, o + i, none⟩ v) := by
      have h1' := h1.1
      unfold store
      cases v <;> simp only [Sem.run, hcell, hfz, Bool.false_eq_true, if_false] <;> first | rfl | cases h1'
    have hb' : (w.setCell ⟨b, o + i, none⟩ v).heap[b]? = some (.cells (c.setIfInBounds (o + i) v) T fz) := by
      simp only [World.setCell, Array.getElem?_modify, if_true, hb]; rfl
    simp only [storeCells, Sem.run_bind, addr_add, hst, Result.andThen_ok]
    rw [store_run vs (i + 1) b o _ _ T fz hb' (by simp; omega) (by simp only [← Nat.add_assoc]; omega) h1.2]
    congr 1
    simp only [World.setCell]
    congr 1
    apply Array.ext_getElem?
    intro j
    simp only [Array.getElem?_modify]
    split
    · subst_vars; rw [hb]; rfl
    · rfl
theorem rep_eq {n s : Nat} {z : Array Value} (hz : z.size = s) (h0 : 1 ≤ n * s) : ((Array.range (n * s)).map (z[· % z.size]!)).toList = rep n s z.toList := by
  have hs : 0 < s := Nat.pos_of_mul_pos_left (show 0 < n * s from h0) |> fun h => by
    rcases Nat.eq_zero_or_pos s with h' | h'
    · subst h'; simp at h0
    · exact h'
  unfold rep
  simp only [Array.toList_map, Array.toList_range]
  apply List.map_congr_left
  intro i _
  have hlt : i % s < z.size := by rw [hz]; exact Nat.mod_lt _ hs
  rw [hz]
  simp [getElem!_pos, hlt]
theorem enter_run {P : Program} {w : World} {g : FuncId} {args : Array Value} (hc : Callable P g) : (callFunc g args).run P w = .ok (.enter g args) w := by
  obtain ⟨fn, h1, h2, h3⟩ := hc
  simp only [callFunc, program, Sem.run_bind, Sem.run, Result.andThen_ok, h1, h2, h3, Bool.false_eq_true, if_false]
  rfl
theorem vcM_sound {P : Program} {T : Tab} (hT : TabOk P T) {o : Oper} {ρ : Env} {h : Heap} {κ : Value → Heap → Prop} (hq : vcM T P o ρ h κ) : Goes P (execOp (ev ρ) o) h κ := by
  obtain ⟨dst, op, ty, pos, after, guard⟩ := o
  simp only [vcM] at hq
  have viaRunK : ∀ {k : K1} {s : Sem Value} {K : k.T → Heap → Prop}, RunK P k s h K → (∀ x h', K x h' → κ (k.mk x) h') → Goes P (do pure (.value (← s))) h κ := by
    intro k s K hr hk
    refine Goes.val fun w hw => ?_
    obtain ⟨x, w', h1, h2, h3⟩ := hr w hw
    exact ⟨_, w', h1, h2, hk _ _ h3⟩
  split at hq <;> try exact hq.elim
  · split at hq
    · rename_i ti hti
      obtain ⟨⟨i, hi, ⟨z, hz, hzc⟩, _⟩, _⟩ := hT.ty _ ti hti
      refine Goes.val fun w hw => ?_
      subst hw
      refine ⟨_, w.alloc (.cells ti.zero.toArray _), ?_, SameW.refl _, hq _ _ ⟨rfl, rfl⟩⟩
      simp only [Instr.alloc, zeroValue, newVar, Sem.run_bind, run_info hi, Result.andThen_ok, hz, Sem.run_pure, newRow_run]
      rw [← hzc]
    · exact hq.elim
  · refine Goes.val fun w hw => ?_
    subst hw
    refine ⟨_, w.alloc _, ?_, SameW.refl _, hq _ _ ⟨rfl, rfl⟩⟩
    simp only [Instr.box, newVar, Sem.run_bind, Result.andThen_ok, Sem.run_pure, newRow_run]
  · rename_i t len parts
    split at hq
    · rename_i e hs
      obtain ⟨d, hd, rfl⟩ := Tab.shape_und hT hs
      split at hq
      · rename_i ti hti
        obtain ⟨⟨i, hi, ⟨z, hz, hzc⟩, hsz⟩, _⟩ := hT.ty _ ti hti
        have hzero : ∀ w : World, (zeroValue e).run P w = .ok z w := fun w => by simp only [zeroValue, Sem.run_bind, run_info hi, Result.andThen_ok, hz, Sem.run_pure]
        have hsize : ∀ w : World, (sizeOf e).run P w = .ok ti.size w := fun w => by rw [run_size hi, hsz]
        split at hq
        · rename_i cs h1 h2 h3 hf
          have h1 := Nat.eq_of_beq_eq_true h1
          have h2 := Nat.le_of_ble_eq_true h2
          have h3 := Nat.le_of_ble_eq_true h3
          refine Goes.val fun w hw => ?_
          subst hw
          refine ⟨_, w.alloc (.cells cs.toArray e), ?_, SameW.refl _, hq _ _ ⟨rfl, rfl⟩⟩
          have hfill := fill_run (T := T) (pl' := fun i => some (i * ti.size, ti.size)) (fun i x hx => by rw [mulN_eq] at hx; exact hx) _ _ hf
          have hr := rep_eq (n := len) (z := z.cells) (show z.cells.size = ti.size by rw [← h1, ← hzc]; simp) h3
          rw [← hzc, ← hr] at hfill
          simp only [Array.toArray_toList, ← Array.toList_map] at hfill
          simp only [Instr.buildSlice, Sem.run_bind, run_underlying hd, Result.andThen_ok, hsize, if_neg (show ¬ len * ti.size > 2 ^ 24 by simpa using h2), if_neg (show ¬ len * ti.size = 0 by omega), hzero, Sem.run_pure, hfill, newRow_run]
        · rename_i cs h1 h2 h3 hf
          have h3' : len * ti.size = 0 := by
            rcases Nat.eq_zero_or_pos (len * ti.size) with h | h
            · exact h
            · have := Nat.ble_eq_true_of_le (show 1 ≤ len * ti.size from h); rw [h3] at this; cases this
          refine Goes.val fun w hw => ?_
          subst hw
          refine ⟨_, w.alloc (.cells #[] e), ?_, SameW.refl _, hq _ _ ⟨rfl, rfl⟩⟩
          have hfill := fill_run (T := T) (pl' := fun i => some (i * ti.size, ti.size)) (fun i x hx => by rw [mulN_eq] at hx; exact hx) _ _ hf
          have hrep : rep len ti.size ti.zero = [] := by simp [rep, h3']
          have hcs : cs = [] := by
            have hlen : ∀ (parts : List (Nat × Value)) (cells out : List Value), fillL T (fun i => some (mulN i ti.size, ti.size)) cells parts = some out → out.length = cells.length := by
              intro parts
              induction parts with
              | nil => intro cells out h; simp [fillL] at h; rw [h]
              | cons x r ih =>
                intro cells out h
                obtain ⟨i, v⟩ := x
                simp only [fillL] at h
                split at h
                · rename_i g1 g2
                  have g1 := Nat.eq_of_beq_eq_true g1
                  have g2 := Nat.le_of_ble_eq_true g2
                  rw [ih _ _ h]
                  simp only [List.length_append, List.length_take, List.length_drop, g1]
                  omega
                · cases h
            have := hlen _ _ _ hf
            rw [hrep] at this
            exact List.eq_nil_of_length_eq_zero this
          subst hcs
          rw [hrep] at hfill
          simp only [← Array.toList_map] at hfill
          simp only [Instr.buildSlice, Sem.run_bind, run_underlying hd, Result.andThen_ok, hsize, h3', if_neg (show ¬ 0 > 2 ^ 24 by decide), if_true, Sem.run_pure]
          have e0 : ((Array.range 0).map fun i => (#[] : Array Value)[i % (#[] : Array Value).size]!) = (#[] : Array Value) := by apply Array.ext'; simp
          rw [e0]
          simp only [hfill, Sem.run_bind, newRow_run, Result.andThen_ok, Sem.run_pure]
        · exact hq.elim
      · exact hq.elim
    · exact hq.elim
  · rename_i t ad vx
    split at hq
    · rename_i p s hp hs
      obtain ⟨b, o, hpe, hs1⟩ := NilP.spec hq
      subst hpe
      · obtain ⟨h1, hs2⟩ := Chk.spec hs1
        obtain ⟨h2, hs3⟩ := Chk.spec hs2
        have h1 := Nat.eq_of_beq_eq_true h1
        obtain ⟨⟨c, T', fz, hb, hl, hf⟩, hq⟩ := hs3
        refine Goes.unit fun w hw => ?_
        subst hw
        refine ⟨{ w with heap := w.heap.modify b fun | .cells c T fz => .cells (splice c o (ev ρ vx).cells.toList) T fz | x => x }, ?_, ?_, hq _ rfl⟩
        · have h1' : (ev ρ vx).cells.size = s := by simpa using h1
          simp only [Instr.storeAt, Instr.sureAddr, storeVar, hp, Sem.run_bind, Sem.run_pure, Result.andThen_ok, Tab.size_run hT hs, h1', ne_eq, not_true_eq_false, if_false]
          exact store_run _ 0 b o w c T' fz hb (by simpa using hl) (by simpa using hf) h2
        · exact ⟨rfl, rfl, rfl⟩
    · exact hq.elim
  · rename_i f args tys
    split at hq
    · rename_i g
      split at hq
      · rename_i rk hrk
        refine fun w hw => .inr (.inr (.inl ⟨g, (args.toList.map (ev ρ)).toArray, ?_, hq.mono fun v h' hv => ?_⟩))
        · simp only [execOp, resolve, ev, Deferred.ofValue, Sem.run_bind, Sem.run_pure, Result.andThen_ok, invoke]
          have e : #[] ++ args.map (ev ρ) ++ #[] = (args.toList.map (ev ρ)).toArray := by
            apply Array.ext'; simp
          rw [e]
          exact enter_run (hT.res g rk hrk)
        · obtain ⟨v', rfl, h2⟩ := exR_spec hv
          exact h2
      · exact hq.elim
    · split at hq
      · rename_i rk hrk
        rcases hq with ⟨g, first, cap, hf, hc, hq⟩ | ⟨l, hf, hq⟩
        · refine fun w hw => .inr (.inr (.inl ⟨g, (first.toList ++ args.toList.map (ev ρ) ++ cap.toList).toArray, ?_, hq.mono fun v h' hv => ?_⟩))
          · simp only [execOp, resolve, hf, Deferred.ofValue, Sem.run_bind, Sem.run_pure, Result.andThen_ok, invoke]
            have e : first ++ args.map (ev ρ) ++ cap = (first.toList ++ args.toList.map (ev ρ) ++ cap.toList).toArray := by
              apply Array.ext'; simp
            rw [e]
            exact enter_run hc
          · obtain ⟨v', rfl, h2⟩ := exR_spec hv
            exact h2
        · refine fun w hw => .inr (.inr (.inr ?_))
          obtain ⟨f', tmps, asg, body, h1, h2⟩ := hq w hw
          refine ⟨l, f', tmps, asg, body, ?_, h2.mono fun e w' ⟨s, v, he, hv⟩ => ⟨s, v, he, ?_⟩⟩
          · simp only [execOp, resolve, hf, Deferred.ofValue, Sem.run_bind, Sem.run_pure, Result.andThen_ok, invoke]
            have e : #[] ++ args.map (ev ρ) = (args.toList.map (ev ρ)).toArray := by
              apply Array.ext'; simp
            rw [e]
            exact h1
          · obtain ⟨v', rfl, h2⟩ := exR_spec hv
            exact h2
      · exact hq.elim
  · obtain ⟨cs, he⟩ := call_builtin (P := P) (w := default) (ρ := ρ) (dst := dst) (b := .append) (args := _) (argTypes := _) (ty := ty) (pos := pos) (after := after) (guard := guard)
    rw [he, map_of_list rfl]
    exact viaRunK hq fun x h' hx => hx
  · obtain ⟨cs, he⟩ := call_builtin (P := P) (w := default) (ρ := ρ) (dst := dst) (b := .copy) (args := _) (argTypes := _) (ty := ty) (pos := pos) (after := after) (guard := guard)
    rw [he, map_of_list rfl]
    exact viaRunK hq fun x h' hx => hx
  · obtain ⟨cs, he⟩ := call_builtin (P := P) (w := default) (ρ := ρ) (dst := dst) (b := .clear) (args := _) (argTypes := _) (ty := ty) (pos := pos) (after := after) (guard := guard)
    rw [he, map_of_list rfl]
    exact viaRunK (k := .v) hq fun x h' hx => hx
  · obtain ⟨cs, he⟩ := call_builtin (P := P) (w := default) (ρ := ρ) (dst := dst) (b := .delete) (args := _) (argTypes := _) (ty := ty) (pos := pos) (after := after) (guard := guard)
    rw [he, map_of_list rfl]
    exact viaRunK (k := .v) hq fun x h' hx => hx
  · exact viaRunK hq fun x h' hx => hx
  · exact viaRunK hq fun x h' hx => hx
  · exact Goes.unit fun w hw => hq w hw
  · exact Goes.unit fun w hw => hq w hw
  · exact viaRunK hq fun x h' hx => hx
  · exact viaRunK (k := .v) hq fun x h' hx => hx
  · exact viaRunK (k := .v) hq fun x h' hx => hx
end Go.Sx
namespace Go.Sx
set_option linter.unusedVariables false
def marks (ms : List Nat) : List Deferred := ms.map fun D => { target := .collected D, args := #[] }
structure Ag (ms : List Nat) (n : Nat) (a : Act) (ρ : Env) : Prop where
  size : a.tmps.size = n
  defers : a.defers = marks ms
  get : ∀ t, a.tmps.getD t undef = ρ t
theorem Ag.eval {ms : List Nat} {n : Nat} {a : Act} {ρ : Env} (h : Ag ms n a ρ) : a.eval = ev ρ := by
  funext x
  cases x with
  | tmp t => exact h.get t
  | _ => rfl
theorem Ag.put {ms : List Nat} {n : Nat} {a : Act} {ρ : Env} (h : Ag ms n a ρ) {d : Option Tmp} (hd : ∀ t, d = some t → t < n) (v : Value) : Ag ms n (a.put d v) (updO ρ d v) := by
  cases d with
  | none => exact h
  | some d =>
    have hlt := hd d rfl
    refine ⟨by simp [Act.put, h.size], h.defers, fun t => ?_⟩
    simp only [updO, upd]
    by_cases e : t = d
    · subst e
      have : Nat.beq t t = true := Nat.beq_refl t
      rw [this]
      simp [Act.put, h.size, hlt]
    · have : Nat.beq t d = false := by
        cases hb : Nat.beq t d with
        | false => rfl
        | true => exact absurd (Nat.eq_of_beq_eq_true hb) e
      rw [this]
      have := h.get t
      simp only [Array.getD_eq_getD_getElem?] at this
      simp [Act.put, Ne.symm e, this]
def vcSrc (b : Bool) (v : Value) (κ : Value → Prop) : Prop := match b, v with
  | true, .bool c => CondP c (κ (.bool true)) (κ (.bool false))
  | _, v => κ v
theorem vcSrc_sound {b : Bool} {v : Value} {κ : Value → Prop} (h : vcSrc b v κ) : κ v := by
  unfold vcSrc at h
  split at h
  · rename_i c; cases c <;> exact h
  · exact h
def isSrc (ops : List Oper) (i : Nat) : Bool := ops.any fun o => match o.guard with | some (j, _) => Nat.beq j i | none => false
def vcOne (T : Tab) (P : Program) (ops : List Oper) (i : Nat) (o : Oper) (ρ : Env) (h : Heap) (κ : Value → Heap → Prop) : Prop := match quietB T o.op with
  | true => vcQ T P o ρ h (fun v _ => vcSrc (isSrc ops i) v (fun v => κ v h))
  | false => vcM T P o ρ h (fun v h' => vcSrc (isSrc ops i) v (fun v => κ v h'))
def vcGuard (ops : List Oper) (o : Oper) (ρ : Env) (A B : Prop) : Prop := match o.guard with
  | none => A
  | some (j, want) => (match ops[j]? with
    | some oj => (match oj.dst with
      | some d => (match ρ d with
        | .bool c => (match want with | true => CondP c A B | false => CondP c B A)
        | _ => B)
      | none => B)
    | none => B)
def vcOps (T : Tab) (P : Program) (ops : List Oper) : Nat → List Oper → Env → Heap → (Env → Heap → Prop) → Prop
  | _, [], ρ, h, K => K ρ h
  | i, o :: r, ρ, h, K => vcGuard ops o ρ (vcOne T P ops i o ρ h (fun v h' => vcOps T P ops (i + 1) r (updO ρ o.dst v) h' K)) (vcOps T P ops (i + 1) r (updO ρ o.dst undef) h K)
theorem vcQ_goes {P : Program} {T : Tab} (hT : TabOk P T) {o : Oper} {ρ : Env} {h : Heap} {κ : Value → Prop} (hq : vcQ T P o ρ h (fun v _ => κ v)) : Goes P (execOp (ev ρ) o) h (fun v h' => h' = h ∧ κ v) := by
  obtain ⟨v, c, h1, h2, h3⟩ := vcQ_sound hT hq
  exact fun w hw => .inl ⟨v, w, h3 w (hw ▸ h2), SameW.refl _, hw, h1⟩
theorem Goes.mono {P : Program} {s : Sem Next} {h : Heap} {κ κ' : Value → Heap → Prop} (hg : Goes P s h κ) (hk : ∀ v h', κ v h' → κ' v h') : Goes P s h κ' := fun w hw => by
  rcases hg w hw with ⟨v, w', h1, h2, h3⟩ | ⟨w', h1, h2, h3⟩ | ⟨g, args, h1, h2⟩ | ⟨l, f, tmps, asg, body, h1, h2⟩
  · exact .inl ⟨v, w', h1, h2, hk _ _ h3⟩
  · exact .inr (.inl ⟨w', h1, h2, hk _ _ h3⟩)
  · exact .inr (.inr (.inl ⟨g, args, h1, h2.mono hk⟩))
  · exact .inr (.inr (.inr ⟨l, f, tmps, asg, body, h1, h2.mono fun _ _ ⟨s, v, e, r⟩ => ⟨s, v, e, hk _ _ r⟩⟩))
theorem vcOne_goes {P : Program} {T : Tab} (hT : TabOk P T) {ops : List Oper} {i : Nat} {o : Oper} {ρ : Env} {h : Heap} {κ : Value → Heap → Prop} (hq : vcOne T P ops i o ρ h κ) : Goes P (execOp (ev ρ) o) h κ := by
  unfold vcOne at hq
  split at hq
  · exact (vcQ_goes hT (κ := fun v => vcSrc (isSrc ops i) v (fun v => κ v h)) hq).mono fun v h' ⟨e, hv⟩ => e ▸ vcSrc_sound hv
  · exact (vcM_sound hT hq).mono fun v h' hv => vcSrc_sound hv
theorem not_defer {P : Program} {ρ : Operand → Value} {o : Oper} {w w' : World} {x : Next} (h : (execOp ρ o).run P w = .ok x w') (hx : ∀ d, x ≠ .defer d) : ∀ c, o.op ≠ .defer c := by
  intro c hc
  simp only [execOp, hc, Sem.run_bind] at h
  cases hr : (resolve ρ c o.type).run P w with
  | ok d w1 =>
    rw [hr] at h
    simp only [Result.andThen_ok, Sem.run_pure, Result.ok.injEq] at h
    exact hx _ h.1.symm
  | halt x w1 => rw [hr] at h; cases h
theorem Goes.wp {P : Program} {o : Oper} {a : Act} {w : World} {κ : Value → Heap → Prop} {r : Option Nat} (hg : Goes P (execOp a.eval o) w.heap κ) {next : Act → World → Prop} {Q : Exit → Act → World → Prop}
    (hn : ∀ v w', SameW w w' → κ v w'.heap → next (a.put o.dst v) w') : o.wpIn (Fr r) 0 P a w next Q := by
  refine ⟨fun _ _ => trivial, ?_⟩
  have hf : ∀ h : Prop, (Fr r).depth.isSome = true → h := fun h hc => by cases hc
  rcases hg w rfl with ⟨v, w', h1, h2, h3⟩ | ⟨w', h1, h2, h3⟩ | ⟨g, args, h1, h2⟩ | ⟨l, f, tmps, asg, body, h1, h2⟩
  · rw [Oper.semAt_eq _ _ _ (not_defer h1 (by simp)), h1]; exact hn v w' h2 h3
  · rw [Oper.semAt_eq _ _ _ (not_defer h1 (by simp)), h1]; exact hn undef w' h2 h3
  · rw [Oper.semAt_eq _ _ _ (not_defer h1 (by simp)), h1]
    refine ⟨hf _, (h2.fenced rfl r).mono fun e w' ⟨hs, v, he, hv⟩ => ?_⟩
    subst he
    exact hn v w' hs hv
  · rw [Oper.semAt_eq _ _ _ (not_defer h1 (by simp)), h1]
    refine ⟨hf _, RoundIn.mono (F := Fr r) h2 fun e w' ⟨hs, v, he, hv⟩ => ?_⟩
    subst he
    exact hn v w' hs hv
theorem guard_cases {ms : List Nat} {ops : Array Oper} {o : Oper} {n : Nat} {a : Act} {ρ : Env} (ha : Ag ms n a ρ) {A B : Prop} (h : vcGuard ops.toList o ρ A B) :
    (Region.wanted o (yielded ops a.tmps) = true ∧ A) ∨ (Region.wanted o (yielded ops a.tmps) = false ∧ B) := by
  unfold vcGuard at h
  unfold Region.wanted
  split at h
  · rename_i hg; rw [hg]; exact .inl ⟨rfl, h⟩
  · rename_i j want hg
    rw [hg]
    have hy : yielded ops a.tmps j = match ((ops[j]?).bind (·.dst)) with | some d => (match ρ d with | .bool b => some b | _ => none) | none => none := by
      unfold yielded
      cases hd : (ops[j]?).bind (·.dst) with
      | none => rfl
      | some d =>
        have hg := ha.get d
        simp only [Option.bind_some]
        simp only [Array.getD_eq_getD_getElem?] at hg
        cases ht : a.tmps[d]? with
        | none => rw [ht] at hg; simp only [Option.getD_none] at hg; rw [← hg]; rfl
        | some v => rw [ht] at hg; simp only [Option.getD_some] at hg; rw [← hg]; cases v <;> rfl
    have hno : (ops[j]?).bind (·.dst) = none → B → (yielded ops a.tmps j == some want) = true ∧ A ∨ (yielded ops a.tmps j == some want) = false ∧ B := by
      intro h0 hB; rw [hy, h0]; exact .inr ⟨rfl, hB⟩
    simp only [Array.getElem?_toList] at h
    split at h
    · rename_i oj hoj
      split at h
      · rename_i d hd
        have hd' : (ops[j]?).bind (·.dst) = some d := by rw [hoj]; exact hd
        dsimp only
        rw [hy, hd']
        dsimp only
        split at h
        · rename_i c hc
          cases want <;> cases c <;> first | exact .inl ⟨rfl, h⟩ | exact .inr ⟨rfl, h⟩
        · rename_i hnb
          refine .inr ⟨?_, h⟩
          cases hv : ρ d <;> first | rfl | exact absurd hv (hnb _)
      · rename_i hd
        exact hno (by rw [hoj]; exact hd) h
    · rename_i hoj
      exact hno (by rw [hoj]; rfl) h
theorem vcOps_sound {P : Program} {T : Tab} (hT : TabOk P T) {r : Option Nat} {ms : List Nat} {n : Nat} {ops : Array Oper} {Q : Exit → Act → World → Prop} {K : Env → Heap → Prop} {w0 : World} {ρ0 : Env} {D : Nat → Prop}
    (hK : ∀ ρ' a' w', Ag ms n a' ρ' → SameW w0 w' → (∀ t, ¬ D t → ρ' t = ρ0 t) → K ρ' w'.heap → Q .normal a' w') :
    ∀ (l : List Oper) (i : Nat) (ρ : Env) (a : Act) (w : World), (∀ o ∈ l, ∀ d, o.dst = some d → d < n ∧ D d) → Ag ms n a ρ → SameW w0 w → (∀ t, ¬ D t → ρ t = ρ0 t) →
      vcOps T P ops.toList i l ρ w.heap K → wpListIn (Fr r) 0 P ops Q l a w
  | [], _, ρ, a, w, _, ha, hs, hD, h => hK ρ a w ha hs hD h
  | o :: rr, i, ρ, a, w, hd, ha, hs, hD, h => by
    have hd1 := hd o (by simp)
    have hupd : ∀ v, ∀ t, ¬ D t → updO ρ o.dst v t = ρ0 t := by
      intro v t ht
      cases hdst : o.dst with
      | none => exact hD t ht
      | some d =>
        have : Nat.beq t d = false := by
          cases hb : Nat.beq t d with
          | false => rfl
          | true => have := Nat.eq_of_beq_eq_true hb; subst this; exact absurd (hd1 t hdst).2 ht
        simp only [updO, upd, this]
        exact hD t ht
    have ih := vcOps_sound (r := r) (ops := ops) hT hK rr (i + 1)
    unfold wpListIn
    rcases guard_cases ha h with ⟨hw, hA⟩ | ⟨hw, hB⟩
    · rw [if_pos hw]
      have hg := vcOne_goes hT hA
      rw [← ha.eval] at hg
      exact hg.wp fun v w' hs' hv => ih _ _ _ (fun o ho => hd o (by simp [ho])) (ha.put (fun t ht => (hd1 t ht).1) v) (hs.trans hs') (hupd v) hv
    · rw [if_neg (by simp [hw])]
      refine ⟨fun _ _ => trivial, ?_⟩
      exact ih _ _ _ (fun o ho => hd o (by simp [ho])) (ha.put (fun t ht => (hd1 t ht).1) undef) hs (hupd undef) hB
end Go.Sx
namespace Go.Sx
set_option linter.unusedVariables false
inductive Plan where
  | nil | fin
  | q (i : Nat) (p : Plan)
  | m (i : Nat) (p alt : Plan)
def deps (o : Oper) : List Nat := (o.after.toList.filter (Region.binds .any)).map (·.on)
def maskOf (acc : List Nat) : List Nat → Nat
  | [] => 0
  | j :: js => Nat.lor (Nat.lor (Nat.shiftLeft 1 j) ((acc[j]?).getD 0)) (maskOf acc js)
def masksGo : List Nat → List Oper → List Nat
  | acc, [] => acc
  | acc, o :: r => masksGo (acc ++ [maskOf acc (deps o)]) r
def maskAt (ops : List Oper) (i : Nat) : Nat := ((masksGo [] ops)[i]?).getD 0
abbrev Stl := List (Nat × Option (Heap → Prop))
def Stab : Stl → Heap → Prop → Prop
  | [], _, A => A
  | (_, none) :: r, h, A => Stab r h A
  | (_, some C) :: r, h, A => C h ∧ Stab r h A
theorem Stab.spec : ∀ {st : Stl} {h : Heap} {A : Prop}, Stab st h A → A ∧ ∀ x ∈ st, OkIn x.2 h
  | [], _, _, hs => ⟨hs, nofun⟩
  | (i, none) :: r, h, A, hs => by
    have := Stab.spec (st := r) hs
    exact ⟨this.1, fun x hx => by
      rcases List.mem_cons.1 hx with rfl | hx
      · trivial
      · exact this.2 x hx⟩
  | (i, some C) :: r, h, A, hs => by
    have := Stab.spec (st := r) hs.2
    exact ⟨this.1, fun x hx => by
      rcases List.mem_cons.1 hx with rfl | hx
      · exact hs.1
      · exact this.2 x hx⟩
def AndAlt (alt : Plan) (A B : Prop) : Prop := match alt with | .nil => A | _ => A ∧ B
def memB (i : Nat) : List Nat → Bool
  | [] => false
  | x :: l => match Nat.beq i x with | true => true | false => memB i l
theorem memB_iff {i : Nat} : ∀ {l : List Nat}, memB i l = true ↔ i ∈ l
  | [] => by simp [memB]
  | x :: l => by
    unfold memB
    cases h : Nat.beq i x with
    | true => simp [Nat.eq_of_beq_eq_true h]
    | false =>
      have : i ≠ x := fun e => by subst e; rw [Nat.beq_refl] at h; cases h
      simp [this, memB_iff]
def stFilter (m : Nat) : Stl → Stl
  | [] => []
  | (i, c) :: r => match Nat.testBit m i with | true => stFilter m r | false => (i, c) :: stFilter m r
theorem mem_stFilter {m : Nat} {x : Nat × Option (Heap → Prop)} : ∀ {st : Stl}, x ∈ st → ¬ Nat.testBit m x.1 = true → x ∈ stFilter m st
  | (i, c) :: r, hx, hl => by
    unfold stFilter
    rcases List.mem_cons.1 hx with rfl | hx
    · have : Nat.testBit m i = false := by simpa using hl
      rw [this]; exact List.mem_cons_self
    · split
      · exact mem_stFilter hx hl
      · exact List.mem_cons_of_mem _ (mem_stFilter hx hl)
def vcPlan (T : Tab) (P : Program) (ops : List Oper) : Plan → Stl → Env → Heap → (Env → Heap → Prop) → Prop
  | .nil, _, _, _, _ => True
  | .fin, _, ρ, h, K => K ρ h
  | .q i p, st, ρ, h, K => match ops[i]? with
    | some o => vcGuard ops o ρ
        (vcQ T P o ρ h (fun v c => vcSrc (isSrc ops i) v (fun v => vcPlan T P ops p ((i, c) :: st) (updO ρ o.dst v) h K)))
        (vcPlan T P ops p ((i, none) :: st) (updO ρ o.dst undef) h K)
    | none => False
  | .m i p alt, st, ρ, h, K => match ops[i]? with
    | some o => AndAlt alt (vcGuard ops o ρ
        (vcM T P o ρ h (fun v h' => Stab (stFilter (maskAt ops i) st) h' (vcSrc (isSrc ops i) v (fun v => vcPlan T P ops p (stFilter (maskAt ops i) st) (updO ρ o.dst v) h' K))))
        (vcPlan T P ops p st (updO ρ o.dst undef) h K))
        (vcPlan T P ops alt st ρ h K)
    | none => False
def readyB (ops : List Oper) (l : List Nat) (i : Nat) : Bool := match ops[i]? with
  | some o => !memB i l && (deps o).all (fun j => memB j l)
  | none => false
def altIdx : Plan → List Nat
  | .m i _ alt => i :: altIdx alt
  | _ => []
def planOk (T : Tab) (ops : List Oper) : Bool → List Nat → Plan → Bool
  | alt, _, .nil => alt
  | alt, l, .fin => !alt && (List.range ops.length).all (fun i => memB i l)
  | alt, l, .q i p => !alt && readyB ops l i && (match ops[i]? with | some o => quietB T o.op | none => false) && planOk T ops false (i :: l) p
  | alt, l, .m i p a => (alt || (List.range ops.length).all (fun j => !readyB ops l j || memB j (i :: altIdx a))) && readyB ops l i && (match ops[i]? with | some o => !quietB T o.op | none => false) && planOk T ops false (i :: l) p && planOk T ops true l a
def pairOk (ops : Array Oper) (i j : Nat) : Bool := match ops[i]?, ops[j]? with
  | some x, some y => memB i (deps y) || memB j (deps x) || x.apart ops y
  | _, _ => true
def selB (o : Oper) : Bool := match o.op with | .select _ _ => false | _ => true
def pairsOk (ops : Array Oper) : Bool := (List.range ops.size).all (fun j => (List.range j).all (fun i => pairOk ops i j)) && ops.toList.all selB
end Go.Sx
