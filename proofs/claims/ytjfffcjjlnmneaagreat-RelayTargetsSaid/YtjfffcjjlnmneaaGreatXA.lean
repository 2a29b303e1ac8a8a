/- A program that is run in the kernel: its data, its code, what it does. -/
import Derived.Test.YtjfffcjjlnmneaaGreatVI
namespace Go.KX
open Go.RowKit Go.KL

/-! ### Names: binary numbers -/
inductive Pos
  | H
  | O (p : Pos)
  | I (p : Pos)
  deriving DecidableEq
noncomputable def Pos.succ (p : Pos) : Pos := Pos.rec (motive := fun _ => Pos) (.O .H) (fun q _ => .I q) (fun _ s => .O s) p
theorem Pos.succ_I (p : Pos) : (Pos.I p).succ = .O p.succ := rfl
noncomputable def Pos.nat : Pos → Nat
  | .H => 1
  | .O p => 2 * p.nat
  | .I p => 2 * p.nat + 1
noncomputable def Pos.beq : Pos → Pos → Bool
  | .H, .H => true
  | .O p, .O q => p.beq q
  | .I p, .I q => p.beq q
  | _, _ => false
theorem Pos.nat_succ (p : Pos) : p.succ.nat = p.nat + 1 := by
  induction p with
  | H => rfl
  | O p _ => rfl
  | I p ih => rw [Pos.succ_I]; simp only [Pos.nat, ih]; omega
theorem Pos.nat_pos (p : Pos) : 0 < p.nat := by
  induction p with
  | H => decide
  | O p ih => simp only [Pos.nat]; omega
  | I p ih => simp only [Pos.nat]; omega
theorem Pos.nat_inj : ∀ {p q : Pos}, p.nat = q.nat → p = q
  | .H, .H, _ => rfl
  | .H, .O q, h => by have := q.nat_pos; simp only [Pos.nat] at h; omega
  | .H, .I q, h => by have := q.nat_pos; simp only [Pos.nat] at h; omega
  | .O p, .H, h => by have := p.nat_pos; simp only [Pos.nat] at h; omega
  | .I p, .H, h => by have := p.nat_pos; simp only [Pos.nat] at h; omega
  | .O p, .O q, h => by simp only [Pos.nat] at h; rw [Pos.nat_inj (p := p) (q := q) (by omega)]
  | .I p, .I q, h => by simp only [Pos.nat] at h; rw [Pos.nat_inj (p := p) (q := q) (by omega)]
  | .O p, .I q, h => by simp only [Pos.nat] at h; omega
  | .I p, .O q, h => by simp only [Pos.nat] at h; omega
theorem Pos.beq_eq : ∀ {p q : Pos}, p.beq q = true → p = q
  | .H, .H, _ => rfl
  | .O p, .O q, h => by rw [Pos.beq_eq (p := p) (q := q) h]
  | .I p, .I q, h => by rw [Pos.beq_eq (p := p) (q := q) h]
  | .H, .O _, h => by cases h
  | .H, .I _, h => by cases h
  | .O _, .H, h => by cases h
  | .I _, .H, h => by cases h
  | .O _, .I _, h => by cases h
  | .I _, .O _, h => by cases h

/-- p < q, or they are the same and e. -/
noncomputable def Pos.ltb (e : Bool) : Pos → Pos → Bool
  | .H, .H => e
  | .H, _ => true
  | _, .H => false
  | .O p, .O q => Pos.ltb e p q
  | .I p, .I q => Pos.ltb e p q
  | .O p, .I q => Pos.ltb true p q
  | .I p, .O q => Pos.ltb false p q
theorem Pos.ltb_iff : ∀ (p q : Pos) (e : Bool), Pos.ltb e p q = true ↔ p.nat < q.nat ∨ (e = true ∧ p.nat = q.nat)
  | .H, .H, e => by simp [Pos.ltb]
  | .H, .O q, e => by have := q.nat_pos; simp only [Pos.ltb, Pos.nat]; exact ⟨fun _ => .inl (by omega), fun _ => trivial⟩
  | .H, .I q, e => by have := q.nat_pos; simp only [Pos.ltb, Pos.nat]; exact ⟨fun _ => .inl (by omega), fun _ => trivial⟩
  | .O p, .H, e => by have := p.nat_pos; simp only [Pos.ltb, Pos.nat]; constructor <;> intro h <;> first | cases h; done | (exfalso; omega)
  | .I p, .H, e => by have := p.nat_pos; simp only [Pos.ltb, Pos.nat]; constructor <;> intro h <;> first | cases h; done | (exfalso; omega)
  | .O p, .O q, e => by rw [Pos.ltb, Pos.ltb_iff p q e]; simp only [Pos.nat]; cases e <;> simp <;> omega
  | .I p, .I q, e => by rw [Pos.ltb, Pos.ltb_iff p q e]; simp only [Pos.nat]; cases e <;> simp <;> omega
  | .O p, .I q, e => by rw [Pos.ltb, Pos.ltb_iff p q true]; simp only [Pos.nat]; cases e <;> simp <;> omega
  | .I p, .O q, e => by rw [Pos.ltb, Pos.ltb_iff p q false]; simp only [Pos.nat]; cases e <;> simp <;> omega

inductive Tr (α : Type)
  | e
  | n (l : Tr α) (v : Option α) (r : Tr α)
variable {α : Type}
noncomputable def Tr.get (t : Tr α) : Pos → Option α :=
  Tr.rec (motive := fun _ => Pos → Option α) (fun _ => none) (fun _ v _ gl gr p => Pos.rec (motive := fun _ => Option α) v (fun q _ => gl q) (fun q _ => gr q) p) t
noncomputable def Tr.one (p : Pos) (a : α) : Tr α := Pos.rec (motive := fun _ => Tr α) (.n .e (some a) .e) (fun _ t => .n t none .e) (fun _ t => .n .e none t) p
noncomputable def Tr.set (t : Tr α) (p : Pos) (a : α) : Tr α :=
  Tr.rec (motive := fun _ => Pos → Tr α) (fun p => Tr.one p a) (fun l v r sl sr p => Pos.rec (motive := fun _ => Tr α) (.n l (some a) r) (fun q _ => .n (sl q) v r) (fun q _ => .n l v (sr q)) p) t p
theorem Tr.get_e (p : Pos) : (Tr.e : Tr α).get p = none := rfl
theorem Tr.get_H (l r : Tr α) (v : Option α) : (Tr.n l v r).get .H = v := rfl
theorem Tr.get_O (l r : Tr α) (v : Option α) (p : Pos) : (Tr.n l v r).get (.O p) = l.get p := rfl
theorem Tr.get_I (l r : Tr α) (v : Option α) (p : Pos) : (Tr.n l v r).get (.I p) = r.get p := rfl
theorem Tr.one_H (a : α) : Tr.one .H a = .n .e (some a) .e := rfl
theorem Tr.one_O (p : Pos) (a : α) : Tr.one (.O p) a = .n (Tr.one p a) none .e := rfl
theorem Tr.one_I (p : Pos) (a : α) : Tr.one (.I p) a = .n .e none (Tr.one p a) := rfl
theorem Tr.set_e (p : Pos) (a : α) : (Tr.e : Tr α).set p a = Tr.one p a := rfl
theorem Tr.set_H (l r : Tr α) (v : Option α) (a : α) : (Tr.n l v r).set .H a = .n l (some a) r := rfl
theorem Tr.set_O (l r : Tr α) (v : Option α) (p : Pos) (a : α) : (Tr.n l v r).set (.O p) a = .n (l.set p a) v r := rfl
theorem Tr.set_I (l r : Tr α) (v : Option α) (p : Pos) (a : α) : (Tr.n l v r).set (.I p) a = .n l v (r.set p a) := rfl
theorem Tr.get_one : ∀ (p q : Pos) (a : α), (Tr.one p a).get q = if q = p then some a else none
  | .H, .H, a => rfl
  | .H, .O q, a => by simp [Tr.one_H, Tr.get_O, Tr.get_e]
  | .H, .I q, a => by simp [Tr.one_H, Tr.get_I, Tr.get_e]
  | .O p, .H, a => by simp [Tr.one_O, Tr.get_H]
  | .O p, .O q, a => by simp only [Tr.one_O, Tr.get_O, Tr.get_one p q a, Pos.O.injEq]
  | .O p, .I q, a => by simp [Tr.one_O, Tr.get_I, Tr.get_e]
  | .I p, .H, a => by simp [Tr.one_I, Tr.get_H]
  | .I p, .O q, a => by simp [Tr.one_I, Tr.get_O, Tr.get_e]
  | .I p, .I q, a => by simp only [Tr.one_I, Tr.get_I, Tr.get_one p q a, Pos.I.injEq]
theorem Tr.get_set : ∀ (t : Tr α) (p q : Pos) (a : α), (t.set p a).get q = if q = p then some a else t.get q
  | .e, p, q, a => by simp only [Tr.set_e, Tr.get_one, Tr.get_e]
  | .n l v r, .H, .H, a => rfl
  | .n l v r, .H, .O q, a => by simp [Tr.set_H, Tr.get_O]
  | .n l v r, .H, .I q, a => by simp [Tr.set_H, Tr.get_I]
  | .n l v r, .O p, .H, a => by simp [Tr.set_O, Tr.get_H]
  | .n l v r, .O p, .O q, a => by simp only [Tr.set_O, Tr.get_O, Tr.get_set l p q a, Pos.O.injEq]
  | .n l v r, .O p, .I q, a => by simp [Tr.set_O, Tr.get_I]
  | .n l v r, .I p, .H, a => by simp [Tr.set_I, Tr.get_H]
  | .n l v r, .I p, .O q, a => by simp [Tr.set_I, Tr.get_O]
  | .n l v r, .I p, .I q, a => by simp only [Tr.set_I, Tr.get_I, Tr.get_set r p q a, Pos.I.injEq]

/-! ### Values -/
inductive AV
  | int (k : IntKind) (n : Int)
  | bool (b : Bool)
  | ptr (b : Pos) (off : Nat)
  | pnil
  | sl (b : Pos) (off len cap : Nat)
  | rw (b : Pos) (eo co len : Nat)
  | rz (b : Pos) (eo : Nat)
  | snil
  | map (b : Pos)
  | mnil
  | fn (f : Pos) (fi ca : List AV)
  | yld (b : Pos)
  | fnil
  | agg (l : List AV)
  | tup (l : List AV)
inductive AOd
  | t (p : Pos)
  | c (v : AV)
/-- How two values of a type are held against each other. -/
inductive Sh
  | int
  | bool
  | str (fs : List (Nat × Nat × Sh))
inductive AOp
  | mv (x : AOd)
  | pick (c x y : AOd)
  | new (T : Nat) (z : List AV)
  | box (T : Nat) (x : AOd)
  | ld (x : AOd)
  | ldA (n : Nat) (x : AOd)
  | st (n : Nat) (x y : AOd)
  | nilc (x : AOd)
  | add (x y : AOd) | sub (x y : AOd) | mul (x y : AOd) | quo (x y : AOd) | rem (x y : AOd)
  | lss (x y : AOd) | leq (x y : AOd) | gtr (x y : AOd) | geq (x y : AOd) | eql (x y : AOd) | neq (x y : AOd)
  | eqb (ne : Bool) (x y : AOd)
  | eqn (k : Nat) (ne : Bool) (x y : AOd)
  | eqs (ne : Bool) (s : Sh) (x y : AOd)
  | neg (x : AOd) | not (x : AOd)
  | cvt (k : IntKind) (x : AOd)
  | mkf (f : Pos) (fi ca : List AOd)
  | mkm
  | mks (T sz bytes : Nat) (z : List AV) (x y : AOd)
  | slc (sz : Nat) (x : AOd) (lo hi mx : Option AOd)
  | slcA (sz n : Nat) (x : AOd) (lo hi : Option AOd)
  | fad (off : Nat) (x : AOd)
  | fld (off : Nat) (x : AOd) | fldA (off n : Nat) (x : AOd)
  | iad (sz : Nat) (x y : AOd) | iadA (sz n : Nat) (x y : AOd)
  | ix (n : Nat) (x y : AOd) | ixA (sz n : Nat) (x y : AOd)
  | lk (two : Bool) (k : IntKind) (ok : Bool) (z : AV) (x y : AOd)
  | mput (two : Bool) (k : IntKind) (x y z : AOd)
  | mdel (two : Bool) (k : IntKind) (x y : AOd)
  | ext (i : Nat) (x : AOd)
  | bld (z : List AV) (ps : List (Nat × Nat × AOd))
  | blds (T len : Nat) (z : List AV) (ps : List (Nat × Nat × AOd))
  | len (x : AOd) | lenM (x : AOd) | cap (x : AOd)
  | app (T sz bytes : Nat) (x y : AOd)
  | cpy (sz : Nat) (x y : AOd)
  | clr (z : List AV) (x : AOd)
  | min (x y : AOd) | max (x y : AOd)
  | call (x : AOd) (l : List AOd)
  | bad
  | and (x y : AOd) | shr (x y : AOd)
  | ixs (l : List Nat) (y : AOd)
  | apz (T sz bytes : Nat) (z : List AV) (x y : AOd)
/-- An operation with its place in the region, where its value goes, its guard (the guard's slot; what it must be), its kind (Fl: 1, 3; else fixed). -/
structure AO where
  ix : Nat
  kd : Nat
  dst : Option Pos
  grd : Option (Pos × Bool)
  op : AOp
inductive Ex
  | nrm
  | exit (i : Nat)
  | ret
inductive AC
  | skip
  | rg (l : List AO)
  | seq (a b : AC)
  | cond (c : AOd) (a b : AC)
  | block (i : Nat) (a : AC)
  | loop (a : AC)
  | rf (g : AOd) (t : List Pos) (asg body : AC)
  | exit (i : Nat)
  | scope (a : AC)
  | ret
  | rl (l : List AO)
/-- A result: in a slot; in a cell whose address is in a slot (a struct or an array of so many cells). -/
inductive AR
  | t (p : Pos)
  | c (p : Pos) (n : Option Nat)
structure AF where
  n : Nat
  res : List AR
  body : AC

/-! ### Memory -/
inductive LS
  | ready
  | busy
  | done (e : Ex)
inductive AB
  | cells (T : Nat) (l : List AV)
  | row (T sz : Nat) (l : List AV)
  | mapI (k : IntKind) (l : List (Int × AV))
  | map2 (k : IntKind) (l : List ((Int × Int) × AV))
  | map0
  | loop (σ : Tr AV) (t : List Pos) (asg body : AC) (s : LS)
  | dead
/-- Blocks by name; the next name; blocks with names below fl are not written. -/
structure AH where
  m : Tr AB
  nx : Pos
  fl : Pos
noncomputable def AH.push (h : AH) (b : AB) : AH := ⟨h.m.set h.nx b, h.nx.succ, h.fl⟩
noncomputable def AH.put (h : AH) (p : Pos) (b : AB) : Option AH := match Pos.ltb false p h.fl with
  | true => none
  | false => some ⟨h.m.set p b, h.nx, h.fl⟩

/-! ### What operations do -/
noncomputable def nth (l : List α) : Nat → Option α :=
  List.rec (motive := fun _ => Nat → Option α) (fun _ => none) (fun a _ ih n => Nat.rec (motive := fun _ => Option α) (some a) (fun m _ => ih m) n) l
noncomputable def consO (a : α) (o : Option (List α)) : Option (List α) := Option.rec (motive := fun _ => Option (List α)) none (fun r => some (a :: r)) o
noncomputable def tk (l : List α) : Nat → Option (List α) :=
  List.rec (motive := fun _ => Nat → Option (List α)) (fun n => Nat.rec (motive := fun _ => Option (List α)) (some []) (fun _ _ => none) n)
    (fun a _ ih n => Nat.rec (motive := fun _ => Option (List α)) (some []) (fun m _ => consO a (ih m)) n) l
noncomputable def sub (l : List α) (off n : Nat) : Option (List α) :=
  List.rec (motive := fun _ => Nat → Option (List α)) (fun off => Nat.rec (motive := fun _ => Option (List α)) (tk [] n) (fun _ _ => none) off)
    (fun a l ih off => Nat.rec (motive := fun _ => Option (List α)) (tk (a :: l) n) (fun m _ => ih m) off) l off
noncomputable def ov (l : List α) : List α → Option (List α) :=
  List.rec (motive := fun _ => List α → Option (List α)) (fun vs => List.rec (motive := fun _ => Option (List α)) (some []) (fun _ _ _ => none) vs)
    (fun a l ih vs => List.rec (motive := fun _ => Option (List α)) (some (a :: l)) (fun v vs _ => consO v (ih vs)) vs) l
/-- The cells from off on are overwritten; none if there are not so many. -/
noncomputable def over (l : List α) (off : Nat) (vs : List α) : Option (List α) :=
  List.rec (motive := fun _ => Nat → Option (List α)) (fun off => Nat.rec (motive := fun _ => Option (List α)) (ov [] vs) (fun _ _ => none) off)
    (fun a l ih off => Nat.rec (motive := fun _ => Option (List α)) (ov (a :: l) vs) (fun m _ => consO a (ih m)) off) l off
noncomputable def len (l : List α) : Nat := List.rec (motive := fun _ => Nat) 0 (fun _ _ n => Nat.succ n) l
noncomputable def u : AV := .tup []
noncomputable def evA (σ : Tr AV) (x : AOd) : AV :=
  AOd.rec (motive := fun _ => AV) (fun p => Option.rec (motive := fun _ => AV) u (fun v => v) (σ.get p)) (fun v => v) x
noncomputable def evs (σ : Tr AV) (l : List AOd) : List AV := List.rec (motive := fun _ => List AV) [] (fun x _ ih => evA σ x :: ih) l
noncomputable def AV.cells : AV → List AV
  | .agg l => l
  | v => [v]
noncomputable def AV.one : AV → Bool
  | .agg _ | .tup _ => false
  | _ => true
noncomputable def ones : List AV → Bool
  | [] => true
  | v :: l => v.one && ones l
noncomputable def zlt : Int → Int → Bool
  | .ofNat a, .ofNat b => Nat.blt a b
  | .negSucc _, .ofNat _ => true
  | .ofNat _, .negSucc _ => false
  | .negSucc a, .negSucc b => Nat.blt b a
noncomputable def zle (a b : Int) : Bool := !zlt b a
noncomputable def zeq : Int → Int → Bool
  | .ofNat a, .ofNat b => Nat.beq a b
  | .negSucc a, .negSucc b => Nat.beq a b
  | _, _ => false
noncomputable def keq : IntKind → IntKind → Bool
  | .i64, .i64 => true
  | .u8, .u8 => true
  | .u32, .u32 => true
  | .u64, .u64 => true
  | .i32, .i32 => true
  | _, _ => false
noncomputable def inK : IntKind → Int → Bool
  | .i64, .ofNat n => Nat.blt n 9223372036854775808
  | .i64, .negSucc n => Nat.blt n 9223372036854775808
  | .u8, .ofNat n => Nat.blt n 256
  | .u32, .ofNat n => Nat.blt n 4294967296
  | .u64, .ofNat n => Nat.blt n 18446744073709551616
  | _, _ => false
noncomputable def arith (f : Int → Int → Int) : AV → AV → Option AV
  | .int k a, .int k' b => match keq k k' with
    | true => match inK k (f a b) with
      | true => some (.int k (f a b))
      | false => none
    | false => none
  | _, _ => none
noncomputable def div (f : Int → Int → Int) : AV → AV → Option AV
  | .int k a, .int k' b => match keq k k' with
    | true => match zeq b 0 with
      | true => none
      | false => match inK k (f a b) with
        | true => some (.int k (f a b))
        | false => none
    | false => none
  | _, _ => none
noncomputable def cmpA (f : Int → Int → Bool) : AV → AV → Option AV
  | .int k a, .int k' b => match keq k k' with
    | true => some (.bool (f a b))
    | false => none
  | _, _ => none
/-- k: pointers, slices, maps, functions. -/
noncomputable def nilEq (k : Nat) (x y : AV) : Option Bool := match k, x, y with
  | 0, .pnil, .pnil => some true
  | 0, .pnil, .ptr _ _ => some false
  | 0, .ptr _ _, .pnil => some false
  | 1, .snil, .snil => some true
  | 1, .snil, .sl _ _ _ _ => some false
  | 1, .snil, .rw _ _ _ _ => some false
  | 1, .sl _ _ _ _, .snil => some false
  | 1, .rw _ _ _ _, .snil => some false
  | 1, .snil, .rz _ _ => some false
  | 1, .rz _ _, .snil => some false
  | 2, .mnil, .mnil => some true
  | 2, .mnil, .map _ => some false
  | 2, .map _, .mnil => some false
  | 3, .fnil, .fnil => some true
  | 3, .fnil, .fn _ _ _ => some false
  | 3, .fn _ _ _, .fnil => some false
  | _, _, _ => none
noncomputable def partS (s : Sh) (l : List AV) (off sz : Nat) : Option AV :=
  match s with
  | .str _ => match sub l off sz with
    | some r => some (.agg r)
    | none => none
  | _ => nth l off
mutual
noncomputable def eqSh : Sh → AV → AV → Option Bool
  | .int, .int k a, .int k' b => match keq k k' with
    | true => some (zeq a b)
    | false => none
  | .bool, .bool a, .bool b => some (a == b)
  | .str fs, .agg xs, .agg ys => eqFs fs xs ys
  | _, _, _ => none
noncomputable def eqFs : List (Nat × Nat × Sh) → List AV → List AV → Option Bool
  | [], _, _ => some true
  | (off, sz, s) :: fs, xs, ys => match partS s xs off sz, partS s ys off sz with
    | some x, some y => match eqSh s x y with
      | some true => eqFs fs xs ys
      | r => r
    | _, _ => none
end
/-- Parts (where they lie; how many cells; what they are) put into cells. -/
noncomputable def fillA (σ : Tr AV) : List AV → List (Nat × Nat × AOd) → Option (List AV)
  | cs, [] => some cs
  | cs, (off, n, x) :: ps => match Nat.beq (len (evA σ x).cells) n with
    | true => match over cs off (evA σ x).cells with
      | some cs' => fillA σ cs' ps
      | none => none
    | false => none
noncomputable def natOf : AV → Option Nat
  | .int .i64 (.ofNat n) => some n
  | _ => none
noncomputable def boundOf (σ : Tr AV) (d : Nat) : Option AOd → Option Nat
  | none => some d
  | some x => natOf (evA σ x)
noncomputable def rep : Nat → List α → List α
  | 0, _ => []
  | n + 1, l => l ++ rep n l
noncomputable def getM2 : List ((Int × Int) × AV) → Int → Int → Option AV
  | [], _, _ => none
  | ((a, b), v) :: l, x, y => match zeq x a && zeq y b with
    | true => some v
    | false => getM2 l x y
noncomputable def getMI : List (Int × AV) → Int → Option AV
  | [], _ => none
  | (a, v) :: l, x => match zeq x a with
    | true => some v
    | false => getMI l x
noncomputable def putM2 : List ((Int × Int) × AV) → Int → Int → AV → List ((Int × Int) × AV)
  | [], x, y, v => [((x, y), v)]
  | ((a, b), w) :: l, x, y, v => match zeq x a && zeq y b with
    | true => ((x, y), v) :: l
    | false => ((a, b), w) :: putM2 l x y v
noncomputable def putMI : List (Int × AV) → Int → AV → List (Int × AV)
  | [], x, v => [(x, v)]
  | (a, w) :: l, x, v => match zeq x a with
    | true => (x, v) :: l
    | false => (a, w) :: putMI l x v
noncomputable def delM2 : List ((Int × Int) × AV) → Int → Int → List ((Int × Int) × AV)
  | [], _, _ => []
  | ((a, b), w) :: l, x, y => match zeq x a && zeq y b with
    | true => l
    | false => ((a, b), w) :: delM2 l x y
noncomputable def delMI : List (Int × AV) → Int → List (Int × AV)
  | [], _ => []
  | (a, w) :: l, x => match zeq x a with
    | true => l
    | false => (a, w) :: delMI l x

noncomputable def blkCells : AB → Option (List AV)
  | .cells _ l => some l
  | .row _ _ l => some l
  | _ => none
noncomputable def cellsAt (h : AH) (b : Pos) : Option (List AV) := match h.m.get b with
  | some B => blkCells B
  | none => none
noncomputable def setAt (h : AH) (b : Pos) (off : Nat) (vs : List AV) : Option AH := match h.m.get b with
  | some (.cells T l) => match over l off vs with
    | some l' => h.put b (.cells T l')
    | none => none
  | some (.row T sz l) => match over l off vs with
    | some l' => h.put b (.row T sz l')
    | none => none
  | _ => none
/-- What a slice holds: how many; its cells. -/
noncomputable def slice (h : AH) (sz : Nat) : AV → Option (Nat × List AV)
  | .snil => some (0, [])
  | .rz _ _ => some (0, [])
  | .sl b off n _ => match cellsAt h b with
    | some l => match sub l off (n * sz) with
      | some r => some (n, r)
      | none => none
    | none => none
  | .rw b _ co n => match cellsAt h b with
    | some l => match sub l co (n * sz) with
      | some r => some (n, r)
      | none => none
    | none => none
  | _ => none
noncomputable def ifO (b : Bool) (x : Option α) : Option α := match b with
  | true => x
  | false => none
noncomputable def app (h : AH) (T sz by_ : Nat) (m : Nat) (news : List AV) (x : AV) : Option (AV × AH) := match m with
  | 0 => match x with
    | .snil => some (.snil, h)
    | .sl b off n c => some (.sl b off n c, h)
    | .rw b eo co n => some (.rw b eo co n, h)
    | _ => none
  | m + 1 => match x with
    | .snil => ifO (Nat.ble ((m + 1) * by_) 140737488355328) (some (.rw h.nx 0 0 (m + 1), h.push (.row T sz news)))
    | .sl b off n c => match Nat.ble (n + (m + 1)) c with
      | true => match setAt h b (off + n * sz) news with
        | some h' => some (.sl b off (n + (m + 1)) c, h')
        | none => none
      | false => ifO (Nat.ble ((n + (m + 1)) * by_) 140737488355328) (match slice h sz (.sl b off n c) with
        | some (_, olds) => some (.rw h.nx 0 0 (n + (m + 1)), h.push (.row T sz (olds ++ news)))
        | none => none)
    | .rw b eo co n => match h.m.get b with
      | some (.row T' sz' l) => match Nat.ble ((n + (m + 1)) * sz) (len l) && (Nat.beq sz sz' && (Nat.beq eo 0 && Nat.beq co 0)) with
        | true => match setAt h b (n * sz) news with
          | some h' => some (.rw b 0 0 (n + (m + 1)), h')
          | none => none
        | false => ifO (Nat.beq T T' && Nat.beq sz sz' && Nat.beq eo 0 && Nat.beq co 0 && Nat.beq (n * sz) (len l) && Nat.ble ((n + (m + 1)) * by_) 140737488355328)
          (match h.put b .dead with
            | some h' => some (.rw h.nx 0 0 (n + (m + 1)), h'.push (.row T sz (l ++ news)))
            | none => none)
      | _ => none
    | _ => none
noncomputable def lookA (two : Bool) (k : IntKind) (B : AB) (y : AV) : Option (Option AV) := match two, B, y with
  | false, .map0, .int k' _ => ifO (keq k k') (some none)
  | true, .map0, .agg [.int k1 _, .int k2 _] => ifO (keq k k1 && keq k k2) (some none)
  | false, .mapI k0 l, .int k' n => ifO (keq k k0 && keq k k') (some (getMI l n))
  | true, .map2 k0 l, .agg [.int k1 a, .int k2 b] => ifO (keq k k0 && (keq k k1 && keq k k2)) (some (getM2 l a b))
  | _, _, _ => none
noncomputable def putA (two : Bool) (k : IntKind) (B : AB) (y v : AV) : Option AB := match two, B, y with
  | false, .map0, .int k' n => ifO (keq k k') (some (.mapI k [(n, v)]))
  | true, .map0, .agg [.int k1 a, .int k2 b] => ifO (keq k k1 && keq k k2) (some (.map2 k [((a, b), v)]))
  | false, .mapI k0 l, .int k' n => ifO (keq k k0 && keq k k') (some (.mapI k (putMI l n v)))
  | true, .map2 k0 l, .agg [.int k1 a, .int k2 b] => ifO (keq k k0 && (keq k k1 && keq k k2)) (some (.map2 k (putM2 l a b v)))
  | _, _, _ => none
noncomputable def delA (two : Bool) (k : IntKind) (B : AB) (y : AV) : Option AB := match two, B, y with
  | false, .map0, .int k' _ => ifO (keq k k') (some .map0)
  | true, .map0, .agg [.int k1 _, .int k2 _] => ifO (keq k k1 && keq k k2) (some .map0)
  | false, .mapI k0 l, .int k' n => ifO (keq k k0 && keq k k') (some (.mapI k (delMI l n)))
  | true, .map2 k0 l, .agg [.int k1 a, .int k2 b] => ifO (keq k k0 && (keq k k1 && keq k k2)) (some (.map2 k (delM2 l a b)))
  | _, _, _ => none
noncomputable def lenB : AB → Option Nat
  | .map0 => some 0
  | .mapI _ l => some (len l)
  | .map2 _ l => some (len l)
  | _ => none
noncomputable def okV (h : AH) : Option AV → Option (AV × AH)
  | some v => some (v, h)
  | none => none
noncomputable def optAgg : Option (List AV) → Option AV
  | some l => some (.agg l)
  | none => none
def orD (o : Option Nat) (d : Nat) : Nat := match o with
  | some n => n
  | none => d
theorem orD_eq (o : Option Nat) (d : Nat) : orD o d = o.getD d := by cases o <;> rfl
noncomputable def slcV (sz : Nat) (v : AV) (lo : Nat) (hi mx : Option Nat) : Option AV := match v with
  | .snil => ifO (Nat.beq lo 0 && (match hi with | some n => Nat.beq n 0 | none => true) && (match mx with | some n => Nat.beq n 0 | none => true)) (some .snil)
  | .sl b off n c =>
    let m := orD mx c
    let h := orD hi n
    ifO (Nat.ble lo h && Nat.ble h m && Nat.ble m c) (some (.sl b (match Nat.beq m lo with | true => off | false => off + lo * sz) (h - lo) (m - lo)))
  | .rw b eo co n =>
    let h := orD hi n
    match mx with
    | none => ifO (Nat.ble lo h && Nat.ble h n) (match lo with
      | 0 => some (.rw b eo co h)
      | _ => match Nat.blt lo n with
        | true => some (.rw b (eo + lo) (co + lo * sz) (h - lo))
        | false => some (.rz b (eo + lo)))
    | some m => ifO (Nat.ble lo h && Nat.ble h m && Nat.ble m n) (some (.sl b (match Nat.beq m lo with | true => co | false => co + lo * sz) (h - lo) (m - lo)))
  | _ => none
noncomputable def clr (h : AH) (z : List AV) (b : Pos) (off n : Nat) : Option (AV × AH) := match n with
  | 0 => some (u, h)
  | n + 1 => ifO (ones z) (match setAt h b off (rep (n + 1) z) with
    | some h' => some (u, h')
    | none => none)
noncomputable def bnd (σ : Tr AV) : Option AOd → Option (Option Nat)
  | none => some none
  | some x => match natOf (evA σ x) with
    | some n => some (some n)
    | none => none
noncomputable def o_mv (x : AOd) (σ : Tr AV) (h : AH) : Option (AV × AH) := some (evA σ x, h)
noncomputable def o_pick (c : AOd) (x : AOd) (y : AOd) (σ : Tr AV) (h : AH) : Option (AV × AH) := match evA σ c with
    | .bool true => some (evA σ x, h)
    | .bool false => some (evA σ y, h)
    | _ => none
noncomputable def o_new (T : Nat) (z : List AV) (σ : Tr AV) (h : AH) : Option (AV × AH) := some (.ptr h.nx 0, h.push (.cells T z))
noncomputable def o_box (T : Nat) (x : AOd) (σ : Tr AV) (h : AH) : Option (AV × AH) := some (.ptr h.nx 0, h.push (.cells T (evA σ x).cells))
noncomputable def o_ld (x : AOd) (σ : Tr AV) (h : AH) : Option (AV × AH) := match evA σ x with
    | .ptr b off => match cellsAt h b with
      | some l => okV h (nth l off)
      | none => none
    | _ => none
noncomputable def o_ldA (n : Nat) (x : AOd) (σ : Tr AV) (h : AH) : Option (AV × AH) := match evA σ x with
    | .ptr b off => match cellsAt h b with
      | some l => okV h (optAgg (sub l off n))
      | none => none
    | _ => none
noncomputable def o_st (n : Nat) (x : AOd) (y : AOd) (σ : Tr AV) (h : AH) : Option (AV × AH) := match evA σ x with
    | .ptr b off => match Nat.beq (len (evA σ y).cells) n && ones (evA σ y).cells with
      | true => match setAt h b off (evA σ y).cells with
        | some h' => some (u, h')
        | none => none
      | false => none
    | _ => none
noncomputable def o_nilc (x : AOd) (σ : Tr AV) (h : AH) : Option (AV × AH) := match evA σ x with
    | .ptr b off => some (.ptr b off, h)
    | .fn f fi ca => some (.fn f fi ca, h)
    | .yld b => some (.yld b, h)
    | _ => none
noncomputable def o_add (x : AOd) (y : AOd) (σ : Tr AV) (h : AH) : Option (AV × AH) := okV h (arith Int.add (evA σ x) (evA σ y))
noncomputable def o_sub (x : AOd) (y : AOd) (σ : Tr AV) (h : AH) : Option (AV × AH) := okV h (arith Int.sub (evA σ x) (evA σ y))
noncomputable def o_mul (x : AOd) (y : AOd) (σ : Tr AV) (h : AH) : Option (AV × AH) := okV h (arith Int.mul (evA σ x) (evA σ y))
noncomputable def o_quo (x : AOd) (y : AOd) (σ : Tr AV) (h : AH) : Option (AV × AH) := okV h (div Int.tdiv (evA σ x) (evA σ y))
noncomputable def o_rem (x : AOd) (y : AOd) (σ : Tr AV) (h : AH) : Option (AV × AH) := okV h (div Int.tmod (evA σ x) (evA σ y))
noncomputable def o_lss (x : AOd) (y : AOd) (σ : Tr AV) (h : AH) : Option (AV × AH) := okV h (cmpA zlt (evA σ x) (evA σ y))
noncomputable def o_leq (x : AOd) (y : AOd) (σ : Tr AV) (h : AH) : Option (AV × AH) := okV h (cmpA zle (evA σ x) (evA σ y))
noncomputable def o_gtr (x : AOd) (y : AOd) (σ : Tr AV) (h : AH) : Option (AV × AH) := okV h (cmpA (fun a b => zlt b a) (evA σ x) (evA σ y))
noncomputable def o_geq (x : AOd) (y : AOd) (σ : Tr AV) (h : AH) : Option (AV × AH) := okV h (cmpA (fun a b => zle b a) (evA σ x) (evA σ y))
noncomputable def o_eql (x : AOd) (y : AOd) (σ : Tr AV) (h : AH) : Option (AV × AH) := okV h (cmpA zeq (evA σ x) (evA σ y))
noncomputable def o_neq (x : AOd) (y : AOd) (σ : Tr AV) (h : AH) : Option (AV × AH) := okV h (cmpA (fun a b => !zeq a b) (evA σ x) (evA σ y))
noncomputable def o_eqb (ne : Bool) (x : AOd) (y : AOd) (σ : Tr AV) (h : AH) : Option (AV × AH) := match evA σ x, evA σ y with
    | .bool a, .bool b => some (.bool (ne != (a == b)), h)
    | _, _ => none
noncomputable def o_eqn (k : Nat) (ne : Bool) (x : AOd) (y : AOd) (σ : Tr AV) (h : AH) : Option (AV × AH) := match nilEq k (evA σ x) (evA σ y) with
    | some b => some (.bool (ne != b), h)
    | none => none
noncomputable def o_eqs (ne : Bool) (s : Sh) (x : AOd) (y : AOd) (σ : Tr AV) (h : AH) : Option (AV × AH) := match eqSh s (evA σ x) (evA σ y) with
    | some b => some (.bool (ne != b), h)
    | none => none
noncomputable def o_neg (x : AOd) (σ : Tr AV) (h : AH) : Option (AV × AH) := okV h (arith Int.sub (match evA σ x with | .int k _ => .int k 0 | _ => u) (evA σ x))
noncomputable def o_not (x : AOd) (σ : Tr AV) (h : AH) : Option (AV × AH) := match evA σ x with
    | .bool b => some (.bool (!b), h)
    | _ => none
noncomputable def o_cvt (k : IntKind) (x : AOd) (σ : Tr AV) (h : AH) : Option (AV × AH) := match evA σ x with
    | .int _ n => ifO (inK k n) (some (.int k n, h))
    | _ => none
noncomputable def o_mkf (f : Pos) (fi : List AOd) (ca : List AOd) (σ : Tr AV) (h : AH) : Option (AV × AH) := some (.fn f (evs σ fi) (evs σ ca), h)
noncomputable def o_mkm  (σ : Tr AV) (h : AH) : Option (AV × AH) := some (.map h.nx, h.push .map0)
noncomputable def o_mks (T : Nat) (sz : Nat) (by_ : Nat) (z : List AV) (x : AOd) (y : AOd) (σ : Tr AV) (h : AH) : Option (AV × AH) := match natOf (evA σ x), natOf (evA σ y) with
    | some l, some c => ifO (Nat.ble l c && Nat.ble (c * sz) 16777216 && Nat.ble (by_ * c) 281474976710656 && Nat.ble c 16777216) (some (.sl h.nx 0 l c, h.push (.cells T (rep c z))))
    | _, _ => none
noncomputable def o_slc (sz : Nat) (x : AOd) (lo : Option AOd) (hi : Option AOd) (mx : Option AOd) (σ : Tr AV) (h : AH) : Option (AV × AH) := match bnd σ lo, bnd σ hi, bnd σ mx with
    | some l, some hh, some m => okV h (slcV sz (evA σ x) (orD l 0) hh m)
    | _, _, _ => none
noncomputable def o_slcA (sz : Nat) (n : Nat) (x : AOd) (lo : Option AOd) (hi : Option AOd) (σ : Tr AV) (h : AH) : Option (AV × AH) := match bnd σ lo, bnd σ hi, evA σ x with
    | some l, some hh, .ptr b off => okV h (slcV sz (.sl b off n n) (orD l 0) hh none)
    | _, _, _ => none
noncomputable def o_fad (off : Nat) (x : AOd) (σ : Tr AV) (h : AH) : Option (AV × AH) := match evA σ x with
    | .ptr b o => some (.ptr b (o + off), h)
    | _ => none
noncomputable def o_fld (off : Nat) (x : AOd) (σ : Tr AV) (h : AH) : Option (AV × AH) := match evA σ x with
    | .agg l => okV h (nth l off)
    | _ => none
noncomputable def o_fldA (off : Nat) (n : Nat) (x : AOd) (σ : Tr AV) (h : AH) : Option (AV × AH) := match evA σ x with
    | .agg l => okV h (optAgg (sub l off n))
    | _ => none
noncomputable def o_iad (sz : Nat) (x : AOd) (y : AOd) (σ : Tr AV) (h : AH) : Option (AV × AH) := match evA σ x, natOf (evA σ y) with
    | .sl b off n _, some i => ifO (Nat.blt i n) (some (.ptr b (off + i * sz), h))
    | .rw b _ co n, some i => ifO (Nat.blt i n) (some (.ptr b (co + i * sz), h))
    | _, _ => none
noncomputable def o_iadA (sz : Nat) (n : Nat) (x : AOd) (y : AOd) (σ : Tr AV) (h : AH) : Option (AV × AH) := match evA σ x, natOf (evA σ y) with
    | .ptr b off, some i => ifO (Nat.blt i n) (some (.ptr b (off + i * sz), h))
    | _, _ => none
noncomputable def o_ix (n : Nat) (x : AOd) (y : AOd) (σ : Tr AV) (h : AH) : Option (AV × AH) := match evA σ x, natOf (evA σ y) with
    | .agg l, some i => ifO (Nat.blt i n) (okV h (nth l i))
    | _, _ => none
noncomputable def o_ixA (sz : Nat) (n : Nat) (x : AOd) (y : AOd) (σ : Tr AV) (h : AH) : Option (AV × AH) := match evA σ x, natOf (evA σ y) with
    | .agg l, some i => ifO (Nat.blt i n) (okV h (optAgg (sub l (i * sz) sz)))
    | _, _ => none
noncomputable def o_lk (two : Bool) (k : IntKind) (ok : Bool) (z : AV) (x : AOd) (y : AOd) (σ : Tr AV) (h : AH) : Option (AV × AH) := match evA σ x with
    | .map b => match h.m.get b with
      | some B => match lookA two k B (evA σ y) with
        | some (some v) => some (match ok with | true => .tup [v, .bool true] | false => v, h)
        | some none => some (match ok with | true => .tup [z, .bool false] | false => z, h)
        | none => none
      | none => none
    | _ => none
noncomputable def o_mput (two : Bool) (k : IntKind) (x : AOd) (y : AOd) (z : AOd) (σ : Tr AV) (h : AH) : Option (AV × AH) := match evA σ x with
    | .map b => match h.m.get b with
      | some B => match putA two k B (evA σ y) (evA σ z) with
        | some B' => match h.put b B' with
          | some h' => some (u, h')
          | none => none
        | none => none
      | none => none
    | _ => none
noncomputable def o_mdel (two : Bool) (k : IntKind) (x : AOd) (y : AOd) (σ : Tr AV) (h : AH) : Option (AV × AH) := match evA σ x with
    | .map b => match h.m.get b with
      | some B => match delA two k B (evA σ y) with
        | some B' => match h.put b B' with
          | some h' => some (u, h')
          | none => none
        | none => none
      | none => none
    | _ => none
noncomputable def o_ext (i : Nat) (x : AOd) (σ : Tr AV) (h : AH) : Option (AV × AH) := match evA σ x with
    | .tup l => okV h (nth l i)
    | _ => none
noncomputable def o_bld (z : List AV) (ps : List (Nat × Nat × AOd)) (σ : Tr AV) (h : AH) : Option (AV × AH) := okV h (optAgg (fillA σ z ps))
noncomputable def o_blds (T : Nat) (n : Nat) (z : List AV) (ps : List (Nat × Nat × AOd)) (σ : Tr AV) (h : AH) : Option (AV × AH) := match fillA σ z ps with
    | some l => some (.sl h.nx 0 n n, h.push (.cells T l))
    | none => none
noncomputable def o_len (x : AOd) (σ : Tr AV) (h : AH) : Option (AV × AH) := match evA σ x with
  | .snil => some (.int .i64 0, h)
  | .sl _ _ n _ => some (.int .i64 (.ofNat n), h)
  | .rw _ _ _ n => some (.int .i64 (.ofNat n), h)
  | .rz _ _ => some (.int .i64 0, h)
  | _ => none
noncomputable def o_lenM (x : AOd) (σ : Tr AV) (h : AH) : Option (AV × AH) := match evA σ x with
  | .mnil => some (.int .i64 0, h)
  | .map b => match h.m.get b with
    | some B => match lenB B with
      | some n => some (.int .i64 (.ofNat n), h)
      | none => none
    | none => none
  | _ => none
noncomputable def o_cap (x : AOd) (σ : Tr AV) (h : AH) : Option (AV × AH) := match evA σ x with
    | .snil => some (.int .i64 0, h)
    | .sl _ _ _ c => some (.int .i64 (.ofNat c), h)
    | _ => none
noncomputable def o_app (T : Nat) (sz : Nat) (by_ : Nat) (x : AOd) (y : AOd) (σ : Tr AV) (h : AH) : Option (AV × AH) := match slice h sz (evA σ y) with
    | some (m, news) => ifO (ones news) (app h T sz by_ m news (evA σ x))
    | none => none
noncomputable def o_cpy (sz : Nat) (x : AOd) (y : AOd) (σ : Tr AV) (h : AH) : Option (AV × AH) := match evA σ x, slice h sz (evA σ y) with
    | .sl b off n _, some (m, news) => match sub news 0 ((if Nat.ble m n then m else n) * sz) with
      | some vs => ifO (ones vs) (match setAt h b off vs with
        | some h' => some (.int .i64 (.ofNat (if Nat.ble m n then m else n)), h')
        | none => none)
      | none => none
    | _, _ => none
noncomputable def o_clr (z : List AV) (x : AOd) (σ : Tr AV) (h : AH) : Option (AV × AH) := match evA σ x with
    | .sl b off n _ => clr h z b off n
    | .rw b _ co n => clr h z b co n
    | .rz _ _ => some (u, h)
    | .snil => some (u, h)
    | _ => none
noncomputable def o_min (x : AOd) (y : AOd) (σ : Tr AV) (h : AH) : Option (AV × AH) := okV h (match evA σ x, evA σ y with
    | .int .i64 a, .int .i64 b => some (.int .i64 (match zlt b a with | true => b | false => a))
    | _, _ => none)
noncomputable def o_max (x : AOd) (y : AOd) (σ : Tr AV) (h : AH) : Option (AV × AH) := okV h (match evA σ x, evA σ y with
    | .int .i64 a, .int .i64 b => some (.int .i64 (match zlt a b with | true => b | false => a))
    | _, _ => none)

/-! ### Code -/
abbrev Run := AC → Tr AV → AH → Option (Ex × Tr AV × AH)
noncomputable def initA : List AV → Pos → Tr AV → Tr AV
  | [], _, t => t
  | v :: l, p, t => initA l p.succ (t.set p v)
noncomputable def res1 (σ : Tr AV) (h : AH) : AR → Option AV
  | .t p => some (evA σ (.t p))
  | .c p n => match evA σ (.t p) with
    | .ptr b off => match cellsAt h b with
      | some l => match n with
        | none => nth l off
        | some n => optAgg (sub l off n)
      | none => none
    | _ => none
noncomputable def ress (σ : Tr AV) (h : AH) : List AR → Option (List AV)
  | [] => some []
  | r :: l => match res1 σ h r with
    | some v => match ress σ h l with
      | some vs => some (v :: vs)
      | none => none
    | none => none
noncomputable def tupA : List AV → AV
  | [v] => v
  | l => .tup l
noncomputable def resA (σ : Tr AV) (h : AH) (l : List AR) : Option (AV × AH) := match ress σ h l with
  | some vs => some (tupA vs, h)
  | none => none
noncomputable def callW (tb : Tr AF) (ex : Run) (f : Pos) (args : List AV) (h : AH) : Option (AV × AH) := match tb.get f with
  | some af => match Nat.ble (len args) af.n with
    | true => match ex af.body (initA args .H .e) h with
      | some (.nrm, σ, h') => resA σ h' af.res
      | some (.ret, σ, h') => resA σ h' af.res
      | _ => none
    | false => none
  | none => none
noncomputable def Ex.done : Ex → LS
  | .nrm => .ready
  | e => .done e
noncomputable def Ex.go : Ex → Bool
  | .nrm => true
  | _ => false
noncomputable def setL : Tr AV → List Pos → List AV → Option (Tr AV)
  | σ, [], [] => some σ
  | σ, t :: ts, v :: vs => setL (σ.set t v) ts vs
  | _, _, _ => none
noncomputable def yieldW (ex : Run) (b : Pos) (args : List AV) (h : AH) : Option (AV × AH) := match h.m.get b with
  | some (.loop σ t asg body .ready) => match setL σ t args with
    | none => none
    | some σ0 => match ex asg σ0 h with
    | some (.nrm, σ1, h1) => match h1.m.get b with
      | some (.loop _ _ _ _ .ready) => match h1.put b (.loop σ t asg body .busy) with
        | some h2 => match ex body σ1 h2 with
          | some (e, _, h3) => match h3.m.get b with
            | some (.loop _ _ _ _ .busy) => match h3.put b (.loop σ t asg body e.done) with
              | some h4 => some (.bool e.go, h4)
              | none => none
            | _ => none
          | none => none
        | none => none
      | _ => none
    | _ => none
  | _ => none
noncomputable def o_call (x : AOd) (l : List AOd) (tb : Tr AF) (ex exY : Run) (σ : Tr AV) (h : AH) : Option (AV × AH) := match evA σ x with
  | .fn f fi ca => callW tb ex f (fi ++ (evs σ l ++ ca)) h
  | .yld b => yieldW exY b (evs σ l) h
  | _ => none
/-- Bits. -/
def andI (k : IntKind) (a b : Int) : Int := k.wrap (BitVec.ofInt k.bits a &&& BitVec.ofInt k.bits b).toNat
noncomputable def o_and (x : AOd) (y : AOd) (σ : Tr AV) (h : AH) : Option (AV × AH) := okV h (match evA σ x, evA σ y with
  | .int k a, .int k' b => match keq k k' with
    | true => some (.int k (andI k a b))
    | false => none
  | _, _ => none)
noncomputable def o_shr (x : AOd) (y : AOd) (σ : Tr AV) (h : AH) : Option (AV × AH) := okV h (match evA σ x, evA σ y with
  | .int k a, .int _ (.ofNat b) => some (.int k (a.fdiv (2 ^ min b k.bits)))
  | _, _ => none)
noncomputable def o_ixs (l : List Nat) (y : AOd) (σ : Tr AV) (h : AH) : Option (AV × AH) := match evA σ y with
  | .int _ (.ofNat i) => okV h (match nth l i with
    | some b => some (.int .u8 (.ofNat b))
    | none => none)
  | _ => none
/-- An append of as many zero values to no slice. -/
noncomputable def o_apz (T sz by_ : Nat) (z : List AV) (x y : AOd) (σ : Tr AV) (h : AH) : Option (AV × AH) := match evA σ x, natOf (evA σ y) with
  | .snil, some n => match n with
    | 0 => some (.snil, h)
    | m + 1 => ifO (Nat.ble ((m + 1) * by_) 140737488355328) (some (.rw h.nx 0 0 (m + 1), h.push (.row T sz (rep (m + 1) z))))
  | _, _ => none
/-- An operation that the machine does not run. -/
noncomputable def o_bad (_ : Tr AV) (_ : AH) : Option (AV × AH) := none
noncomputable def opY (op : AOp) : Tr AF → Run → Run → Tr AV → AH → Option (AV × AH) :=
  AOp.rec (motive := fun _ => Tr AF → Run → Run → Tr AV → AH → Option (AV × AH))
    (fun x _ _ _ => o_mv x)
    (fun c x y _ _ _ => o_pick c x y)
    (fun T z _ _ _ => o_new T z)
    (fun T x _ _ _ => o_box T x)
    (fun x _ _ _ => o_ld x)
    (fun n x _ _ _ => o_ldA n x)
    (fun n x y _ _ _ => o_st n x y)
    (fun x _ _ _ => o_nilc x)
    (fun x y _ _ _ => o_add x y)
    (fun x y _ _ _ => o_sub x y)
    (fun x y _ _ _ => o_mul x y)
    (fun x y _ _ _ => o_quo x y)
    (fun x y _ _ _ => o_rem x y)
    (fun x y _ _ _ => o_lss x y)
    (fun x y _ _ _ => o_leq x y)
    (fun x y _ _ _ => o_gtr x y)
    (fun x y _ _ _ => o_geq x y)
    (fun x y _ _ _ => o_eql x y)
    (fun x y _ _ _ => o_neq x y)
    (fun ne x y _ _ _ => o_eqb ne x y)
    (fun k ne x y _ _ _ => o_eqn k ne x y)
    (fun ne s x y _ _ _ => o_eqs ne s x y)
    (fun x _ _ _ => o_neg x)
    (fun x _ _ _ => o_not x)
    (fun k x _ _ _ => o_cvt k x)
    (fun f fi ca _ _ _ => o_mkf f fi ca)
    (fun _ _ _ => o_mkm)
    (fun T sz bytes z x y _ _ _ => o_mks T sz bytes z x y)
    (fun sz x lo hi mx _ _ _ => o_slc sz x lo hi mx)
    (fun sz n x lo hi _ _ _ => o_slcA sz n x lo hi)
    (fun off x _ _ _ => o_fad off x)
    (fun off x _ _ _ => o_fld off x)
    (fun off n x _ _ _ => o_fldA off n x)
    (fun sz x y _ _ _ => o_iad sz x y)
    (fun sz n x y _ _ _ => o_iadA sz n x y)
    (fun n x y _ _ _ => o_ix n x y)
    (fun sz n x y _ _ _ => o_ixA sz n x y)
    (fun two k ok z x y _ _ _ => o_lk two k ok z x y)
    (fun two k x y z _ _ _ => o_mput two k x y z)
    (fun two k x y _ _ _ => o_mdel two k x y)
    (fun i x _ _ _ => o_ext i x)
    (fun z ps _ _ _ => o_bld z ps)
    (fun T len z ps _ _ _ => o_blds T len z ps)
    (fun x _ _ _ => o_len x)
    (fun x _ _ _ => o_lenM x)
    (fun x _ _ _ => o_cap x)
    (fun T sz bytes x y _ _ _ => o_app T sz bytes x y)
    (fun sz x y _ _ _ => o_cpy sz x y)
    (fun z x _ _ _ => o_clr z x)
    (fun x y _ _ _ => o_min x y)
    (fun x y _ _ _ => o_max x y)
    o_call
    (fun _ _ _ => o_bad)
    (fun x y _ _ _ => o_and x y)
    (fun x y _ _ _ => o_shr x y)
    (fun l y _ _ _ => o_ixs l y)
    (fun T sz bytes z x y _ _ _ => o_apz T sz bytes z x y) op
/-- An operation of kind 2 writes to no block that is there. -/
noncomputable def opK2 (op : AOp) (tb : Tr AF) (ex exY : Run) (σ : Tr AV) (h : AH) : Option (AV × AH) :=
  match opY op tb ex exY σ ⟨h.m, h.nx, h.nx⟩ with
  | some (v, h') => some (v, ⟨h'.m, h'.nx, h.fl⟩)
  | none => none
noncomputable def opK (k : Nat) (op : AOp) : Tr AF → Run → Run → Tr AV → AH → Option (AV × AH) :=
  Bool.rec (motive := fun _ => Tr AF → Run → Run → Tr AV → AH → Option (AV × AH)) (opY op) (opK2 op) (Nat.beq k 2)
noncomputable def putD (d : Option Pos) (σ : Tr AV) (v : AV) : Tr AV := Option.rec (motive := fun _ => Tr AV) σ (fun p => σ.set p v) d
noncomputable def isB (b : Bool) (v : AV) : Bool := match v with
  | .bool b' => b' == b
  | _ => false
noncomputable def wantA (σ : Tr AV) (g : Option (Pos × Bool)) : Bool := Option.rec (motive := fun _ => Bool) true (fun q => isB q.2 (evA σ (.t q.1))) g
noncomputable def goOn (d : Option Pos) (k : Tr AV → AH → Option (Tr AV × AH)) (σ : Tr AV) (r : AV × AH) : Option (Tr AV × AH) := k (putD d σ r.1) r.2
noncomputable def runOp (o : AO) (k : Tr AV → AH → Option (Tr AV × AH)) (tb : Tr AF) (ex exY : Run) (σ : Tr AV) (h : AH) : Option (Tr AV × AH) :=
  Option.rec (motive := fun _ => Option (Tr AV × AH)) none (goOn o.dst k σ) (opK o.kd o.op tb ex exY σ h)
noncomputable def runOps (tb : Tr AF) (ex exY : Run) (l : List AO) : Tr AV → AH → Option (Tr AV × AH) :=
  List.rec (motive := fun _ => Tr AV → AH → Option (Tr AV × AH)) (fun σ h => some (σ, h)) (fun o _ ih σ h =>
    Bool.rec (motive := fun _ => Option (Tr AV × AH)) (ih (putD o.dst σ u) h) (runOp o ih tb ex exY σ h) (wantA σ o.grd)) l
theorem runOps_nil (tb : Tr AF) (ex exY : Run) (σ : Tr AV) (h : AH) : runOps tb ex exY [] σ h = some (σ, h) := rfl
theorem runOps_cons (tb : Tr AF) (ex exY : Run) (o : AO) (os : List AO) (σ : Tr AV) (h : AH) : runOps tb ex exY (o :: os) σ h = (match wantA σ o.grd with
    | true => match opK o.kd o.op tb ex exY σ h with
      | some r => runOps tb ex exY os (putD o.dst σ r.1) r.2
      | none => none
    | false => runOps tb ex exY os (putD o.dst σ u) h) := by
  show Bool.rec (motive := fun _ => Option (Tr AV × AH)) _ (Option.rec (motive := fun _ => Option (Tr AV × AH)) none _ (opK o.kd o.op tb ex exY σ h)) (wantA σ o.grd) = _
  cases wantA σ o.grd
  · rfl
  · cases opK o.kd o.op tb ex exY σ h <;> rfl
mutual
noncomputable def same : AV → AV → Bool
  | .int k n, .int k' n' => keq k k' && zeq n n'
  | .bool a, .bool b => a == b
  | .ptr b o, .ptr b' o' => b.beq b' && Nat.beq o o'
  | .pnil, .pnil => true
  | .sl b o n c, .sl b' o' n' c' => b.beq b' && (Nat.beq o o' && (Nat.beq n n' && Nat.beq c c'))
  | .rw b eo co n, .rw b' eo' co' n' => b.beq b' && (Nat.beq eo eo' && (Nat.beq co co' && Nat.beq n n'))
  | .snil, .snil => true
  | .map b, .map b' => b.beq b'
  | .mnil, .mnil => true
  | .fn f fi ca, .fn f' fi' ca' => f.beq f' && (sameL fi fi' && sameL ca ca')
  | .fnil, .fnil => true
  | .agg l, .agg l' => sameL l l'
  | .tup l, .tup l' => sameL l l'
  | _, _ => false
noncomputable def sameL : List AV → List AV → Bool
  | [], [] => true
  | a :: l, b :: k => same a b && sameL l k
  | _, _ => false
end
def fixedK (k : Nat) : Bool := Nat.beq k 0 || Nat.beq k 2
/-- What is loaded is the same at another time. -/
noncomputable def ldSame (tb : Tr AF) (ex exY : Run) (σf : Tr AV) (h : AH) (a : AO) : Bool := match a.dst with
  | some p => match wantA σf a.grd with
    | false => true
    | true => match opY a.op tb ex exY σf h with
      | some (v, _) => same v (evA σf (.t p))
      | none => false
  | none => true
noncomputable def lchk (tb : Tr AF) (ex exY : Run) (σf : Tr AV) (h : AH) (n : Nat) (l : List AO) : Bool :=
  List.rec (motive := fun _ => Nat → Bool) (fun _ => true) (fun a _ ih n => Bool.rec (motive := fun _ => Bool) (Bool.rec (motive := fun _ => Bool) (ih n) (Bool.rec (motive := fun _ => Bool) false (ih n) (ldSame tb ex exY σf h a)) (Nat.blt (n + 8) a.kd)) (ih (Nat.succ n)) (fixedK a.kd)) l n
theorem lchk_nil (tb : Tr AF) (ex exY : Run) (σf : Tr AV) (h : AH) (n : Nat) : lchk tb ex exY σf h n [] = true := rfl
theorem lchk_cons (tb : Tr AF) (ex exY : Run) (σf : Tr AV) (h : AH) (n : Nat) (a : AO) (t : List AO) : lchk tb ex exY σf h n (a :: t) = (match fixedK a.kd with
    | true => lchk tb ex exY σf h (n + 1) t
    | false => (match Nat.blt (n + 8) a.kd with
      | true => ldSame tb ex exY σf h a
      | false => true) && lchk tb ex exY σf h n t) := by
  show Bool.rec (motive := fun _ => Bool) (Bool.rec (motive := fun _ => Bool) (lchk tb ex exY σf h n t) (Bool.rec (motive := fun _ => Bool) false (lchk tb ex exY σf h n t) (ldSame tb ex exY σf h a)) (Nat.blt (n + 8) a.kd)) (lchk tb ex exY σf h (n + 1) t) (fixedK a.kd) = _
  cases fixedK a.kd
  · cases Nat.blt (n + 8) a.kd
    · rfl
    · cases ldSame tb ex exY σf h a <;> rfl
  · rfl
noncomputable def stepL (tb : Tr AF) (ex exY : Run) (o : AO) (σ : Tr AV) (h : AH) : Option (Tr AV × AH) := match wantA σ o.grd with
  | true => match opK o.kd o.op tb ex exY σ h with
    | some r => some (putD o.dst σ r.1, r.2)
    | none => none
  | false => some (putD o.dst σ u, h)
/-- A region in which what is loaded late is looked at early, too. -/
noncomputable def runL (tb : Tr AF) (ex exY : Run) (l : List AO) : Tr AV → AH → Option (Tr AV × AH) :=
  List.rec (motive := fun _ => Tr AV → AH → Option (Tr AV × AH)) (fun σ h => some (σ, h)) (fun o os ih σ h =>
    Option.rec (motive := fun _ => Option (Tr AV × AH)) none (fun r => Bool.rec (motive := fun _ => Option (Tr AV × AH)) (some r) (Bool.rec (motive := fun _ => Option (Tr AV × AH)) none (some r) (lchk tb ex exY r.1 h 0 os)) (Nat.beq o.kd 0))
      (Bool.rec (motive := fun _ => Option (Tr AV × AH)) (ih (putD o.dst σ u) h) (runOp o ih tb ex exY σ h) (wantA σ o.grd))) l
theorem runL_nil (tb : Tr AF) (ex exY : Run) (σ : Tr AV) (h : AH) : runL tb ex exY [] σ h = some (σ, h) := rfl
theorem runL_cons (tb : Tr AF) (ex exY : Run) (o : AO) (os : List AO) (σ : Tr AV) (h : AH) : runL tb ex exY (o :: os) σ h = (match stepL tb ex exY o σ h with
    | none => none
    | some q => match runL tb ex exY os q.1 q.2 with
      | none => none
      | some r => match Nat.beq o.kd 0 with
        | true => match lchk tb ex exY r.1 h 0 os with
          | true => some r
          | false => none
        | false => some r) := by
  show Option.rec (motive := fun _ => Option (Tr AV × AH)) none (fun r => Bool.rec (motive := fun _ => Option (Tr AV × AH)) (some r) (Bool.rec (motive := fun _ => Option (Tr AV × AH)) none (some r) (lchk tb ex exY r.1 h 0 os)) (Nat.beq o.kd 0))
      (Bool.rec (motive := fun _ => Option (Tr AV × AH)) (runL tb ex exY os (putD o.dst σ u) h) (Option.rec (motive := fun _ => Option (Tr AV × AH)) none (fun r => runL tb ex exY os (putD o.dst σ r.1) r.2) (opK o.kd o.op tb ex exY σ h)) (wantA σ o.grd)) = _
  unfold stepL
  cases wantA σ o.grd
  · simp only
    cases runL tb ex exY os (putD o.dst σ u) h with
    | none => rfl
    | some r =>
      simp only
      cases Nat.beq o.kd 0
      · rfl
      · cases lchk tb ex exY r.1 h 0 os <;> rfl
  · cases opK o.kd o.op tb ex exY σ h with
    | none => rfl
    | some q =>
      simp only
      cases runL tb ex exY os (putD o.dst σ q.1) q.2 with
      | none => rfl
      | some r =>
        simp only
        cases Nat.beq o.kd 0
        · rfl
        · cases lchk tb ex exY r.1 h 0 os <;> rfl
abbrev R := Option (Ex × Tr AV × AH)
noncomputable def sNrm (σ : Tr AV) (h : AH) : R := some (.nrm, σ, h)
noncomputable def sRg (l : List AO) (tb : Tr AF) (ex exY exR : Run) (σ : Tr AV) (h : AH) : R :=
  Option.rec (motive := fun _ => R) none (fun r => some (.nrm, r.1, r.2)) (runOps tb ex exY l σ h)
noncomputable def sRl (l : List AO) (tb : Tr AF) (ex exY : Run) (σ : Tr AV) (h : AH) : R :=
  Option.rec (motive := fun _ => R) none (fun r => some (.nrm, r.1, r.2)) (runL tb ex exY l σ h)
theorem sRl_eq (l : List AO) (tb : Tr AF) (ex exY : Run) (σ : Tr AV) (h : AH) : sRl l tb ex exY σ h = (match runL tb ex exY l σ h with
    | some r => some (.nrm, r.1, r.2)
    | none => none) := by
  unfold sRl
  cases runL tb ex exY l σ h <;> rfl
noncomputable def seqK (b : AC) (exR : Run) (r : Ex × Tr AV × AH) : R := Ex.rec (motive := fun _ => Tr AV → AH → R) (fun σ h => exR b σ h) (fun i σ h => some (.exit i, σ, h)) (fun σ h => some (.ret, σ, h)) r.1 r.2.1 r.2.2
noncomputable def sSeq (a b : AC) (exR : Run) (σ : Tr AV) (h : AH) : R := Option.rec (motive := fun _ => R) none (seqK b exR) (exR a σ h)
noncomputable def sCond (c : AOd) (a b : AC) (exR : Run) (σ : Tr AV) (h : AH) : R := match evA σ c with
  | .bool true => exR a σ h
  | .bool false => exR b σ h
  | _ => none
noncomputable def blockK (i : Nat) (r : Ex × Tr AV × AH) : R := Ex.rec (motive := fun _ => Tr AV → AH → R) (fun σ h => some (.nrm, σ, h))
  (fun j σ h => Bool.rec (motive := fun _ => R) (some (.exit j, σ, h)) (some (.nrm, σ, h)) (Nat.beq j i)) (fun σ h => some (.ret, σ, h)) r.1 r.2.1 r.2.2
noncomputable def sBlock (i : Nat) (a : AC) (exR : Run) (σ : Tr AV) (h : AH) : R := Option.rec (motive := fun _ => R) none (blockK i) (exR a σ h)
noncomputable def sLoop (a : AC) (exR : Run) (σ : Tr AV) (h : AH) : R := Option.rec (motive := fun _ => R) none (seqK (.loop a) exR) (exR a σ h)
noncomputable def sRf (f : Bool) (g : AOd) (t : List Pos) (asg body : AC) (tb : Tr AF) (ex : Run) (σ : Tr AV) (h : AH) : R := match f, evA σ g with
  | true, .fn f fi ca => match callW tb ex f (fi ++ (.yld h.nx :: ca)) (h.push (.loop σ t asg body .ready)) with
    | some (_, h2) => match h2.m.get h.nx with
      | some (.loop _ _ _ _ .ready) => match h2.put h.nx .dead with
        | some h3 => some (.nrm, σ, h3)
        | none => none
      | some (.loop _ _ _ _ (.done e)) => match h2.put h.nx .dead with
        | some h3 => some (e, σ, h3)
        | none => none
      | _ => none
    | none => none
  | _, _ => none
/-- One step; f: not inside a round, where there is no range over a function. -/
noncomputable def step (c : AC) : Bool → Tr AF → Run → Run → Run → Tr AV → AH → R :=
  AC.rec (motive := fun _ => Bool → Tr AF → Run → Run → Run → Tr AV → AH → R)
    (fun _ _ _ _ _ => sNrm)
    (fun l _ tb ex exY exR => sRg l tb ex exY exR)
    (fun a b _ _ _ _ _ _ exR => sSeq a b exR)
    (fun c a b _ _ _ _ _ _ exR => sCond c a b exR)
    (fun i a _ _ _ _ _ exR => sBlock i a exR)
    (fun a _ _ _ _ _ exR => sLoop a exR)
    (fun g t asg body _ _ f tb ex _ _ => sRf f g t asg body tb ex)
    (fun i _ _ _ _ _ σ h => some (.exit i, σ, h))
    (fun a _ _ _ _ _ exR => exR a)
    (fun _ _ _ _ _ σ h => some (.ret, σ, h))
    (fun l _ tb ex exY _ => sRl l tb ex exY) c
/-- The machine: with fuel; inside a round (true) there is no range over a function. -/
noncomputable def exec (tb : Tr AF) (n : Nat) : Bool → Run :=
  Nat.rec (motive := fun _ => Bool → Run) (fun _ _ _ _ => none) (fun _ ih r c => step c (!r) tb (ih false) (ih true) (ih r)) n
theorem exec_succ (tb : Tr AF) (n : Nat) (r : Bool) (c : AC) : exec tb (n + 1) r c = step c (!r) tb (exec tb n false) (exec tb n true) (exec tb n r) := rfl
end Go.KX
