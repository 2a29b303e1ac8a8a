import Derived.Test.YtabadkdjndnliaaGreatR0
import Derived.Lib.AppendZeros
set_option linter.all false
open Bool renaming and_eq_true->hH,rec->nN,false_eq_true->nW,eq_false_iff->kD,not_eq_true'->kE,or_eq_true->kP
open Nat renaming eq_of_beq_eq_true->nA,beq->nB,blt_eq->nD,blt->nG,le_refl->nH,ble->nK,le_of_ble_eq_true->nM,ble_eq->nQ,le_trans->nX,le_of_mul_le_mul_right->nZ,lt_or_ge->nf,lt_of_lt_of_le->nh,le_mul_of_pos_right->ni,mul_le_mul_right->nt,rec->nv,add_mul->ny,zero_add->kY,add_zero->kc
open Array renaming ext'->nE,range->nS,getD_eq_getD_getElem?->nY,getElem?_eq_none->nl,toList_map->kJ,getElem?_replicate->kL,replicate->kQ,getElem?_toList->kS,toList_append->kW,size_append->ki
open List renaming map_cons->nI,eq_nil_of_length_eq_zero->nO,replicate->nP,rec->nT,flatMap->nU,length_append->nV,length_nil->na,mem_append->nc,getElem?_eq_getElem->ng,getElem?_map->nk,length_cons->np,mem_of_getElem?->nr,length->nz,getElem?_take->kA,size_toArray->kB,getElem?_set->kC,append_assoc->kG,getElem?_eq_some_iff->kH,map_nil->kK,nil_append->kM,getElem?_eq_none->kR,mem_append_right->kU,mem_append_left->kV,map_eq_nil_iff->kX,mem_singleton->kZ,toArray_range->ke,flatMap_cons->kf,ext_getElem?->kg,range->kq
open List.cons renaming injEq->nJ
open Option renaming rec->nL,getD_none->kj,getD_some->kk,map_some->ko
open Int renaming ofNat_eq_natCast->nR,toNat_natCast->nj,negSucc_eq->nw,ofNat->kO
open Go.Value renaming int->nq,func->km
open Option.some renaming injEq->kh
namespace Go.KX
noncomputable section
open Go.RowKit Go.KL
inductive Pos
 | H
 | O (p:Pos)
 | I (p:Pos)
 deriving DecidableEq
def Pos.succ (p:Pos):Pos:=Pos.rec (motive:=fun _=>Pos) (.O .H) (fun q _=>.I q) (fun _ s=>.O s) p
theorem Pos.succ_I (p:Pos):(Pos.I p).succ=.O p.succ:=rfl
def Pos.nat:Pos->Nat
 | .H=>1
 | .O p=>2 * p.nat
 | .I p=>2 * p.nat + 1
def Pos.beq:Pos->Pos->Bool
 | .H,.H=>true
 | .O p,.O q=>p.beq q
 | .I p,.I q=>p.beq q
 | _,_=>false
theorem Pos.nat_succ (p:Pos):p.succ.nat=p.nat + 1:=by
 induction p with
 | H=>rfl
 | O p _=>rfl
 | I p ih=>rw [Pos.succ_I];simp only [Pos.nat,ih];omega
theorem Pos.nat_pos (p:Pos):0 < p.nat:=by
 induction p with
 | H=>decide
 | O p ih=>simp only [Pos.nat];omega
 | I p ih=>simp only [Pos.nat];omega
theorem Pos.nat_inj:∀ {p q:Pos},p.nat=q.nat->p=q
 | .H,.H,_=>rfl
 | .H,.O q,h=>by have:=q.nat_pos;simp only [Pos.nat] at h;omega
 | .H,.I q,h=>by have:=q.nat_pos;simp only [Pos.nat] at h;omega
 | .O p,.H,h=>by have:=p.nat_pos;simp only [Pos.nat] at h;omega
 | .I p,.H,h=>by have:=p.nat_pos;simp only [Pos.nat] at h;omega
 | .O p,.O q,h=>by simp only [Pos.nat] at h;rw [Pos.nat_inj (p:=p) (q:=q) (by omega)]
 | .I p,.I q,h=>by simp only [Pos.nat] at h;rw [Pos.nat_inj (p:=p) (q:=q) (by omega)]
 | .O p,.I q,h=>by simp only [Pos.nat] at h;omega
 | .I p,.O q,h=>by simp only [Pos.nat] at h;omega
theorem Pos.beq_eq:∀ {p q:Pos},p.beq q=true->p=q
 | .H,.H,_=>rfl
 | .O p,.O q,h=>by rw [Pos.beq_eq (p:=p) (q:=q) h]
 | .I p,.I q,h=>by rw [Pos.beq_eq (p:=p) (q:=q) h]
 | .H,.O _,h=>by cases h
 | .H,.I _,h=>by cases h
 | .O _,.H,h=>by cases h
 | .I _,.H,h=>by cases h
 | .O _,.I _,h=>by cases h
 | .I _,.O _,h=>by cases h
def Pos.ltb (e:Bool):Pos->Pos->Bool
 | .H,.H=>e
 | .H,_=>true
 | _,.H=>false
 | .O p,.O q=>Pos.ltb e p q
 | .I p,.I q=>Pos.ltb e p q
 | .O p,.I q=>Pos.ltb true p q
 | .I p,.O q=>Pos.ltb false p q
theorem Pos.ltb_iff:∀ (p q:Pos) (e:Bool),Pos.ltb e p q=true ↔ p.nat < q.nat \/ (e=true/\p.nat=q.nat)
 | .H,.H,e=>by simp [Pos.ltb]
 | .H,.O q,e=>by have:=q.nat_pos;simp only [Pos.ltb,Pos.nat];exact ⟨fun _=>.inl (by omega),fun _=>trivial⟩
 | .H,.I q,e=>by have:=q.nat_pos;simp only [Pos.ltb,Pos.nat];exact ⟨fun _=>.inl (by omega),fun _=>trivial⟩
 | .O p,.H,e=>by have:=p.nat_pos;simp only [Pos.ltb,Pos.nat];constructor <;> intro h <;> first | cases h;done | (exfalso;omega)
 | .I p,.H,e=>by have:=p.nat_pos;simp only [Pos.ltb,Pos.nat];constructor <;> intro h <;> first | cases h;done | (exfalso;omega)
 | .O p,.O q,e=>by rw [Pos.ltb,Pos.ltb_iff p q e];simp only [Pos.nat];cases e <;> simp <;> omega
 | .I p,.I q,e=>by rw [Pos.ltb,Pos.ltb_iff p q e];simp only [Pos.nat];cases e <;> simp <;> omega
 | .O p,.I q,e=>by rw [Pos.ltb,Pos.ltb_iff p q true];simp only [Pos.nat];cases e <;> simp <;> omega
 | .I p,.O q,e=>by rw [Pos.ltb,Pos.ltb_iff p q false];simp only [Pos.nat];cases e <;> simp <;> omega
inductive Tr (α:Type)
 | e
 | n (l:Tr α) (v:Option α) (r:Tr α)
variable {α:Type}
def Tr.get (t:Tr α):Pos->Option α :=
 Tr.rec (motive:=fun _=>Pos->Option α) (fun _=>none) (fun _ v _ gl gr p=>Pos.rec (motive:=fun _=>Option α) v (fun q _=>gl q) (fun q _=>gr q) p) t
def Tr.one (p:Pos) (a:α):Tr α:=Pos.rec (motive:=fun _=>Tr α) (.n .e (some a) .e) (fun _ t=>.n t none .e) (fun _ t=>.n .e none t) p
def Tr.set (t:Tr α) (p:Pos) (a:α):Tr α :=
 Tr.rec (motive:=fun _=>Pos->Tr α) (fun p=>Tr.one p a) (fun l v r sl sr p=>Pos.rec (motive:=fun _=>Tr α) (.n l (some a) r) (fun q _=>.n (sl q) v r) (fun q _=>.n l v (sr q)) p) t p
theorem Tr.get_e (p:Pos):(Tr.e:Tr α).get p=none:=rfl
theorem Tr.get_H (l r:Tr α) (v:Option α):(Tr.n l v r).get .H=v:=rfl
theorem Tr.get_O (l r:Tr α) (v:Option α) (p:Pos):(Tr.n l v r).get (.O p)=l.get p:=rfl
theorem Tr.get_I (l r:Tr α) (v:Option α) (p:Pos):(Tr.n l v r).get (.I p)=r.get p:=rfl
theorem Tr.one_H (a:α):Tr.one .H a=.n .e (some a) .e:=rfl
theorem Tr.one_O (p:Pos) (a:α):Tr.one (.O p) a=.n (Tr.one p a) none .e:=rfl
theorem Tr.one_I (p:Pos) (a:α):Tr.one (.I p) a=.n .e none (Tr.one p a):=rfl
theorem Tr.set_e (p:Pos) (a:α):(Tr.e:Tr α).set p a=Tr.one p a:=rfl
theorem Tr.set_H (l r:Tr α) (v:Option α) (a:α):(Tr.n l v r).set .H a=.n l (some a) r:=rfl
theorem Tr.set_O (l r:Tr α) (v:Option α) (p:Pos) (a:α):(Tr.n l v r).set (.O p) a=.n (l.set p a) v r:=rfl
theorem Tr.set_I (l r:Tr α) (v:Option α) (p:Pos) (a:α):(Tr.n l v r).set (.I p) a=.n l v (r.set p a):=rfl
theorem Tr.get_one:∀ (p q:Pos) (a:α),(Tr.one p a).get q=if q=p then some a else none
 | .H,.H,a=>rfl
 | .H,.O q,a=>by simp [Tr.one_H,Tr.get_O,Tr.get_e]
 | .H,.I q,a=>by simp [Tr.one_H,Tr.get_I,Tr.get_e]
 | .O p,.H,a=>by simp [Tr.one_O,Tr.get_H]
 | .O p,.O q,a=>by simp only [Tr.one_O,Tr.get_O,Tr.get_one p q a,Pos.O.injEq]
 | .O p,.I q,a=>by simp [Tr.one_O,Tr.get_I,Tr.get_e]
 | .I p,.H,a=>by simp [Tr.one_I,Tr.get_H]
 | .I p,.O q,a=>by simp [Tr.one_I,Tr.get_O,Tr.get_e]
 | .I p,.I q,a=>by simp only [Tr.one_I,Tr.get_I,Tr.get_one p q a,Pos.I.injEq]
theorem Tr.get_set:∀ (t:Tr α) (p q:Pos) (a:α),(t.set p a).get q=if q=p then some a else t.get q
 | .e,p,q,a=>by simp only [Tr.set_e,Tr.get_one,Tr.get_e]
 | .n l v r,.H,.H,a=>rfl
 | .n l v r,.H,.O q,a=>by simp [Tr.set_H,Tr.get_O]
 | .n l v r,.H,.I q,a=>by simp [Tr.set_H,Tr.get_I]
 | .n l v r,.O p,.H,a=>by simp [Tr.set_O,Tr.get_H]
 | .n l v r,.O p,.O q,a=>by simp only [Tr.set_O,Tr.get_O,Tr.get_set l p q a,Pos.O.injEq]
 | .n l v r,.O p,.I q,a=>by simp [Tr.set_O,Tr.get_I]
 | .n l v r,.I p,.H,a=>by simp [Tr.set_I,Tr.get_H]
 | .n l v r,.I p,.O q,a=>by simp [Tr.set_I,Tr.get_O]
 | .n l v r,.I p,.I q,a=>by simp only [Tr.set_I,Tr.get_I,Tr.get_set r p q a,Pos.I.injEq]
inductive AV
 | int (k:IntKind) (n:Int)
 | bool (b:Bool)
 | ptr (b:Pos) (off:Nat)
 | pnil
 | sl (b:Pos) (off len cap:Nat)
 | rw (b:Pos) (eo co len:Nat)
 | rz (b:Pos) (eo:Nat)
 | snil
 | map (b:Pos)
 | mnil
 | fn (f:Pos) (fi ca:List AV)
 | yld (b:Pos)
 | fnil
 | agg (l:List AV)
 | tup (l:List AV)
inductive AOd
 | t (p:Pos)
 | c (v:AV)
inductive Sh
 | int
 | bool
 | str (fs:List (Nat × Nat × Sh))
inductive AOp
 | mv (x:AOd)
 | pick (c x y:AOd)
 | new (T:Nat) (z:List AV)
 | box (T:Nat) (x:AOd)
 | ld (x:AOd)
 | ldA (n:Nat) (x:AOd)
 | st (n:Nat) (x y:AOd)
 | nilc (x:AOd)
 | add (x y:AOd) | sub (x y:AOd) | mul (x y:AOd) | quo (x y:AOd) | rem (x y:AOd)
 | lss (x y:AOd) | leq (x y:AOd) | gtr (x y:AOd) | geq (x y:AOd) | eql (x y:AOd) | neq (x y:AOd)
 | eqb (ne:Bool) (x y:AOd)
 | eqn (k:Nat) (ne:Bool) (x y:AOd)
 | eqs (ne:Bool) (s:Sh) (x y:AOd)
 | neg (x:AOd) | not (x:AOd)
 | cvt (k:IntKind) (x:AOd)
 | mkf (f:Pos) (fi ca:List AOd)
 | mkm
 | mks (T sz bytes:Nat) (z:List AV) (x y:AOd)
 | slc (sz:Nat) (x:AOd) (lo hi mx:Option AOd)
 | slcA (sz n:Nat) (x:AOd) (lo hi:Option AOd)
 | fad (off:Nat) (x:AOd)
 | fld (off:Nat) (x:AOd) | fldA (off n:Nat) (x:AOd)
 | iad (sz:Nat) (x y:AOd) | iadA (sz n:Nat) (x y:AOd)
 | ix (n:Nat) (x y:AOd) | ixA (sz n:Nat) (x y:AOd)
 | lk (two:Bool) (k:IntKind) (ok:Bool) (z:AV) (x y:AOd)
 | mput (two:Bool) (k:IntKind) (x y z:AOd)
 | mdel (two:Bool) (k:IntKind) (x y:AOd)
 | ext (i:Nat) (x:AOd)
 | bld (z:List AV) (ps:List (Nat × Nat × AOd))
 | blds (T len:Nat) (z:List AV) (ps:List (Nat × Nat × AOd))
 | len (x:AOd) | lenM (x:AOd) | cap (x:AOd)
 | app (T sz bytes:Nat) (x y:AOd)
 | cpy (sz:Nat) (x y:AOd)
 | clr (z:List AV) (x:AOd)
 | min (x y:AOd) | max (x y:AOd)
 | call (x:AOd) (l:List AOd)
 | bad
 | and (x y:AOd) | shr (x y:AOd)
 | ixs (l:List Nat) (y:AOd)
 | apz (T sz bytes:Nat) (z:List AV) (x y:AOd)
structure AO where
 ix:Nat
 kd:Nat
 dst:Option Pos
 grd:Option (Pos × Bool)
 op:AOp
inductive Ex
 | nrm
 | exit (i:Nat)
 | ret
inductive AC
 | skip
 | rg (l:List AO)
 | seq (a b:AC)
 | cond (c:AOd) (a b:AC)
 | block (i:Nat) (a:AC)
 | loop (a:AC)
 | rf (g:AOd) (t:List Pos) (asg body:AC)
 | exit (i:Nat)
 | scope (a:AC)
 | ret
 | rl (l:List AO)
inductive AR
 | t (p:Pos)
 | c (p:Pos) (n:Option Nat)
structure AF where
 n:Nat
 res:List AR
 body:AC
inductive LS
 | ready
 | busy
 | done (e:Ex)
inductive AB
 | cells (T:Nat) (l:List AV)
 | row (T sz:Nat) (l:List AV)
 | mapI (k:IntKind) (l:List (Int × AV))
 | map2 (k:IntKind) (l:List ((Int × Int) × AV))
 | map0
 | loop (σ:Tr AV) (t:List Pos) (asg body:AC) (s:LS)
 | dead
structure AH where
 m:Tr AB
 nx:Pos
 fl:Pos
def AH.push (h:AH) (b:AB):AH:=⟨h.m.set h.nx b,h.nx.succ,h.fl⟩
def AH.put (h:AH) (p:Pos) (b:AB):Option AH:=match Pos.ltb false p h.fl with
 | true=>none
 | false=>some ⟨h.m.set p b,h.nx,h.fl⟩
def nth (l:List α):Nat->Option α :=
 nT (motive:=fun _=>Nat->Option α) (fun _=>none) (fun a _ ih n=>nv (motive:=fun _=>Option α) (some a) (fun m _=>ih m) n) l
def wJh (a:α) (o:Option (List α)):Option (List α):=nL (motive:=fun _=>Option (List α)) none (fun r=>some (a :: r)) o
def tk (l:List α):Nat->Option (List α) :=
 nT (motive:=fun _=>Nat->Option (List α)) (fun n=>nv (motive:=fun _=>Option (List α)) (some []) (fun _ _=>none) n)
  (fun a _ ih n=>nv (motive:=fun _=>Option (List α)) (some []) (fun m _=>wJh a (ih m)) n) l
def sub (l:List α) (off n:Nat):Option (List α) :=
 nT (motive:=fun _=>Nat->Option (List α)) (fun off=>nv (motive:=fun _=>Option (List α)) (tk [] n) (fun _ _=>none) off)
  (fun a l ih off=>nv (motive:=fun _=>Option (List α)) (tk (a :: l) n) (fun m _=>ih m) off) l off
def ov (l:List α):List α->Option (List α) :=
 nT (motive:=fun _=>List α->Option (List α)) (fun vs=>nT (motive:=fun _=>Option (List α)) (some []) (fun _ _ _=>none) vs)
  (fun a l ih vs=>nT (motive:=fun _=>Option (List α)) (some (a :: l)) (fun v vs _=>wJh v (ih vs)) vs) l
def wPr (l:List α) (off:Nat) (vs:List α):Option (List α) :=
 nT (motive:=fun _=>Nat->Option (List α)) (fun off=>nv (motive:=fun _=>Option (List α)) (ov [] vs) (fun _ _=>none) off)
  (fun a l ih off=>nv (motive:=fun _=>Option (List α)) (ov (a :: l) vs) (fun m _=>wJh a (ih m)) off) l off
def len (l:List α):Nat:=nT (motive:=fun _=>Nat) 0 (fun _ _ n=>Nat.succ n) l
def u:AV:=.tup []
def evA (σ:Tr AV) (x:AOd):AV :=
 AOd.rec (motive:=fun _=>AV) (fun p=>nL (motive:=fun _=>AV) u (fun v=>v) (σ.get p)) (fun v=>v) x
def evs (σ:Tr AV) (l:List AOd):List AV:=nT (motive:=fun _=>List AV) [] (fun x _ ih=>evA σ x :: ih) l
def AV.cells:AV->List AV
 | .agg l=>l
 | v=>[v]
def AV.one:AV->Bool
 | .agg _ | .tup _=>false
 | _=>true
def wPs:List AV->Bool
 | []=>true
 | v :: l=>v.one && wPs l
def zlt:Int->Int->Bool
 | .ofNat a,.ofNat b=>nG a b
 | .negSucc _,.ofNat _=>true
 | .ofNat _,.negSucc _=>false
 | .negSucc a,.negSucc b=>nG b a
def zle (a b:Int):Bool:=!zlt b a
def zeq:Int->Int->Bool
 | .ofNat a,.ofNat b=>nB a b
 | .negSucc a,.negSucc b=>nB a b
 | _,_=>false
def keq:IntKind->IntKind->Bool
 | .i64,.i64=>true
 | .u8,.u8=>true
 | .u32,.u32=>true
 | .u64,.u64=>true
 | .i32,.i32=>true
 | _,_=>false
def inK:IntKind->Int->Bool
 | .i64,.ofNat n=>nG n 9223372036854775808
 | .i64,.negSucc n=>nG n 9223372036854775808
 | .u8,.ofNat n=>nG n 256
 | .u32,.ofNat n=>nG n 4294967296
 | .u64,.ofNat n=>nG n 18446744073709551616
 | _,_=>false
def wJi (f:Int->Int->Int):AV->AV->Option AV
 | .int k a,.int k' b=>match keq k k' with
  | true=>match inK k (f a b) with
   | true=>some (.int k (f a b))
   | false=>none
  | false=>none
 | _,_=>none
def div (f:Int->Int->Int):AV->AV->Option AV
 | .int k a,.int k' b=>match keq k k' with
  | true=>match zeq b 0 with
   | true=>none
   | false=>match inK k (f a b) with
    | true=>some (.int k (f a b))
    | false=>none
  | false=>none
 | _,_=>none
def wOc (f:Int->Int->Bool):AV->AV->Option AV
 | .int k a,.int k' b=>match keq k k' with
  | true=>some (.bool (f a b))
  | false=>none
 | _,_=>none
def wLT (k:Nat) (x y:AV):Option Bool:=match k,x,y with
 | 0,.pnil,.pnil=>some true
 | 0,.pnil,.ptr _ _=>some false
 | 0,.ptr _ _,.pnil=>some false
 | 1,.snil,.snil=>some true
 | 1,.snil,.sl _ _ _ _=>some false
 | 1,.snil,.rw _ _ _ _=>some false
 | 1,.sl _ _ _ _,.snil=>some false
 | 1,.rw _ _ _ _,.snil=>some false
 | 1,.snil,.rz _ _=>some false
 | 1,.rz _ _,.snil=>some false
 | 2,.mnil,.mnil=>some true
 | 2,.mnil,.map _=>some false
 | 2,.map _,.mnil=>some false
 | 3,.fnil,.fnil=>some true
 | 3,.fnil,.fn _ _ _=>some false
 | 3,.fn _ _ _,.fnil=>some false
 | _,_,_=>none
def wOd (s:Sh) (l:List AV) (off sz:Nat):Option AV :=
 match s with
 | .str _=>match sub l off sz with
  | some r=>some (.agg r)
  | none=>none
 | _=>nth l off
mutual
def wOe:Sh->AV->AV->Option Bool
 | .int,.int k a,.int k' b=>match keq k k' with
  | true=>some (zeq a b)
  | false=>none
 | .bool,.bool a,.bool b=>some (a == b)
 | .str fs,.agg xs,.agg ys=>wRY fs xs ys
 | _,_,_=>none
def wRY:List (Nat × Nat × Sh)->List AV->List AV->Option Bool
 | [],_,_=>some true
 | (off,sz,s) :: fs,xs,ys=>match wOd s xs off sz,wOd s ys off sz with
  | some x,some y=>match wOe s x y with
   | some true=>wRY fs xs ys
   | r=>r
  | _,_=>none
end
def wIL (σ:Tr AV):List AV->List (Nat × Nat × AOd)->Option (List AV)
 | cs,[]=>some cs
 | cs,(off,n,x) :: ps=>match nB (len (evA σ x).cells) n with
  | true=>match wPr cs off (evA σ x).cells with
   | some cs'=>wIL σ cs' ps
   | none=>none
  | false=>none
def wGc:AV->Option Nat
 | .int .i64 (.ofNat n)=>some n
 | _=>none
def boundOf (σ:Tr AV) (d:Nat):Option AOd->Option Nat
 | none=>some d
 | some x=>wGc (evA σ x)
def rep:Nat->List α->List α
 | 0,_=>[]
 | n + 1,l=>l ++ rep n l
def wLU:List ((Int × Int) × AV)->Int->Int->Option AV
 | [],_,_=>none
 | ((a,b),v) :: l,x,y=>match zeq x a && zeq y b with
  | true=>some v
  | false=>wLU l x y
def wLV:List (Int × AV)->Int->Option AV
 | [],_=>none
 | (a,v) :: l,x=>match zeq x a with
  | true=>some v
  | false=>wLV l x
def wMW:List ((Int × Int) × AV)->Int->Int->AV->List ((Int × Int) × AV)
 | [],x,y,v=>[((x,y),v)]
 | ((a,b),w) :: l,x,y,v=>match zeq x a && zeq y b with
  | true=>((x,y),v) :: l
  | false=>((a,b),w) :: wMW l x y v
def wMX:List (Int × AV)->Int->AV->List (Int × AV)
 | [],x,v=>[(x,v)]
 | (a,w) :: l,x,v=>match zeq x a with
  | true=>(x,v) :: l
  | false=>(a,w) :: wMX l x v
def wMY:List ((Int × Int) × AV)->Int->Int->List ((Int × Int) × AV)
 | [],_,_=>[]
 | ((a,b),w) :: l,x,y=>match zeq x a && zeq y b with
  | true=>l
  | false=>((a,b),w) :: wMY l x y
def wMZ:List (Int × AV)->Int->List (Int × AV)
 | [],_=>[]
 | (a,w) :: l,x=>match zeq x a with
  | true=>l
  | false=>(a,w) :: wMZ l x
def wKh:AB->Option (List AV)
 | .cells _ l=>some l
 | .row _ _ l=>some l
 | _=>none
def wDM (h:AH) (b:Pos):Option (List AV):=match h.m.get b with
 | some B=>wKh B
 | none=>none
def setAt (h:AH) (b:Pos) (off:Nat) (vs:List AV):Option AH:=match h.m.get b with
 | some (.cells T l)=>match wPr l off vs with
  | some l'=>h.put b (.cells T l')
  | none=>none
 | some (.row T sz l)=>match wPr l off vs with
  | some l'=>h.put b (.row T sz l')
  | none=>none
 | _=>none
def slice (h:AH) (sz:Nat):AV->Option (Nat × List AV)
 | .snil=>some (0,[])
 | .rz _ _=>some (0,[])
 | .sl b off n _=>match wDM h b with
  | some l=>match sub l off (n * sz) with
   | some r=>some (n,r)
   | none=>none
  | none=>none
 | .rw b _ co n=>match wDM h b with
  | some l=>match sub l co (n * sz) with
   | some r=>some (n,r)
   | none=>none
  | none=>none
 | _=>none
def ifO (b:Bool) (x:Option α):Option α:=match b with
 | true=>x
 | false=>none
def app (h:AH) (T sz by_:Nat) (m:Nat) (news:List AV) (x:AV):Option (AV × AH):=match m with
 | 0=>match x with
  | .snil=>some (.snil,h)
  | .sl b off n c=>some (.sl b off n c,h)
  | .rw b eo co n=>some (.rw b eo co n,h)
  | _=>none
 | m + 1=>match x with
  | .snil=>ifO (nK ((m + 1) * by_) 140737488355328) (some (.rw h.nx 0 0 (m + 1),h.push (.row T sz news)))
  | .sl b off n c=>match nK (n + (m + 1)) c with
   | true=>match setAt h b (off + n * sz) news with
    | some h'=>some (.sl b off (n + (m + 1)) c,h')
    | none=>none
   | false=>ifO (nK ((n + (m + 1)) * by_) 140737488355328) (match slice h sz (.sl b off n c) with
    | some (_,olds)=>some (.rw h.nx 0 0 (n + (m + 1)),h.push (.row T sz (olds ++ news)))
    | none=>none)
  | .rw b eo co n=>match h.m.get b with
   | some (.row T' sz' l)=>match nK ((n + (m + 1)) * sz) (len l) && (nB sz sz' && (nB eo 0 && nB co 0)) with
    | true=>match setAt h b (n * sz) news with
     | some h'=>some (.rw b 0 0 (n + (m + 1)),h')
     | none=>none
    | false=>ifO (nB T T' && nB sz sz' && nB eo 0 && nB co 0 && nB (n * sz) (len l) && nK ((n + (m + 1)) * by_) 140737488355328)
     (match h.put b .dead with
      | some h'=>some (.rw h.nx 0 0 (n + (m + 1)),h'.push (.row T sz (l ++ news)))
      | none=>none)
   | _=>none
  | _=>none
def wGd (two:Bool) (k:IntKind) (B:AB) (y:AV):Option (Option AV):=match two,B,y with
 | false,.map0,.int k' _=>ifO (keq k k') (some none)
 | true,.map0,.agg [.int k1 _,.int k2 _]=>ifO (keq k k1 && keq k k2) (some none)
 | false,.mapI k0 l,.int k' n=>ifO (keq k k0 && keq k k') (some (wLV l n))
 | true,.map2 k0 l,.agg [.int k1 a,.int k2 b]=>ifO (keq k k0 && (keq k k1 && keq k k2)) (some (wLU l a b))
 | _,_,_=>none
def wOQ (two:Bool) (k:IntKind) (B:AB) (y v:AV):Option AB:=match two,B,y with
 | false,.map0,.int k' n=>ifO (keq k k') (some (.mapI k [(n,v)]))
 | true,.map0,.agg [.int k1 a,.int k2 b]=>ifO (keq k k1 && keq k k2) (some (.map2 k [((a,b),v)]))
 | false,.mapI k0 l,.int k' n=>ifO (keq k k0 && keq k k') (some (.mapI k (wMX l n v)))
 | true,.map2 k0 l,.agg [.int k1 a,.int k2 b]=>ifO (keq k k0 && (keq k k1 && keq k k2)) (some (.map2 k (wMW l a b v)))
 | _,_,_=>none
def wOR (two:Bool) (k:IntKind) (B:AB) (y:AV):Option AB:=match two,B,y with
 | false,.map0,.int k' _=>ifO (keq k k') (some .map0)
 | true,.map0,.agg [.int k1 _,.int k2 _]=>ifO (keq k k1 && keq k k2) (some .map0)
 | false,.mapI k0 l,.int k' n=>ifO (keq k k0 && keq k k') (some (.mapI k (wMZ l n)))
 | true,.map2 k0 l,.agg [.int k1 a,.int k2 b]=>ifO (keq k k0 && (keq k k1 && keq k k2)) (some (.map2 k (wMY l a b)))
 | _,_,_=>none
def lenB:AB->Option Nat
 | .map0=>some 0
 | .mapI _ l=>some (len l)
 | .map2 _ l=>some (len l)
 | _=>none
def okV (h:AH):Option AV->Option (AV × AH)
 | some v=>some (v,h)
 | none=>none
def wHl:Option (List AV)->Option AV
 | some l=>some (.agg l)
 | none=>none
def orD (o:Option Nat) (d:Nat):Nat:=match o with
 | some n=>n
 | none=>d
theorem wMa (o:Option Nat) (d:Nat):orD o d=o.getD d:=by cases o <;> rfl
def wRZ (sz:Nat) (v:AV) (lo:Nat) (hi mx:Option Nat):Option AV:=match v with
 | .snil=>ifO (nB lo 0 && (match hi with | some n=>nB n 0 | none=>true) && (match mx with | some n=>nB n 0 | none=>true)) (some .snil)
 | .sl b off n c =>
  let m:=orD mx c
  let h:=orD hi n
  ifO (nK lo h && nK h m && nK m c) (some (.sl b (match nB m lo with | true=>off | false=>off + lo * sz) (h - lo) (m - lo)))
 | .rw b eo co n =>
  let h:=orD hi n
  match mx with
  | none=>ifO (nK lo h && nK h n) (match lo with
   | 0=>some (.rw b eo co h)
   | _=>match nG lo n with
    | true=>some (.rw b (eo + lo) (co + lo * sz) (h - lo))
    | false=>some (.rz b (eo + lo)))
  | some m=>ifO (nK lo h && nK h m && nK m n) (some (.sl b (match nB m lo with | true=>co | false=>co + lo * sz) (h - lo) (m - lo)))
 | _=>none
def clr (h:AH) (z:List AV) (b:Pos) (off n:Nat):Option (AV × AH):=match n with
 | 0=>some (u,h)
 | n + 1=>ifO (wPs z) (match setAt h b off (rep (n + 1) z) with
  | some h'=>some (u,h')
  | none=>none)
def bnd (σ:Tr AV):Option AOd->Option (Option Nat)
 | none=>some none
 | some x=>match wGc (evA σ x) with
  | some n=>some (some n)
  | none=>none
def wRH (x:AOd) (σ:Tr AV) (h:AH):Option (AV × AH):=some (evA σ x,h)
def wGe (c:AOd) (x:AOd) (y:AOd) (σ:Tr AV) (h:AH):Option (AV × AH):=match evA σ c with
  | .bool true=>some (evA σ x,h)
  | .bool false=>some (evA σ y,h)
  | _=>none
def wPt (T:Nat) (z:List AV) (σ:Tr AV) (h:AH):Option (AV × AH):=some (.ptr h.nx 0,h.push (.cells T z))
def wLW (T:Nat) (x:AOd) (σ:Tr AV) (h:AH):Option (AV × AH):=some (.ptr h.nx 0,h.push (.cells T (evA σ x).cells))
def wOS (x:AOd) (σ:Tr AV) (h:AH):Option (AV × AH):=match evA σ x with
  | .ptr b off=>match wDM h b with
   | some l=>okV h (nth l off)
   | none=>none
  | _=>none
def wHW (n:Nat) (x:AOd) (σ:Tr AV) (h:AH):Option (AV × AH):=match evA σ x with
  | .ptr b off=>match wDM h b with
   | some l=>okV h (wHl (sub l off n))
   | none=>none
  | _=>none
def wPO (n:Nat) (x:AOd) (y:AOd) (σ:Tr AV) (h:AH):Option (AV × AH):=match evA σ x with
  | .ptr b off=>match nB (len (evA σ y).cells) n && wPs (evA σ y).cells with
   | true=>match setAt h b off (evA σ y).cells with
    | some h'=>some (u,h')
    | none=>none
   | false=>none
  | _=>none
def wGf (x:AOd) (σ:Tr AV) (h:AH):Option (AV × AH):=match evA σ x with
  | .ptr b off=>some (.ptr b off,h)
  | .fn f fi ca=>some (.fn f fi ca,h)
  | .yld b=>some (.yld b,h)
  | _=>none
def wMb (x:AOd) (y:AOd) (σ:Tr AV) (h:AH):Option (AV × AH):=okV h (wJi Int.add (evA σ x) (evA σ y))
def wMc (x:AOd) (y:AOd) (σ:Tr AV) (h:AH):Option (AV × AH):=okV h (wJi Int.sub (evA σ x) (evA σ y))
def wMd (x:AOd) (y:AOd) (σ:Tr AV) (h:AH):Option (AV × AH):=okV h (wJi Int.mul (evA σ x) (evA σ y))
def wMe (x:AOd) (y:AOd) (σ:Tr AV) (h:AH):Option (AV × AH):=okV h (div Int.tdiv (evA σ x) (evA σ y))
def wMf (x:AOd) (y:AOd) (σ:Tr AV) (h:AH):Option (AV × AH):=okV h (div Int.tmod (evA σ x) (evA σ y))
def wMg (x:AOd) (y:AOd) (σ:Tr AV) (h:AH):Option (AV × AH):=okV h (wOc zlt (evA σ x) (evA σ y))
def wMh (x:AOd) (y:AOd) (σ:Tr AV) (h:AH):Option (AV × AH):=okV h (wOc zle (evA σ x) (evA σ y))
def wMi (x:AOd) (y:AOd) (σ:Tr AV) (h:AH):Option (AV × AH):=okV h (wOc (fun a b=>zlt b a) (evA σ x) (evA σ y))
def wMj (x:AOd) (y:AOd) (σ:Tr AV) (h:AH):Option (AV × AH):=okV h (wOc (fun a b=>zle b a) (evA σ x) (evA σ y))
def wMk (x:AOd) (y:AOd) (σ:Tr AV) (h:AH):Option (AV × AH):=okV h (wOc zeq (evA σ x) (evA σ y))
def wMl (x:AOd) (y:AOd) (σ:Tr AV) (h:AH):Option (AV × AH):=okV h (wOc (fun a b=>!zeq a b) (evA σ x) (evA σ y))
def wJj (ne:Bool) (x:AOd) (y:AOd) (σ:Tr AV) (h:AH):Option (AV × AH):=match evA σ x,evA σ y with
  | .bool a,.bool b=>some (.bool (ne != (a == b)),h)
  | _,_=>none
def wJk (k:Nat) (ne:Bool) (x:AOd) (y:AOd) (σ:Tr AV) (h:AH):Option (AV × AH):=match wLT k (evA σ x) (evA σ y) with
  | some b=>some (.bool (ne != b),h)
  | none=>none
def wJl (ne:Bool) (s:Sh) (x:AOd) (y:AOd) (σ:Tr AV) (h:AH):Option (AV × AH):=match wOe s (evA σ x) (evA σ y) with
  | some b=>some (.bool (ne != b),h)
  | none=>none
def wMm (x:AOd) (σ:Tr AV) (h:AH):Option (AV × AH):=okV h (wJi Int.sub (match evA σ x with | .int k _=>.int k 0 | _=>u) (evA σ x))
def wJm (x:AOd) (σ:Tr AV) (h:AH):Option (AV × AH):=match evA σ x with
  | .bool b=>some (.bool (!b),h)
  | _=>none
def wJn (k:IntKind) (x:AOd) (σ:Tr AV) (h:AH):Option (AV × AH):=match evA σ x with
  | .int _ n=>ifO (inK k n) (some (.int k n,h))
  | _=>none
def wLX (f:Pos) (fi:List AOd) (ca:List AOd) (σ:Tr AV) (h:AH):Option (AV × AH):=some (.fn f (evs σ fi) (evs σ ca),h)
def wPu  (σ:Tr AV) (h:AH):Option (AV × AH):=some (.map h.nx,h.push .map0)
def wGg (T:Nat) (sz:Nat) (by_:Nat) (z:List AV) (x:AOd) (y:AOd) (σ:Tr AV) (h:AH):Option (AV × AH):=match wGc (evA σ x),wGc (evA σ y) with
  | some l,some c=>ifO (nK l c && nK (c * sz) 16777216 && nK (by_ * c) 281474976710656 && nK c 16777216) (some (.sl h.nx 0 l c,h.push (.cells T (rep c z))))
  | _,_=>none
def wJo (sz:Nat) (x:AOd) (lo:Option AOd) (hi:Option AOd) (mx:Option AOd) (σ:Tr AV) (h:AH):Option (AV × AH):=match bnd σ lo,bnd σ hi,bnd σ mx with
  | some l,some hh,some m=>okV h (wRZ sz (evA σ x) (orD l 0) hh m)
  | _,_,_=>none
def wGh (sz:Nat) (n:Nat) (x:AOd) (lo:Option AOd) (hi:Option AOd) (σ:Tr AV) (h:AH):Option (AV × AH):=match bnd σ lo,bnd σ hi,evA σ x with
  | some l,some hh,.ptr b off=>okV h (wRZ sz (.sl b off n n) (orD l 0) hh none)
  | _,_,_=>none
def wJp (off:Nat) (x:AOd) (σ:Tr AV) (h:AH):Option (AV × AH):=match evA σ x with
  | .ptr b o=>some (.ptr b (o + off),h)
  | _=>none
def wJq (off:Nat) (x:AOd) (σ:Tr AV) (h:AH):Option (AV × AH):=match evA σ x with
  | .agg l=>okV h (nth l off)
  | _=>none
def wGi (off:Nat) (n:Nat) (x:AOd) (σ:Tr AV) (h:AH):Option (AV × AH):=match evA σ x with
  | .agg l=>okV h (wHl (sub l off n))
  | _=>none
def wJr (sz:Nat) (x:AOd) (y:AOd) (σ:Tr AV) (h:AH):Option (AV × AH):=match evA σ x,wGc (evA σ y) with
  | .sl b off n _,some i=>ifO (nG i n) (some (.ptr b (off + i * sz),h))
  | .rw b _ co n,some i=>ifO (nG i n) (some (.ptr b (co + i * sz),h))
  | _,_=>none
def wGj (sz:Nat) (n:Nat) (x:AOd) (y:AOd) (σ:Tr AV) (h:AH):Option (AV × AH):=match evA σ x,wGc (evA σ y) with
  | .ptr b off,some i=>ifO (nG i n) (some (.ptr b (off + i * sz),h))
  | _,_=>none
def wPv (n:Nat) (x:AOd) (y:AOd) (σ:Tr AV) (h:AH):Option (AV × AH):=match evA σ x,wGc (evA σ y) with
  | .agg l,some i=>ifO (nG i n) (okV h (nth l i))
  | _,_=>none
def wJs (sz:Nat) (n:Nat) (x:AOd) (y:AOd) (σ:Tr AV) (h:AH):Option (AV × AH):=match evA σ x,wGc (evA σ y) with
  | .agg l,some i=>ifO (nG i n) (okV h (wHl (sub l (i * sz) sz)))
  | _,_=>none
def wOT (two:Bool) (k:IntKind) (ok:Bool) (z:AV) (x:AOd) (y:AOd) (σ:Tr AV) (h:AH):Option (AV × AH):=match evA σ x with
  | .map b=>match h.m.get b with
   | some B=>match wGd two k B (evA σ y) with
    | some (some v)=>some (match ok with | true=>.tup [v,.bool true] | false=>v,h)
    | some none=>some (match ok with | true=>.tup [z,.bool false] | false=>z,h)
    | none=>none
   | none=>none
  | _=>none
def wFm (two:Bool) (k:IntKind) (x:AOd) (y:AOd) (z:AOd) (σ:Tr AV) (h:AH):Option (AV × AH):=match evA σ x with
  | .map b=>match h.m.get b with
   | some B=>match wOQ two k B (evA σ y) (evA σ z) with
    | some B'=>match h.put b B' with
     | some h'=>some (u,h')
     | none=>none
    | none=>none
   | none=>none
  | _=>none
def wFn (two:Bool) (k:IntKind) (x:AOd) (y:AOd) (σ:Tr AV) (h:AH):Option (AV × AH):=match evA σ x with
  | .map b=>match h.m.get b with
   | some B=>match wOR two k B (evA σ y) with
    | some B'=>match h.put b B' with
     | some h'=>some (u,h')
     | none=>none
    | none=>none
   | none=>none
  | _=>none
def wJt (i:Nat) (x:AOd) (σ:Tr AV) (h:AH):Option (AV × AH):=match evA σ x with
  | .tup l=>okV h (nth l i)
  | _=>none
def wMn (z:List AV) (ps:List (Nat × Nat × AOd)) (σ:Tr AV) (h:AH):Option (AV × AH):=okV h (wHl (wIL σ z ps))
def wEH (T:Nat) (n:Nat) (z:List AV) (ps:List (Nat × Nat × AOd)) (σ:Tr AV) (h:AH):Option (AV × AH):=match wIL σ z ps with
  | some l=>some (.sl h.nx 0 n n,h.push (.cells T l))
  | none=>none
def wJu (x:AOd) (σ:Tr AV) (h:AH):Option (AV × AH):=match evA σ x with
 | .snil=>some (.int .i64 0,h)
 | .sl _ _ n _=>some (.int .i64 (.ofNat n),h)
 | .rw _ _ _ n=>some (.int .i64 (.ofNat n),h)
 | .rz _ _=>some (.int .i64 0,h)
 | _=>none
def wEd (x:AOd) (σ:Tr AV) (h:AH):Option (AV × AH):=match evA σ x with
 | .mnil=>some (.int .i64 0,h)
 | .map b=>match h.m.get b with
  | some B=>match lenB B with
   | some n=>some (.int .i64 (.ofNat n),h)
   | none=>none
  | none=>none
 | _=>none
def wJv (x:AOd) (σ:Tr AV) (h:AH):Option (AV × AH):=match evA σ x with
  | .snil=>some (.int .i64 0,h)
  | .sl _ _ _ c=>some (.int .i64 (.ofNat c),h)
  | _=>none
def wIq (T:Nat) (sz:Nat) (by_:Nat) (x:AOd) (y:AOd) (σ:Tr AV) (h:AH):Option (AV × AH):=match slice h sz (evA σ y) with
  | some (m,news)=>ifO (wPs news) (app h T sz by_ m news (evA σ x))
  | none=>none
def wIr (sz:Nat) (x:AOd) (y:AOd) (σ:Tr AV) (h:AH):Option (AV × AH):=match evA σ x,slice h sz (evA σ y) with
  | .sl b off n _,some (m,news)=>match sub news 0 ((if nK m n then m else n) * sz) with
   | some vs=>ifO (wPs vs) (match setAt h b off vs with
    | some h'=>some (.int .i64 (.ofNat (if nK m n then m else n)),h')
    | none=>none)
   | none=>none
  | _,_=>none
def wIs (z:List AV) (x:AOd) (σ:Tr AV) (h:AH):Option (AV × AH):=match evA σ x with
  | .sl b off n _=>clr h z b off n
  | .rw b _ co n=>clr h z b co n
  | .rz _ _=>some (u,h)
  | .snil=>some (u,h)
  | _=>none
def wMo (x:AOd) (y:AOd) (σ:Tr AV) (h:AH):Option (AV × AH):=okV h (match evA σ x,evA σ y with
  | .int .i64 a,.int .i64 b=>some (.int .i64 (match zlt b a with | true=>b | false=>a))
  | _,_=>none)
def wMp (x:AOd) (y:AOd) (σ:Tr AV) (h:AH):Option (AV × AH):=okV h (match evA σ x,evA σ y with
  | .int .i64 a,.int .i64 b=>some (.int .i64 (match zlt a b with | true=>b | false=>a))
  | _,_=>none)
abbrev Run:=AC->Tr AV->AH->Option (Ex × Tr AV × AH)
def wLY:List AV->Pos->Tr AV->Tr AV
 | [],_,t=>t
 | v :: l,p,t=>wLY l p.succ (t.set p v)
def res1 (σ:Tr AV) (h:AH):AR->Option AV
 | .t p=>some (evA σ (.t p))
 | .c p n=>match evA σ (.t p) with
  | .ptr b off=>match wDM h b with
   | some l=>match n with
    | none=>nth l off
    | some n=>wHl (sub l off n)
   | none=>none
  | _=>none
def wRI (σ:Tr AV) (h:AH):List AR->Option (List AV)
 | []=>some []
 | r :: l=>match res1 σ h r with
  | some v=>match wRI σ h l with
   | some vs=>some (v :: vs)
   | none=>none
  | none=>none
def tupA:List AV->AV
 | [v]=>v
 | l=>.tup l
def wOU (σ:Tr AV) (h:AH) (l:List AR):Option (AV × AH):=match wRI σ h l with
 | some vs=>some (tupA vs,h)
 | none=>none
def wIt (tb:Tr AF) (ex:Run) (f:Pos) (args:List AV) (h:AH):Option (AV × AH):=match tb.get f with
 | some af=>match nK (len args) af.n with
  | true=>match ex af.body (wLY args .H .e) h with
   | some (.nrm,σ,h')=>wOU σ h' af.res
   | some (.ret,σ,h')=>wOU σ h' af.res
   | _=>none
  | false=>none
 | none=>none
def Ex.done:Ex->LS
 | .nrm=>.ready
 | e=>.done e
def Ex.go:Ex->Bool
 | .nrm=>true
 | _=>false
def wPw:Tr AV->List Pos->List AV->Option (Tr AV)
 | σ,[],[]=>some σ
 | σ,t :: ts,v :: vs=>wPw (σ.set t v) ts vs
 | _,_,_=>none
def wIu (ex:Run) (b:Pos) (args:List AV) (h:AH):Option (AV × AH):=match h.m.get b with
 | some (.loop σ t asg body .ready)=>match wPw σ t args with
  | none=>none
  | some σ0=>match ex asg σ0 h with
  | some (.nrm,σ1,h1)=>match h1.m.get b with
   | some (.loop _ _ _ _ .ready)=>match h1.put b (.loop σ t asg body .busy) with
    | some h2=>match ex body σ1 h2 with
     | some (e,_,h3)=>match h3.m.get b with
      | some (.loop _ _ _ _ .busy)=>match h3.put b (.loop σ t asg body e.done) with
       | some h4=>some (.bool e.go,h4)
       | none=>none
      | _=>none
     | none=>none
    | none=>none
   | _=>none
  | _=>none
 | _=>none
def wFo (x:AOd) (l:List AOd) (tb:Tr AF) (ex exY:Run) (σ:Tr AV) (h:AH):Option (AV × AH):=match evA σ x with
 | .fn f fi ca=>wIt tb ex f (fi ++ (evs σ l ++ ca)) h
 | .yld b=>wIu exY b (evs σ l) h
 | _=>none
def andI (k:IntKind) (a b:Int):Int:=k.wrap (BitVec.ofInt k.bits a &&& BitVec.ofInt k.bits b).toNat
def wMq (x:AOd) (y:AOd) (σ:Tr AV) (h:AH):Option (AV × AH):=okV h (match evA σ x,evA σ y with
 | .int k a,.int k' b=>match keq k k' with
  | true=>some (.int k (andI k a b))
  | false=>none
 | _,_=>none)
def wMr (x:AOd) (y:AOd) (σ:Tr AV) (h:AH):Option (AV × AH):=okV h (match evA σ x,evA σ y with
 | .int k a,.int _ (.ofNat b)=>some (.int k (a.fdiv (2 ^ min b k.bits)))
 | _,_=>none)
def wJw (l:List Nat) (y:AOd) (σ:Tr AV) (h:AH):Option (AV × AH):=match evA σ y with
 | .int _ (.ofNat i)=>okV h (match nth l i with
  | some b=>some (.int .u8 (.ofNat b))
  | none=>none)
 | _=>none
def wIv (T sz by_:Nat) (z:List AV) (x y:AOd) (σ:Tr AV) (h:AH):Option (AV × AH):=match evA σ x,wGc (evA σ y) with
 | .snil,some n=>match n with
  | 0=>some (.snil,h)
  | m + 1=>ifO (nK ((m + 1) * by_) 140737488355328) (some (.rw h.nx 0 0 (m + 1),h.push (.row T sz (rep (m + 1) z))))
 | _,_=>none
def wRa (_:Tr AV) (_:AH):Option (AV × AH):=none
def opY (op:AOp):Tr AF->Run->Run->Tr AV->AH->Option (AV × AH) :=
 AOp.rec (motive:=fun _=>Tr AF->Run->Run->Tr AV->AH->Option (AV × AH))
  (fun x _ _ _=>wRH x)
  (fun c x y _ _ _=>wGe c x y)
  (fun T z _ _ _=>wPt T z)
  (fun T x _ _ _=>wLW T x)
  (fun x _ _ _=>wOS x)
  (fun n x _ _ _=>wHW n x)
  (fun n x y _ _ _=>wPO n x y)
  (fun x _ _ _=>wGf x)
  (fun x y _ _ _=>wMb x y)
  (fun x y _ _ _=>wMc x y)
  (fun x y _ _ _=>wMd x y)
  (fun x y _ _ _=>wMe x y)
  (fun x y _ _ _=>wMf x y)
  (fun x y _ _ _=>wMg x y)
  (fun x y _ _ _=>wMh x y)
  (fun x y _ _ _=>wMi x y)
  (fun x y _ _ _=>wMj x y)
  (fun x y _ _ _=>wMk x y)
  (fun x y _ _ _=>wMl x y)
  (fun ne x y _ _ _=>wJj ne x y)
  (fun k ne x y _ _ _=>wJk k ne x y)
  (fun ne s x y _ _ _=>wJl ne s x y)
  (fun x _ _ _=>wMm x)
  (fun x _ _ _=>wJm x)
  (fun k x _ _ _=>wJn k x)
  (fun f fi ca _ _ _=>wLX f fi ca)
  (fun _ _ _=>wPu)
  (fun T sz bytes z x y _ _ _=>wGg T sz bytes z x y)
  (fun sz x lo hi mx _ _ _=>wJo sz x lo hi mx)
  (fun sz n x lo hi _ _ _=>wGh sz n x lo hi)
  (fun off x _ _ _=>wJp off x)
  (fun off x _ _ _=>wJq off x)
  (fun off n x _ _ _=>wGi off n x)
  (fun sz x y _ _ _=>wJr sz x y)
  (fun sz n x y _ _ _=>wGj sz n x y)
  (fun n x y _ _ _=>wPv n x y)
  (fun sz n x y _ _ _=>wJs sz n x y)
  (fun two k ok z x y _ _ _=>wOT two k ok z x y)
  (fun two k x y z _ _ _=>wFm two k x y z)
  (fun two k x y _ _ _=>wFn two k x y)
  (fun i x _ _ _=>wJt i x)
  (fun z ps _ _ _=>wMn z ps)
  (fun T len z ps _ _ _=>wEH T len z ps)
  (fun x _ _ _=>wJu x)
  (fun x _ _ _=>wEd x)
  (fun x _ _ _=>wJv x)
  (fun T sz bytes x y _ _ _=>wIq T sz bytes x y)
  (fun sz x y _ _ _=>wIr sz x y)
  (fun z x _ _ _=>wIs z x)
  (fun x y _ _ _=>wMo x y)
  (fun x y _ _ _=>wMp x y)
  wFo
  (fun _ _ _=>wRa)
  (fun x y _ _ _=>wMq x y)
  (fun x y _ _ _=>wMr x y)
  (fun l y _ _ _=>wJw l y)
  (fun T sz bytes z x y _ _ _=>wIv T sz bytes z x y) op
def wPP (op:AOp) (tb:Tr AF) (ex exY:Run) (σ:Tr AV) (h:AH):Option (AV × AH) :=
 match opY op tb ex exY σ ⟨h.m,h.nx,h.nx⟩ with
 | some (v,h')=>some (v,⟨h'.m,h'.nx,h.fl⟩)
 | none=>none
def opK (k:Nat) (op:AOp):Tr AF->Run->Run->Tr AV->AH->Option (AV × AH) :=
 nN (motive:=fun _=>Tr AF->Run->Run->Tr AV->AH->Option (AV × AH)) (opY op) (wPP op) (nB k 2)
def wFw (d:Option Pos) (σ:Tr AV) (v:AV):Tr AV:=nL (motive:=fun _=>Tr AV) σ (fun p=>σ.set p v) d
def isB (b:Bool) (v:AV):Bool:=match v with
 | .bool b'=>b' == b
 | _=>false
def wCf (σ:Tr AV) (g:Option (Pos × Bool)):Bool:=nL (motive:=fun _=>Bool) true (fun q=>isB q.2 (evA σ (.t q.1))) g
def goOn (d:Option Pos) (k:Tr AV->AH->Option (Tr AV × AH)) (σ:Tr AV) (r:AV × AH):Option (Tr AV × AH):=k (wFw d σ r.1) r.2
def wRb (o:AO) (k:Tr AV->AH->Option (Tr AV × AH)) (tb:Tr AF) (ex exY:Run) (σ:Tr AV) (h:AH):Option (Tr AV × AH) :=
 nL (motive:=fun _=>Option (Tr AV × AH)) none (goOn o.dst k σ) (opK o.kd o.op tb ex exY σ h)
def wAX (tb:Tr AF) (ex exY:Run) (l:List AO):Tr AV->AH->Option (Tr AV × AH) :=
 nT (motive:=fun _=>Tr AV->AH->Option (Tr AV × AH)) (fun σ h=>some (σ,h)) (fun o _ ih σ h =>
  nN (motive:=fun _=>Option (Tr AV × AH)) (ih (wFw o.dst σ u) h) (wRb o ih tb ex exY σ h) (wCf σ o.grd)) l
theorem wAt (tb:Tr AF) (ex exY:Run) (σ:Tr AV) (h:AH):wAX tb ex exY [] σ h=some (σ,h):=rfl
theorem wAw (tb:Tr AF) (ex exY:Run) (o:AO) (os:List AO) (σ:Tr AV) (h:AH):wAX tb ex exY (o :: os) σ h=(match wCf σ o.grd with
  | true=>match opK o.kd o.op tb ex exY σ h with
   | some r=>wAX tb ex exY os (wFw o.dst σ r.1) r.2
   | none=>none
  | false=>wAX tb ex exY os (wFw o.dst σ u) h):=by
 show nN (motive:=fun _=>Option (Tr AV × AH)) _ (nL (motive:=fun _=>Option (Tr AV × AH)) none _ (opK o.kd o.op tb ex exY σ h)) (wCf σ o.grd)=_
 cases wCf σ o.grd
 ·rfl
 ·cases opK o.kd o.op tb ex exY σ h <;> rfl
mutual
def same:AV->AV->Bool
 | .int k n,.int k' n'=>keq k k' && zeq n n'
 | .bool a,.bool b=>a == b
 | .ptr b o,.ptr b' o'=>b.beq b' && nB o o'
 | .pnil,.pnil=>true
 | .sl b o n c,.sl b' o' n' c'=>b.beq b' && (nB o o' && (nB n n' && nB c c'))
 | .rw b eo co n,.rw b' eo' co' n'=>b.beq b' && (nB eo eo' && (nB co co' && nB n n'))
 | .snil,.snil=>true
 | .map b,.map b'=>b.beq b'
 | .mnil,.mnil=>true
 | .fn f fi ca,.fn f' fi' ca'=>f.beq f' && (wGk fi fi' && wGk ca ca')
 | .fnil,.fnil=>true
 | .agg l,.agg l'=>wGk l l'
 | .tup l,.tup l'=>wGk l l'
 | _,_=>false
def wGk:List AV->List AV->Bool
 | [],[]=>true
 | a :: l,b :: k=>same a b && wGk l k
 | _,_=>false
end
def wCH (k:Nat):Bool:=nB k 0 || nB k 2
def wHm (tb:Tr AF) (ex exY:Run) (σf:Tr AV) (h:AH) (a:AO):Bool:=match a.dst with
 | some p=>match wCf σf a.grd with
  | false=>true
  | true=>match opY a.op tb ex exY σf h with
   | some (v,_)=>same v (evA σf (.t p))
   | none=>false
 | none=>true
def wJW (tb:Tr AF) (ex exY:Run) (σf:Tr AV) (h:AH) (n:Nat) (l:List AO):Bool :=
 nT (motive:=fun _=>Nat->Bool) (fun _=>true) (fun a _ ih n=>nN (motive:=fun _=>Bool) (nN (motive:=fun _=>Bool) (ih n) (nN (motive:=fun _=>Bool) false (ih n) (wHm tb ex exY σf h a)) (nG (n + 8) a.kd)) (ih (Nat.succ n)) (wCH a.kd)) l n
theorem wEI (tb:Tr AF) (ex exY:Run) (σf:Tr AV) (h:AH) (n:Nat) (a:AO) (t:List AO):wJW tb ex exY σf h n (a :: t)=(match wCH a.kd with
  | true=>wJW tb ex exY σf h (n + 1) t
  | false=>(match nG (n + 8) a.kd with
   | true=>wHm tb ex exY σf h a
   | false=>true) && wJW tb ex exY σf h n t):=by
 show nN (motive:=fun _=>Bool) (nN (motive:=fun _=>Bool) (wJW tb ex exY σf h n t) (nN (motive:=fun _=>Bool) false (wJW tb ex exY σf h n t) (wHm tb ex exY σf h a)) (nG (n + 8) a.kd)) (wJW tb ex exY σf h (n + 1) t) (wCH a.kd)=_
 cases wCH a.kd
 ·cases nG (n + 8) a.kd
  ·rfl
  ·cases wHm tb ex exY σf h a <;> rfl
 ·rfl
def wPx (tb:Tr AF) (ex exY:Run) (o:AO) (σ:Tr AV) (h:AH):Option (Tr AV × AH):=match wCf σ o.grd with
 | true=>match opK o.kd o.op tb ex exY σ h with
  | some r=>some (wFw o.dst σ r.1,r.2)
  | none=>none
 | false=>some (wFw o.dst σ u,h)
def wMs (tb:Tr AF) (ex exY:Run) (l:List AO):Tr AV->AH->Option (Tr AV × AH) :=
 nT (motive:=fun _=>Tr AV->AH->Option (Tr AV × AH)) (fun σ h=>some (σ,h)) (fun o os ih σ h =>
  nL (motive:=fun _=>Option (Tr AV × AH)) none (fun r=>nN (motive:=fun _=>Option (Tr AV × AH)) (some r) (nN (motive:=fun _=>Option (Tr AV × AH)) none (some r) (wJW tb ex exY r.1 h 0 os)) (nB o.kd 0))
   (nN (motive:=fun _=>Option (Tr AV × AH)) (ih (wFw o.dst σ u) h) (wRb o ih tb ex exY σ h) (wCf σ o.grd))) l
theorem wOf (tb:Tr AF) (ex exY:Run) (σ:Tr AV) (h:AH):wMs tb ex exY [] σ h=some (σ,h):=rfl
theorem wMt (tb:Tr AF) (ex exY:Run) (o:AO) (os:List AO) (σ:Tr AV) (h:AH):wMs tb ex exY (o :: os) σ h=(match wPx tb ex exY o σ h with
  | none=>none
  | some q=>match wMs tb ex exY os q.1 q.2 with
   | none=>none
   | some r=>match nB o.kd 0 with
    | true=>match wJW tb ex exY r.1 h 0 os with
     | true=>some r
     | false=>none
    | false=>some r):=by
 show nL (motive:=fun _=>Option (Tr AV × AH)) none (fun r=>nN (motive:=fun _=>Option (Tr AV × AH)) (some r) (nN (motive:=fun _=>Option (Tr AV × AH)) none (some r) (wJW tb ex exY r.1 h 0 os)) (nB o.kd 0))
   (nN (motive:=fun _=>Option (Tr AV × AH)) (wMs tb ex exY os (wFw o.dst σ u) h) (nL (motive:=fun _=>Option (Tr AV × AH)) none (fun r=>wMs tb ex exY os (wFw o.dst σ r.1) r.2) (opK o.kd o.op tb ex exY σ h)) (wCf σ o.grd))=_
 unfold wPx
 cases wCf σ o.grd
 ·simp only
  cases wMs tb ex exY os (wFw o.dst σ u) h with
  | none=>rfl
  | some r =>
   simp only
   cases nB o.kd 0
   ·rfl
   ·cases wJW tb ex exY r.1 h 0 os <;> rfl
 ·cases opK o.kd o.op tb ex exY σ h with
  | none=>rfl
  | some q =>
   simp only
   cases wMs tb ex exY os (wFw o.dst σ q.1) q.2 with
   | none=>rfl
   | some r =>
    simp only
    cases nB o.kd 0
    ·rfl
    ·cases wJW tb ex exY r.1 h 0 os <;> rfl
abbrev R:=Option (Ex × Tr AV × AH)
def sNrm (σ:Tr AV) (h:AH):R:=some (.nrm,σ,h)
def sRg (l:List AO) (tb:Tr AF) (ex exY exR:Run) (σ:Tr AV) (h:AH):R :=
 nL (motive:=fun _=>R) none (fun r=>some (.nrm,r.1,r.2)) (wAX tb ex exY l σ h)
def sRl (l:List AO) (tb:Tr AF) (ex exY:Run) (σ:Tr AV) (h:AH):R :=
 nL (motive:=fun _=>R) none (fun r=>some (.nrm,r.1,r.2)) (wMs tb ex exY l σ h)
theorem wPQ (l:List AO) (tb:Tr AF) (ex exY:Run) (σ:Tr AV) (h:AH):sRl l tb ex exY σ h=(match wMs tb ex exY l σ h with
  | some r=>some (.nrm,r.1,r.2)
  | none=>none):=by
 unfold sRl
 cases wMs tb ex exY l σ h <;> rfl
def seqK (b:AC) (exR:Run) (r:Ex × Tr AV × AH):R:=Ex.rec (motive:=fun _=>Tr AV->AH->R) (fun σ h=>exR b σ h) (fun i σ h=>some (.exit i,σ,h)) (fun σ h=>some (.ret,σ,h)) r.1 r.2.1 r.2.2
def wRc (a b:AC) (exR:Run) (σ:Tr AV) (h:AH):R:=nL (motive:=fun _=>R) none (seqK b exR) (exR a σ h)
def wMu (c:AOd) (a b:AC) (exR:Run) (σ:Tr AV) (h:AH):R:=match evA σ c with
 | .bool true=>exR a σ h
 | .bool false=>exR b σ h
 | _=>none
def wPR (i:Nat) (r:Ex × Tr AV × AH):R:=Ex.rec (motive:=fun _=>Tr AV->AH->R) (fun σ h=>some (.nrm,σ,h))
 (fun j σ h=>nN (motive:=fun _=>R) (some (.exit j,σ,h)) (some (.nrm,σ,h)) (nB j i)) (fun σ h=>some (.ret,σ,h)) r.1 r.2.1 r.2.2
def wKi (i:Nat) (a:AC) (exR:Run) (σ:Tr AV) (h:AH):R:=nL (motive:=fun _=>R) none (wPR i) (exR a σ h)
def wMv (a:AC) (exR:Run) (σ:Tr AV) (h:AH):R:=nL (motive:=fun _=>R) none (seqK (.loop a) exR) (exR a σ h)
def sRf (f:Bool) (g:AOd) (t:List Pos) (asg body:AC) (tb:Tr AF) (ex:Run) (σ:Tr AV) (h:AH):R:=match f,evA σ g with
 | true,.fn f fi ca=>match wIt tb ex f (fi ++ (.yld h.nx :: ca)) (h.push (.loop σ t asg body .ready)) with
  | some (_,h2)=>match h2.m.get h.nx with
   | some (.loop _ _ _ _ .ready)=>match h2.put h.nx .dead with
    | some h3=>some (.nrm,σ,h3)
    | none=>none
   | some (.loop _ _ _ _ (.done e))=>match h2.put h.nx .dead with
    | some h3=>some (e,σ,h3)
    | none=>none
   | _=>none
  | none=>none
 | _,_=>none
def step (c:AC):Bool->Tr AF->Run->Run->Run->Tr AV->AH->R :=
 AC.rec (motive:=fun _=>Bool->Tr AF->Run->Run->Run->Tr AV->AH->R)
  (fun _ _ _ _ _=>sNrm)
  (fun l _ tb ex exY exR=>sRg l tb ex exY exR)
  (fun a b _ _ _ _ _ _ exR=>wRc a b exR)
  (fun c a b _ _ _ _ _ _ exR=>wMu c a b exR)
  (fun i a _ _ _ _ _ exR=>wKi i a exR)
  (fun a _ _ _ _ _ exR=>wMv a exR)
  (fun g t asg body _ _ f tb ex _ _=>sRf f g t asg body tb ex)
  (fun i _ _ _ _ _ σ h=>some (.exit i,σ,h))
  (fun a _ _ _ _ _ exR=>exR a)
  (fun _ _ _ _ _ σ h=>some (.ret,σ,h))
  (fun l _ tb ex exY _=>sRl l tb ex exY) c
def exec (tb:Tr AF) (n:Nat):Bool->Run :=
 nv (motive:=fun _=>Bool->Run) (fun _ _ _ _=>none) (fun _ ih r c=>step c (!r) tb (ih false) (ih true) (ih r)) n
theorem wIw (tb:Tr AF) (n:Nat) (r:Bool) (c:AC):exec tb (n + 1) r c=step c (!r) tb (exec tb n false) (exec tb n true) (exec tb n r):=rfl
end
end Go.KX
namespace Go.KX
open Go.RowKit Go.KL
def wOV (σ:Env):List Nat->List Value->Env
 | t :: ts,v :: vs=>wOV (upd σ t v) ts vs
 | _,_=>σ
theorem wMw {N:Nat}:∀ (ts:List Nat) (vs:List Value) {tmps:Array Value} {σ:Env},(∀ t ∈ ts,t < N)->Rep N [] { tmps:=tmps,defers:=[] } σ ->
  Rep N [] { tmps:=(ts.zip vs).foldl (fun tmps (x:Nat × Value)=>tmps.setIfInBounds x.1 x.2) tmps,defers:=[] } (wOV σ ts vs)
 | [],vs,tmps,σ,_,h=>by simpa [wOV] using h
 | _ :: _,[],tmps,σ,_,h=>by simpa [wOV] using h
 | t :: ts,v :: vs,tmps,σ,ht,h=>by
  have h':=h.put (ht t (by simp)) v
  have:=wMw ts vs (tmps:=tmps.setIfInBounds t v) (σ:=upd σ t v) (fun x hx=>ht x (by simp [hx])) (by simpa [Act.put] using h')
  simpa [wOV] using this
def LoopAt (w:World) (l N:Nat) (σ:Env) (t:List Nat) (assign body:Code) (rb:Nat) (fn:FuncId) (s:LoopState) (pend:Option Code):Prop :=
 ∃ a D,Rep N D a σ/\w.heap[l]?=some (.loop { state:=s,pending:=pend,fn,tmps:=a.tmps,params:=t.toArray,assign,body,defers:=rb })
def Yd (P:Program) (l:Nat) (v:List Value) (w:World) (R:Bool->World->Prop):Prop :=
 ∃ lr:Loop,w.heap[l]?=some (.loop lr)/\lr.params.size=v.length /\
  RoundIn (WF none) 0 P l lr.fn ((lr.params.zip v.toArray).foldl (fun tmps (t,a)=>tmps.setIfInBounds t a) lr.tmps) lr.assign lr.body w (fun e w'=>∃ b,e=.returned (.bool b)/\R b w')
theorem LoopAt.lt {w:World} {l N:Nat} {σ:Env} {t:List Nat} {assign body:Code} {rb:Nat} {fn:FuncId} {s:LoopState} {pend:Option Code} (h:LoopAt w l N σ t assign body rb fn s pend):l < w.heap.size:=by
 obtain ⟨a,D,_,h⟩:=h
 rcases nf l w.heap.size with hlt | hge
 ·exact hlt
 ·rw [nl hge] at h;cases h
theorem LoopAt.keep {w w':World} {l N:Nat} {σ:Env} {t:List Nat} {assign body:Code} {rb:Nat} {fn:FuncId} {s:LoopState} {pend:Option Code} {X:Nat->Prop} (h:LoopAt w l N σ t assign body rb fn s pend) (k:Keep w w' X) (hx:¬ X l):LoopAt w' l N σ t assign body rb fn s pend:=by
 have hl:=h.lt
 obtain ⟨a,D,hr,h⟩:=h
 exact ⟨a,D,hr,(k.block l hl hx).trans h⟩
section
variable {N:Nat} {P:Program} {Q:wCp} {D:List Deferred} {σ:Env} {w:World}
def wMx (P:Program) (l N:Nat) (σ:Env) (t:List Nat) (assign body:Code) (rb:Nat) (fn:FuncId) (R:Bool->World->Prop):wCp:=fun _ e _ w =>
 match e with
 | .normal=>LoopAt w l N σ t assign body rb fn .busy none/\∀ w',LoopAt w' l N σ t assign body rb fn .ready none->Keep w w' (·=l)->w'.heap.size=w.heap.size->R true w'
 | .ret=>LoopAt w l N σ t assign body rb fn .busy none/\∀ w',LoopAt w' l N σ t assign body rb fn .done (some .ret)->Keep w w' (·=l)->w'.heap.size=w.heap.size->R false w'
 | .exit i=>LoopAt w l N σ t assign body rb fn .busy none/\∀ w',LoopAt w' l N σ t assign body rb fn .done (some (.exit i))->Keep w w' (·=l)->w'.heap.size=w.heap.size->R false w'
 | _=>False
theorem Yd.of {l:Nat} {t:List Nat} {assign body:Code} {rb:Nat} {fn:FuncId} {v:List Value} {R:Bool->World->Prop} (hl:LoopAt w l N σ t assign body rb fn .ready none) (ht:∀ x ∈ t,x < N) (hlen:t.length=v.length)
  (h:∀ σ0,(∀ i,σ0 i=wOV σ t v i)->CK (some l) N P assign (fun D' e σ' w1=>e=.normal/\D'=[]/\LoopAt w1 l N σ t assign body rb fn .ready none /\
   ∀ w2,LoopAt w2 l N σ t assign body rb fn .busy none->Keep w1 w2 (·=l)->w2.heap.size=w1.heap.size->CK (some l) N P body (wMx P l N σ t assign body rb fn R) [] σ' w2) [] σ0 w):Yd P l v w R:=by
 obtain ⟨a,D,hr,hh⟩:=hl
 refine ⟨_,hh,by simpa using hlen,?_⟩
 refine roundIn_of_wpIn (F:=WF none) trivial ?_
 have hrep:Rep N [] { tmps:=((t.toArray.zip v.toArray).foldl (fun tmps (x:Nat × Value)=>tmps.setIfInBounds x.1 x.2) a.tmps),defers:=[] } (wOV σ t v):=by
  have:=wMw t v ht (show Rep N [] { tmps:=a.tmps,defers:=[] } σ from ⟨hr.size,rfl,hr.get⟩)
  simpa using this
 refine wpIn_mono (h _ (fun _=>rfl) _ hrep) ?_
 rintro e a1 w1 ⟨σ',D',hr1,rfl,rfl,hl1,hb⟩
 obtain ⟨a2,D2,hr2,hh2⟩:=hl1
 have hlt:l < w1.heap.size:=LoopAt.lt ⟨a2,D2,hr2,hh2⟩
 refine ⟨_,run_beginRound hh2 rfl,?_⟩
 have hl2:LoopAt (w1.putObj l (.loop { state:=.busy,pending:=none,fn,tmps:=a2.tmps,params:=t.toArray,assign,body,defers:=rb })) l N σ t assign body rb fn .busy none:=⟨a2,D2,hr2,World.putObj_heap_same hlt⟩
 refine wpIn_mono (hb _ hl2 (wCF _ _ _) (by simp) a1 hr1) ?_
 rintro e a3 w3 ⟨σ3,D3,hr3,q⟩
 have fin:∀ (jump:Option Code) (b:Bool),b=jump.isNone->LoopAt w3 l N σ t assign body rb fn .busy none ->
   (∀ w',LoopAt w' l N σ t assign body rb fn (if jump.isNone then .ready else .done) jump->Keep w3 w' (·=l)->w'.heap.size=w3.heap.size->R b w') ->
   ∃ v w',(Instr.endRound l jump).run P w3=.ok v w'/\∃ b,Ending.returned v=.returned (.bool b)/\R b w':=by
  rintro jump b rfl ⟨a4,D4,hr4,hh4⟩ hR
  have hlt3:l < w3.heap.size:=LoopAt.lt ⟨a4,D4,hr4,hh4⟩
  exact ⟨_,_,run_endRound jump hh4,_,rfl,hR _ ⟨a4,D4,hr4,World.putObj_heap_same hlt3⟩ (wCF _ _ _) (by simp)⟩
 cases e with
 | normal=>exact fin none true rfl q.1 q.2
 | ret=>exact fin (some .ret) false rfl q.1 q.2
 | exit i=>exact fin (some (.exit i)) false rfl q.1 q.2
 | goto i=>exact q.elim
 | panic c=>exact q.elim
 | outgrown=>exact q.elim
def wKj (rb:Nat):Deferred:={ target:=.collected rb,args:=#[] }
theorem CK.rangeFunc {g:Operand} {t:List Nat} {assign body:Code} {f:FuncId} {fl cl:List Value} (hx:ev σ g=.func (.func f) fl.toArray cl.toArray)
  (hcall:∀ (args:Array Value) (w:World),(callFunc f args).run P w=.ok (.enter f args) w)
  (h:∀ fn l rb w1,rb=w.heap.size->l=w.heap.size + 1->LoopAt w1 l N σ t assign body rb fn .ready none->w1.heap[rb]?=some (.deferred (some []))->Keep w w1 Non->w1.heap.size=w.heap.size + 2 ->
   Gv P f (fl ++ [.func (.yield l) #[] #[]] ++ cl) w1 (fun _ w3 =>
    (LoopAt w3 l N σ t assign body rb fn .ready none/\∀ w4,Keep w3 w4 (·=l)->w4.heap.size=w3.heap.size->Q (wKj rb :: D) .normal σ w4) \/
    (∃ e,(e=Exit.ret \/ ∃ i,e=.exit i)/\LoopAt w3 l N σ t assign body rb fn .done (match e with | .ret=>some .ret | .exit i=>some (.exit i) | _=>none)/\∀ w4,Keep w3 w4 (·=l)->w4.heap.size=w3.heap.size->Q (wKj rb :: D) e σ w4))) :
  CK none N P (.rangeFunc g t.toArray assign body) Q D σ w:=by
 intro a ha
 refine wpIn_rangeFunc (F:=WF none) fun fn _=>?_
 have hl:LoopAt ((w.alloc (.deferred (some []))).alloc (.loop { state:=.ready,pending:=none,fn,tmps:=a.tmps,params:=t.toArray,assign,body,defers:=w.heap.size })) (w.heap.size + 1) N σ t assign body w.heap.size fn .ready none:=by
  refine ⟨a,D,ha,?_⟩
  have:=heap_alloc_new (w.alloc (.deferred (some []))) (.loop { state:=.ready,pending:=none,fn,tmps:=a.tmps,params:=t.toArray,assign,body,defers:=w.heap.size })
  rwa [World.size_alloc] at this
 have hd:((w.alloc (.deferred (some []))).alloc (.loop { state:=.ready,pending:=none,fn,tmps:=a.tmps,params:=t.toArray,assign,body,defers:=w.heap.size })).heap[w.heap.size]?=some (.deferred (some [])):=by
  rw [Below.heap_alloc _ _ _ (by simp)]
  exact heap_alloc_new w _
 have hG:=h fn _ _ _ rfl rfl hl hd ((wAy w _).non (wAy _ _)) (by simp)
 generalize hW:(w.alloc (.deferred (some []))).alloc (.loop { state:=.ready,pending:=none,fn,tmps:=a.tmps,params:=t.toArray,assign,body,defers:=w.heap.size })=W1 at hl hd hG
 refine ⟨w.heap.size + 1,[{ target:=.collected w.heap.size,args:=#[] }],W1,{ target:=.fn (.func f) cl.toArray,args:=(fl ++ [km (.yield (w.heap.size + 1)) #[] #[]]).toArray },W1,f,(fl ++ [km (.yield (w.heap.size + 1)) #[] #[]] ++ cl).toArray,W1,hW ▸ run_enterLoop_outer fn a.tmps t.toArray assign body,?_,fun _ _=>trivial,?_,fun h=>(by cases h),?_⟩
 ·have he:a.eval g=.func (.func f) fl.toArray cl.toArray:=by rw [ha.eval];exact hx
  have hc:a.eval (.const (.func (.yield (w.heap.size + 1)) #[] #[]))=.func (.yield (w.heap.size + 1)) #[] #[]:=rfl
  simp [resolve,rangeCall,he,hc,Deferred.ofValue]
 ·simp [invoke,hcall]
 ·refine CallsIn.mono (hG.callsIn none) ?_
  rintro e w3 ⟨v,rfl,hv⟩
  have hrep:Rep N (wKj w.heap.size :: D) { a with defers:=[{ target:=.collected w.heap.size,args:=#[] }] ++ a.defers } σ:=⟨ha.size,by rw [<- ha.defers];rfl,ha.get⟩
  rcases hv with ⟨hl3,hQ⟩ | ⟨e,he,hl3,hQ⟩
  ·obtain ⟨a3,D3,hr3,hh3⟩:=hl3
   exact ⟨none,_,run_endLoop hh3 (by simp),σ,_,hrep,hQ _ (wCF _ _ _) (by simp)⟩
  ·rcases he with rfl | ⟨i,rfl⟩
   ·obtain ⟨a3,D3,hr3,hh3⟩:=hl3
    exact ⟨some .ret,_,run_endLoop hh3 (by simp),wpIn_ret ⟨σ,_,hrep,hQ _ (wCF _ _ _) (by simp)⟩⟩
   ·obtain ⟨a3,D3,hr3,hh3⟩:=hl3
    exact ⟨some (.exit i),_,run_endLoop hh3 (by simp),wpIn_exit ⟨σ,_,hrep,hQ _ (wCF _ _ _) (by simp)⟩⟩
def Dfr (w:World) (rb:Nat):Prop:=w.heap[rb]?=some (.deferred (some []))
theorem Dfr.lt {w:World} {b:Nat} (h:Dfr w b):b < w.heap.size:=by
 rcases nf b w.heap.size with hlt | hge
 ·exact hlt
 ·unfold Dfr at h;rw [nl hge] at h;cases h
theorem Dfr.keep {w w':World} {b:Nat} {X:Nat->Prop} (h:Dfr w b) (k:Keep w w' X) (hx:¬ X b):Dfr w' b:=(k.block b h.lt hx).trans h
def retM (P:Program) (rs:Array ResultVar) (R:Value->World->Prop):wCp:=fun D e σ w =>
 match e with
 | .normal | .ret=>∃ rbs:List Nat,D=rbs.map wKj/\rbs.Nodup/\(∀ rb ∈ rbs,Dfr w rb)/\∀ w',Keep w w' (· ∈ rbs)->w'.heap.size=w.heap.size->∃ v,(wCY rs σ).run P w'=.ok v w'/\R v w'
 | _=>False
theorem Gv.ofM {f:FuncId} {fn:Func} {c:Code} {args:List Value} {R:Value->World->Prop} {rs:Array ResultVar}
  (hf:P.funcs[f]?=some fn) (hb:fn.body=some c) (hN:fn.ntmps=N) (hrs:fn.results=rs) (hle:args.length <= N)
  (h:CK none N P c (retM P rs R) [] (wPG args) w):Gv P f args w R:=by
 refine callsIn_wide.1 (callsIn_of_wp_marks hf hb trivial ?_ (n:=0))
 subst hN hrs
 refine wpIn_mono (h _ (wKc args _ hle)) ?_
 have fin:∀ (σ:Env) (a:Act) (tmps:Array Value),(results fn tmps=wCY fn.results σ)->∀ (rbs:List Nat) (w:World) (u:FrameMode),u=.returning->rbs.Nodup->(∀ rb ∈ rbs,Dfr w rb)->(∀ w',Keep w w' (· ∈ rbs)->w'.heap.size=w.heap.size->∃ v,(wCY fn.results σ).run P w'=.ok v w'/\R v w') ->
   LeavesInM Fence.wide 0 P fn tmps (fun e w'=>∃ v,e=.returned v/\R v w') (rbs.map wKj) u w:=by
  intro σ a tmps hres rbs
  induction rbs with
  | nil =>
   intro w u hu _ _ hR
   subst hu
   obtain ⟨v,hv,hRv⟩:=hR w (Keep.refl w _) rfl
   exact ⟨v,by rw [hres];exact hv,v,rfl,hRv⟩
  | cons rb rbs ih =>
   intro w u hu hn hd hR
   subst hu
   obtain ⟨hn1,hn2⟩:=List.nodup_cons.1 hn
   refine ⟨by simp,.inl ⟨rb,_,rfl,run_takeDeferred (hd rb (by simp)),ih _ _ rfl hn2 (fun x hx=>(hd x (by simp [hx])).keep (wCF w rb _) fun e=>hn1 (e ▸ hx)) fun w' K hs=>hR w' ?_ (by rw [hs];simp)⟩⟩
   exact ((wCF w rb _).weak fun i _ e=>by subst e;simp).step K fun i _ hi=>by simp [hi]
 rintro e a w ⟨σ,D,hr,q⟩
 cases e with
 | normal=>obtain ⟨rbs,rfl,h1,h2,h3⟩:=q;show LeavesInM _ _ _ _ _ _ a.defers _ _;rw [hr.defers];exact fin σ a _ (wFC hr fn) rbs w _ rfl h1 h2 h3
 | ret=>obtain ⟨rbs,rfl,h1,h2,h3⟩:=q;show LeavesInM _ _ _ _ _ _ a.defers _ _;rw [hr.defers];exact fin σ a _ (wFC hr fn) rbs w _ rfl h1 h2 h3
 | _=>exact q.elim
end
theorem Yd.rounds {P:Program} {σ:Env} {w:World} {o:Oper} {l:Nat} {x:Operand} {ys:Array Operand} {ty:Array TypeId} {v:List Value} {R:Bool->World->Prop} (ho:o.op=.call { callee:=.value x,args:=ys,argTypes:=ty })
  (hx:ev σ x=.func (.yield l) #[] #[]) (hy:ys.toList.map (ev σ)=v) (hY:Yd P l v w R):Rounds P σ w o fun v w'=>∃ b,v=.bool b/\R b w':=by
 subst hy
 obtain ⟨lr,h1,h2,h3⟩:=hY
 refine ⟨by rw [ho];rfl,l,lr.fn,_,lr.assign,lr.body,?_,h3.mono fun e w' ⟨b,e1,e2⟩=>⟨_,e1,b,rfl,e2⟩⟩
 have e:ys.map (ev σ)=(ys.toList.map (ev σ)).toArray:=by
  rw [<- kJ]
 have:=run_yield (P:=P) (args:=ys.map (ev σ)) h1 (by simpa using h2.symm)
 rw [<- e]
 simp [execOp,ho,resolve,hx,Deferred.ofValue,invoke,this]
end Go.KX
namespace Go.KL
open Go.RowKit
open Go.KX (LoopAt Yd wOV Dfr wMx retM)
section
variable {r:Option Nat} {N:Nat} {P:Program} {l:List Oper} {Q:wCp} {D:List Deferred} {ks:List Nat} {B:Base} {U:PHeap} {L:List Res} {σ:Env} {w:World} {i d:Nat} {o:Oper} {s:Sch} {X S E:Type} {ar:PHeap->X->List Value->Prop}
 {PY:S->PHeap->List Res->Prop} {PE:E->PHeap->List Res->Prop} {f:S->X->Option (S ⊕ E)}
end
end Go.KL
namespace Go.KL
open Go.RowKit
open Go.KX (LoopAt Yd wOV Dfr wMx retM)
section
variable {r:Option Nat} {N:Nat} {P:Program} {Q:wCp} {D:List Deferred} {B:Base} {U:PHeap} {L:List Res} {σ:Env} {w:World} {X S E:Type} {ar:PHeap->X->List Value->Prop}
 {PY:S->PHeap->List Res->Prop} {PE:E->PHeap->List Res->Prop} {f:S->X->Option (S ⊕ E)}
end
section
variable {N:Nat} {P:Program} {Q:wCp} {D:List Deferred} {l:List Oper} {ks:List Nat} {B:Base} {U:PHeap} {L:List Res} {σ:Env} {w:World} {o:Oper} {d i:Nat} {s:Sch}
theorem wRd (z:Array Value) (n:Nat):(Builtin.zeroCells z n).toList.length=n * z.size:=by simp [Builtin.zeroCells]
theorem OKS.append0 {α:Type} {t e sz j c2 bytes b:Nat} {A2:Option Addr} {inf:TypeInfo} {z:Value} {x y:Operand} {enc:α->List Value} {ys zs:List α}
  (ho:l[i]?=some o) (hd:o.dst=some d) (hN:nG d N=true) (hw:wanted l σ o=true) (hop:o.op=.call { callee:=.builtin .append,args:=#[x,y],argTypes:=#[t,t] })
  (ht:P.underlying t=some (.slice e)) (hi:P.info? e=some inf) (hz:inf.zero=some z) (hsize:inf.size=sz) (hzs:z.cells.size=sz) (hsz:nG 0 sz=true) (hby:inf.bytes=bytes) (hb0:nG 0 bytes=true)
  (hS:St B U L w) (hk:L[j]?=some (.row (some ⟨b,0,none⟩) 0 e sz [])) (hx:ev σ x=.slice (some ⟨b,0,none⟩) 0 0) (hy:ev σ y=.slice A2 ys.length c2)
  (hsrc:ys.length=0 \/ ∃ a,A2=some a/\∀ j u,(ys.flatMap enc)[j]?=some u->w.cell? (a.add j)=some u) (hel:∀ x,(enc x).length=sz)
  (happ:app bytes ([]:List α) ys=some zs)
  (k:∀ A' c' w',St B U (L.set j (.row A' c' e sz (zs.flatMap enc))) w'->OKS N P l Q D ks s (upd σ d (.slice A' zs.length c')) w'):OKS N P l Q D ks (.fx i s .stop) σ w:=by
 obtain ⟨e1,hb⟩:=wMN happ
 rw [kM] at e1
 subst zs
 subst hsize hby
 have hb0':0 < inf.bytes:=by simpa [nD] using hb0
 have hsz':0 < inf.size:=by simpa [nD] using hsz
 rw [na,kY] at hb
 by_cases hm:ys.length=0
 ·have:ys=[]:=nO hm
  subst this
  have hr:(Builtin.append_ #[t,t] o.type #[.slice (some ⟨b,0,none⟩) 0 0,.slice A2 0 c2]).run P w=.ok (.slice (some ⟨b,0,none⟩) 0 0) w:=by
   cases A2 <;> simp [Builtin.append_,run_underlying ht,sizeOf,typeInfo,hi,Builtin.lenOf,Builtin.firstCells,loadCells,loadCellsFrom,storeCells]
  refine OKS.v (v:=.slice (some ⟨b,0,none⟩) 0 0) (w':=w) ho hd hN hw ⟨by rw [hop];rfl,?_⟩ (.inr (Keep.refl w _)) (k _ _ _ (hS.set hk (Keep.refl w _) ?_ fun b hb=>.inl hb))
  ·simp only [na] at hy
   simp [execOp,hop,resolve,invoke,builtin,hx,hy,hr,Result.andThen]
  ·exact hS.at_ _ (nr hk)
 ·obtain ⟨a,rfl,ha⟩:=hsrc.resolve_left hm
  have hl:(ys.flatMap enc).length=ys.length * inf.size:=wAH hel ys
  have hys:ys.length <= ys.length * inf.bytes:=ni _ hb0'
  have hr:=run_append_grow (P:=P) w t o.type e inf z ht hi hz ⟨b,0,none⟩ 0 0 [] (by simp) (fun j v h=>by simp at h) a ys.length c2 (ys.flatMap enc) hl ha (by omega) (by omega) (growslice_fits (by omega) (by simpa using hb))
  have hG:=grownCap_ge w (0 + ys.length) 0 e
  have hG2:=grownCap_le_maxLen w (0 + ys.length) 0 e (by unfold maxLen;omega)
  generalize grownCap w (0 + ys.length) 0 e=G at hr hG hG2
  rw [kY] at hr hG
  have ec:(([]:List Value).toArray ++ (ys.flatMap enc).toArray ++ Builtin.zeroCells z.cells (G - ys.length))=(ys.flatMap enc ++ (Builtin.zeroCells z.cells (G - ys.length)).toList).toArray:=by
   apply nE
   simp
  rw [ec] at hr
  have kp:=(Keep.drew w).trans' (wAy w.drew (.cells (ys.flatMap enc ++ (Builtin.zeroCells z.cells (G - ys.length)).toList).toArray e))
  have zl:(Builtin.zeroCells z.cells (G - ys.length)).toList.length=(G - ys.length) * inf.size:=by rw [wRd,hzs]
  refine OKS.v (v:=.slice (some ⟨w.heap.size,0,none⟩) ys.length G) (w':=w.drew.alloc (.cells (ys.flatMap enc ++ (Builtin.zeroCells z.cells (G - ys.length)).toList).toArray e)) ho hd hN hw ⟨by rw [hop];rfl,?_⟩ (.inr kp) (k _ _ _ (hS.set hk (kp.weak fun x _ h=>h.elim) (.inr ⟨_,(ys.flatMap enc ++ (Builtin.zeroCells z.cells (G - ys.length)).toList).toArray,rfl,wDK w.drew _ e,?_,hG2,?_,?_⟩) fun b hb=>.inr ?_))
  ·simp [execOp,hop,resolve,invoke,builtin,hx,hy,hr,Result.andThen]
  ·rw [hl];exact nt _ hG
  ·simp only [kB,nV,zl,hl,<- ny]
   rw [show ys.length + (G - ys.length)=G by omega]
  ·simp
  ·have hb:w.heap.size=b:=Option.some.inj hb
   exact Nat.le_of_eq hb
end
end Go.KL
namespace Go.KL
open Go.RowKit
structure wMy (F:Int->Res) (b off:Nat):Prop where
 has:∀ x y c,(F x).has c->(F y).has c
 get:∀ (w:World) x,(F x).At w->w.cell? ⟨b,off,none⟩=some (.int .i64 x)
 put:∀ (P:Program) (w:World) (x y:Int),(F x).At w->∃ w',(storeCells ⟨b,off,none⟩ [.int .i64 y] 0).run P w=.ok () w'/\Keep w w' (fun c=>(F x).has c)/\(F y).At w'
theorem wMz {w:World} {P:Program} {c T sz b off:Nat} {cs:List Value} {v:Value} (h:RowAt w (some ⟨b,0,none⟩) c T sz cs) (ho:off < cs.length) (h1:one v=true):∃ w',(storeCells ⟨b,off,none⟩ [v] 0).run P w=.ok () w'/\Keep w w' (·=b)/\RowAt w' (some ⟨b,0,none⟩) c T sz (wCR cs off [v]):=by
 obtain ⟨cur,g1,g2,g3,g4,g5⟩:=RowAt.cells h
 have hB:Blk w b T cur.toList:=by unfold Blk;rw [g1]
 have hcl:cs.length <= cur.toList.length:=by rw [<- g5];simp;omega
 obtain ⟨w',h2,h3,h4,h5⟩:=wCJ (P:=P) (T:=T) off [v] 0 cur.toList w hB (by simp only [np,na];omega) (fun u hu=>by rw [kZ.1 hu];exact h1)
 refine ⟨w',h2,h4,.inr ⟨b,(wCR cur.toList (off + 0) [v]).toArray,rfl,h3,?_,g3,?_,?_⟩⟩
 ·rw [wBg];exact g2
 ·simp [wBg,g4]
 ·rw [wBg,kc]
  show (wCR cur.toList off [v]).take cs.length=_
  rw [wGW _ _ _ _ (by simp only [np,na];omega),g5]
theorem wDF (cs:List Value) (off:Nat) (v:Value):wCR cs off [v]=cs.set off v:=rfl
theorem wRe {b T off:Nat} {cs:List Value} (h:off < cs.length):wMy (fun x=>.blk b T (wCR cs off [.int .i64 x])) b off:=by
 refine ⟨fun _ _ _ h=>h,fun w x hw=>?_,fun P w x y hw=>?_⟩
 ·have hw:w.heap[b]?=some (.cells (wCR cs off [.int .i64 x]).toArray T (0,0)):=hw
  simp [World.cell?,hw,wDF,kC,h]
 ·have hB:Blk w b T (wCR cs off [.int .i64 x]):=hw
  obtain ⟨w',h2,h3,h4,h5⟩:=wCJ (P:=P) (T:=T) off [.int .i64 y] 0 (wCR cs off [.int .i64 x]) w hB (by rw [wBg];simp only [np,na];omega) (fun u hu=>by rw [kZ.1 hu];rfl)
  refine ⟨w',h2,h4.weak fun c _ e=>by rw [e];rfl,?_⟩
  have e:wCR (wCR cs off [.int .i64 x]) (off + 0) [.int .i64 y]=wCR cs off [.int .i64 y]:=by
   rw [wDF,wDF,wDF,kc,List.set_set]
  rw [e] at h3
  exact h3
theorem wIx {b c T off:Nat} {cs:List Value} (h:off < cs.length):wMy (fun x=>.row (some ⟨b,0,none⟩) c T 1 (wCR cs off [.int .i64 x])) b off:=by
 refine ⟨fun _ _ _ h=>h,fun w x hw=>?_,fun P w x y hw=>?_⟩
 ·obtain ⟨cur,g1,g2,g3,g4,g5⟩:=RowAt.cells hw
  have:cur[off]?=some (.int .i64 x):=by
   have e:(wCR cs off [.int .i64 x])[off]?=some (.int .i64 x):=by rw [wDF,List.getElem?_set_self h]
   rw [<- g5,kA] at e
   split at e
   ·simpa using e
   ·cases e
  simp [World.cell?,g1,this]
 ·obtain ⟨w',h1,h2,h3⟩:=wMz (P:=P) (v:=.int .i64 y) hw (by rw [wBg];exact h) rfl
  refine ⟨w',h1,h2.weak fun c _ e=>by rw [e];rfl,?_⟩
  have e:wCR (wCR cs off [.int .i64 x]) off [.int .i64 y]=wCR cs off [.int .i64 y]:=by
   rw [wDF,wDF,wDF,List.set_set]
  rw [e] at h3
  exact h3
section
variable {N:Nat} {P:Program} {Q:wCp} {D:List Deferred} {l:List Oper} {ks:List Nat} {B:Base} {U:PHeap} {L:List Res} {σ:Env} {w:World} {o:Oper} {d i:Nat} {s:Sch}
theorem St.ldV {t:TypeId} {x:Operand} {j b off:Nat} {F:Int->Res} {v:Int} (hF:wMy F b off) (hS:St B U L w) (hk:L[j]?=some (F v)) (hop:o.op=.load t x) (hx:ev σ x=.pointer (some ⟨b,off,none⟩)) (hag:∀ w,(isAgg t).run P w=.ok false w):wFu P σ w o (.int .i64 v) :=
 fun _ k=>Runs.ld hop hx hag (hF.get _ _ ((hS.grow k).at_ _ (nr hk)))
theorem OKS.stV {t:TypeId} {x y:Operand} {j b off:Nat} {F:Int->Res} {u v:Int} (hF:wMy F b off) (ho:l[i]?=some o) (hd:o.dst=none) (hw:wanted l σ o=true) (hop:o.op=.store t x y) (hS:St B U L w) (hk:L[j]?=some (F u))
  (hx:ev σ x=.pointer (some ⟨b,off,none⟩)) (hy:ev σ y=.int .i64 v) (hsz:∀ w,(sizeOf t).run P w=.ok 1 w) (hne:wIk (kOf ks i)=false)
  (k:∀ w',St B U (L.set j (F v)) w'->OKS N P l Q D ks s σ w'):OKS N P l Q D ks (.fx i s .stop) σ w:=by
 obtain ⟨w',h2,h3,h4⟩:=hF.put P w u v (hS.at_ _ (nr hk))
 refine OKS.u (w':=w') ho hd hw ⟨by rw [hop];rfl,?_⟩ (.inl hne) (k w' (hS.set hk h3 h4 fun b hb=>.inl (hF.has _ _ _ hb)))
 have hc:(nq .i64 v).cells=#[.int .i64 v]:=rfl
 simp [execOp,hop,Instr.storeAt,hx,hy,Instr.sureAddr,storeVar,hc,hsz,h2]
end
section
variable {B:Base} {U:PHeap} {L:List Res} {w:World}
theorem St.eqR (h:St B U L w) {j:Nat} {r r':Res} (hk:L[j]?=some r) (e:r=r'):St B U (L.set j r') w:=by
 subst e
 have:L.set j r=L:=by
  obtain ⟨hj,e⟩:=kH.1 hk
  rw [<- e];exact List.set_getElem_self hj
 rw [this];exact h
end
theorem wPS {f:Int->List Value} (hf:∀ x,f x=[.int .i64 x]) (m:List Int) (i:Nat) (x:Int):wCR (nU f m) i [.int .i64 x]=nU f (m.set i x):=by
 have e:∀ m:List Int,nU f m=m.map fun x=>.int .i64 x:=by
  intro m
  induction m with
  | nil=>rfl
  | cons a m ih=>rw [kf,ih,hf];rfl
 rw [wDF,e,e,List.map_set]
theorem wNA {f:Int->List Value} (hf:∀ x,f x=[.int .i64 x]) {A:Option Addr} {b c T i off:Nat} {m:List Int} (hA:A=some ⟨b,0,none⟩) (ho:off=i) (h:i < m.length):Res.row A c T 1 (nU f m)=Res.row (some ⟨b,0,none⟩) c T 1 (wCR (nU f m) off [.int .i64 (gd m i)]):=by
 subst hA ho
 rw [wPS hf]
 have:m.set off (gd m off)=m:=by
  refine kg fun k=>?_
  rw [kC]
  by_cases e:off=k
  ·subst e
   rw [if_pos rfl,if_pos h,wCi h]
  ·rw [if_neg e]
 rw [this]
theorem wIy {f:Int->List Value} (hf:∀ x,f x=[.int .i64 x]) {A:Option Addr} {b c T i off:Nat} {m:List Int} {x:Int} (hA:A=some ⟨b,0,none⟩) (ho:off=i):Res.row (some ⟨b,0,none⟩) c T 1 (wCR (nU f m) off [.int .i64 x])=Res.row A c T 1 (nU f (m.set i x)):=by
 subst hA ho
 rw [wPS hf]
theorem wIz {f:Int->List Value} (hf:∀ x,f x=[.int .i64 x]) (m:List Int):(nU f m).length=m.length:=by
 induction m with
 | nil=>rfl
 | cons a m ih=>rw [kf,nV,ih,hf];simp;omega
end Go.KL
namespace Go.KX
open Go.RowKit Go.KL
structure Gh where
 N:Nat
 σ:Env
 t:List Nat
 ac:Code
 bc:Code
 rb:Nat
 fn:FuncId
def g0:Gh:=⟨0,fun _=>undef,[],.skip,.skip,0,0⟩
structure Cl where
 b:Nat
 c:Nat
 g:Gh
abbrev Mu:=Pos->Option Cl
mutual
def Rv (μ:Mu):AV->Value->Prop
 | .int k n,v=>v=.int k n
 | .bool b,v=>v=.bool b
 | .ptr b off,v=>∃ c,μ b=some c/\v=.pointer (some ⟨c.1,off,none⟩)
 | .pnil,v=>v=.pointer none
 | .sl b off n c,v=>∃ d,μ b=some d/\n <= c/\v=.slice (some ⟨d.1,off,none⟩) n c
 | .rw b eo co n,v=>∃ d,μ b=some d/\eo + n <= d.2/\v=.slice (some ⟨d.1,co,none⟩) n (d.2 - eo)
 | .rz b eo,v=>∃ d,μ b=some d/\∃ o,v=.slice (some ⟨d.1,o,none⟩) 0 (d.2 - eo)
 | .snil,v=>v=.slice none 0 0
 | .map b,v=>∃ c,μ b=some c/\v=.map (some c.1)
 | .mnil,v=>v=.map none
 | .fn f fi ca,v=>∃ fv cv,RvL μ fi fv/\RvL μ ca cv/\v=.func (.func (f.nat - 1)) fv.toArray cv.toArray
 | .yld b,v=>∃ c,μ b=some c/\v=.func (.yield c.1) #[] #[]
 | .fnil,v=>v=.nilFunc
 | .agg l,v=>∃ vs,RvL μ l vs/\v=.agg vs.toArray
 | .tup l,v=>∃ vs,RvL μ l vs/\v=.tuple vs.toArray
def RvL (μ:Mu):List AV->List Value->Prop
 | [],vs=>vs=[]
 | a :: l,vs=>∃ v ws,Rv μ a v/\RvL μ l ws/\vs=v :: ws
end
def Mu.Le (μ μ':Mu):Prop:=∀ p c,μ p=some c->μ' p=some c
theorem Mu.Le.refl (μ:Mu):μ.Le μ:=fun _ _ h=>h
theorem Mu.Le.trans {a b c:Mu} (h:a.Le b) (k:b.Le c):a.Le c:=fun p x hx=>k p x (h p x hx)
mutual
theorem Rv.mono {μ μ':Mu} (hm:μ.Le μ'):∀ {a:AV} {v:Value},Rv μ a v->Rv μ' a v
 | .int _ _,_,h=>h
 | .bool _,_,h=>h
 | .ptr _ _,_,⟨c,h1,h2⟩=>⟨c,hm _ _ h1,h2⟩
 | .pnil,_,h=>h
 | .sl _ _ _ _,_,⟨c,h1,h2⟩=>⟨c,hm _ _ h1,h2⟩
 | .rw _ _ _ _,_,⟨c,h1,h2⟩=>⟨c,hm _ _ h1,h2⟩
 | .rz _ _,_,⟨c,h1,h2⟩=>⟨c,hm _ _ h1,h2⟩
 | .snil,_,h=>h
 | .map _,_,⟨c,h1,h2⟩=>⟨c,hm _ _ h1,h2⟩
 | .mnil,_,h=>h
 | .fn _ _ _,_,⟨fv,cv,h1,h2,h3⟩=>⟨fv,cv,RvL.mono hm h1,RvL.mono hm h2,h3⟩
 | .yld _,_,⟨c,h1,h2⟩=>⟨c,hm _ _ h1,h2⟩
 | .fnil,_,h=>h
 | .agg _,_,⟨vs,h1,h2⟩=>⟨vs,RvL.mono hm h1,h2⟩
 | .tup _,_,⟨vs,h1,h2⟩=>⟨vs,RvL.mono hm h1,h2⟩
theorem RvL.mono {μ μ':Mu} (hm:μ.Le μ'):∀ {l:List AV} {vs:List Value},RvL μ l vs->RvL μ' l vs
 | [],_,h=>h
 | _ :: _,_,⟨v,ws,h1,h2,h3⟩=>⟨v,ws,Rv.mono hm h1,RvL.mono hm h2,h3⟩
end
theorem wGl {μ:Mu}:RvL μ [] []:=rfl
theorem wBe {μ:Mu} {a:AV} {l:List AV} {v:Value} {vs:List Value} (h:Rv μ a v) (h':RvL μ l vs):RvL μ (a :: l) (v :: vs):=⟨v,vs,h,h',rfl⟩
theorem wCl {μ:Mu}:∀ {l:List AV} {vs:List Value},RvL μ l vs->vs.length=l.length
 | [],_,h=>by cases h;rfl
 | _ :: _,_,⟨_,_,_,h2,h3⟩=>by subst h3;simp [wCl h2]
theorem wDo {μ:Mu}:∀ {l k:List AV} {vs ws:List Value},RvL μ l vs->RvL μ k ws->RvL μ (l ++ k) (vs ++ ws)
 | [],_,_,_,h,h'=>by cases h;exact h'
 | _ :: _,_,_,_,⟨v,ws,h1,h2,h3⟩,h'=>by subst h3;exact wBe h1 (wDo h2 h')
theorem wEj {μ:Mu}:∀ {l:List AV} {vs:List Value},RvL μ l vs->∀ {i:Nat} {a:AV},l[i]?=some a->∃ v,vs[i]?=some v/\Rv μ a v
 | [],_,_,i,a,hi=>by simp at hi
 | b :: l,_,⟨v,ws,h1,h2,h3⟩,i,a,hi=>by
  subst h3
  cases i with
  | zero=>simp at hi;subst hi;exact ⟨v,rfl,h1⟩
  | succ i=>simpa using wEj h2 (i:=i) (by simpa using hi)
theorem wIM {μ:Mu}:∀ {l:List AV} {vs:List Value} (n:Nat),RvL μ l vs->RvL μ (l.drop n) (vs.drop n)
 | _,_,0,h=>h
 | [],_,n + 1,h=>by cases h;exact rfl
 | _ :: _,_,n + 1,⟨_,_,_,h2,h3⟩=>by subst h3;exact wIM n h2
theorem wIN {μ:Mu}:∀ {l:List AV} {vs:List Value} (n:Nat),RvL μ l vs->RvL μ (l.take n) (vs.take n)
 | _,_,0,_=>rfl
 | [],_,n + 1,h=>by cases h;exact rfl
 | _ :: _,_,n + 1,⟨_,_,h1,h2,h3⟩=>by subst h3;exact wBe h1 (wIN n h2)
theorem wGm {μ:Mu} {l:List AV} {vs:List Value} (h:RvL μ l vs):∀ n,RvL μ (rep n l) (nP n vs).flatten
 | 0=>rfl
 | n + 1=>by rw [List.replicate_succ,List.flatten_cons];exact wDo h (wGm h n)
section
variable {α:Type}
theorem wFp:∀ (l:List α) (n:Nat),nth l n=l[n]?
 | [],_=>rfl
 | _ :: _,0=>rfl
 | _ :: l,n + 1=>by show nth l n=_;rw [wFp l n];simp
theorem wEJ:∀ (l:List α),len l=l.length
 | []=>rfl
 | _ :: l=>by show Nat.succ (len l)=_;rw [wEJ l];rfl
theorem wFe {a:α} {o:Option (List α)} {r:List α} (h:wJh a o=some r):∃ r',o=some r'/\r=a :: r':=by
 cases o with
 | none=>cases h
 | some r'=>cases h;exact ⟨r',rfl,rfl⟩
theorem tk_some:∀ {l:List α} {n:Nat} {r:List α},tk l n=some r->r=l.take n/\n <= l.length
 | [],0,r,h=>by cases h;simp
 | [],n + 1,r,h=>by cases h
 | a :: l,0,r,h=>by cases h;simp
 | a :: l,n + 1,r,h=>by
  obtain ⟨r',h1,rfl⟩:=wFe (show wJh a (tk l n)=some r from h)
  obtain ⟨h2,h3⟩:=tk_some h1
  simp [h2,h3]
theorem wKk:∀ {l:List α} {off n:Nat} {r:List α},sub l off n=some r->r=(l.drop off).take n/\off + n <= l.length
 | [],0,n,r,h=>by have:=tk_some (l:=[]) (n:=n) h;simpa using this
 | [],off + 1,n,r,h=>by cases h
 | a :: l,0,n,r,h=>by have:=tk_some (l:=a :: l) (n:=n) h;simpa using this
 | a :: l,off + 1,n,r,h=>by
  obtain ⟨h1,h2⟩:=wKk (show sub l off n=some r from h)
  exact ⟨by simpa using h1,by simp;omega⟩
theorem wJx:∀ {l vs r:List α},ov l vs=some r->vs.length <= l.length/\r=vs ++ l.drop vs.length
 | [],[],r,h=>by cases h;simp
 | [],v :: vs,r,h=>by cases h
 | a :: l,[],r,h=>by cases h;simp
 | a :: l,v :: vs,r,h=>by
  obtain ⟨r',h1,rfl⟩:=wFe (show wJh v (ov l vs)=some r from h)
  obtain ⟨h2,h3⟩:=wJx h1
  subst h3
  exact ⟨by simpa using h2,by simp⟩
theorem wJA:∀ {l:List α} {off:Nat} {vs r:List α},wPr l off vs=some r->off + vs.length <= l.length/\r=l.take off ++ vs ++ l.drop (off + vs.length)
 | [],0,vs,r,h=>by have:=wJx (l:=[]) h;simp at this;simp [this]
 | [],off + 1,vs,r,h=>by cases h
 | a :: l,0,vs,r,h=>by have:=wJx (l:=a :: l) h;simp at this;simp [this]
 | a :: l,off + 1,vs,r,h=>by
  obtain ⟨r',h1,rfl⟩:=wFe (show wJh a (wPr l off vs)=some r from h)
  obtain ⟨h2,h3⟩:=wJA h1
  subst h3
  refine ⟨by simp;omega,?_⟩
  rw [show off + 1 + vs.length=(off + vs.length) + 1 from by omega]
  simp
end
theorem wNB:∀ (vs l:List Value) (off:Nat),off + vs.length <= l.length->wCR l off vs=l.take off ++ vs ++ l.drop (off + vs.length)
 | [],l,off,_=>by simp [wCR]
 | v :: vs,l,off,h=>by
  simp only [np] at h
  have hlt:off < l.length:=by omega
  rw [wCR,wNB vs (l.set off v) (off + 1) (by simp;omega)]
  have h1:(l.set off v).take (off + 1)=l.take off ++ [v]:=by
   rw [List.take_set,List.take_add_one,ng hlt]
   rw [List.set_append_right _ _ (by simp;omega)]
   simp [Nat.min_eq_left (Nat.le_of_lt hlt)]
  rw [h1,List.drop_set_of_lt (by omega)]
  rw [show off + 1 + vs.length=off + (v :: vs).length from by simp;omega]
  simp
theorem wIO {μ:Mu} {l vs r:List AV} {L V:List Value} {off:Nat} (h:wPr l off vs=some r) (hl:RvL μ l L) (hv:RvL μ vs V):off + V.length <= L.length/\RvL μ r (wCR L off V):=by
 obtain ⟨h1,rfl⟩:=wJA h
 have e1:=wCl hl
 have e2:=wCl hv
 have h2:off + V.length <= L.length:=by omega
 refine ⟨h2,?_⟩
 rw [wNB V L off h2,e2]
 exact wDo (wDo (wIN off hl) hv) (wIM _ hl)
theorem wEk {μ:Mu} {l r:List AV} {L:List Value} {off n:Nat} (h:sub l off n=some r) (hl:RvL μ l L):RvL μ r ((L.drop off).take n)/\off + n <= L.length:=by
 obtain ⟨rfl,h1⟩:=wKk h
 have e1:=wCl hl
 exact ⟨wIN n (wIM off hl),by omega⟩
theorem wRf {μ:Mu} {a:AV} {v:Value} (h:Rv μ a v) (h1:a.one=true):one v=true:=by
 cases a <;> simp only [Rv] at h <;> first | (cases h1;done) | (subst h;rfl) | (obtain ⟨_,_,_,_,_,rfl⟩:=h;rfl) | (obtain ⟨_,_,_,_,rfl⟩:=h;rfl) | (obtain ⟨_,_,_,rfl⟩:=h;rfl) | (obtain ⟨_,_,rfl⟩:=h;rfl)
theorem wDp {μ:Mu}:∀ {l:List AV} {vs:List Value},RvL μ l vs->wPs l=true->∀ v ∈ vs,one v=true
 | [],_,h,_=>by cases h;simp
 | a :: l,_,⟨v,ws,h1,h2,h3⟩,ho=>by
  subst h3
  have ho:(a.one && wPs l)=true:=ho
  rw [hH] at ho
  intro u hu
  rcases List.mem_cons.1 hu with rfl | hu
  ·exact wRf h1 ho.1
  ·exact wDp h2 ho.2 u hu
theorem wGF {μ:Mu} {a:AV} {v:Value} (h:Rv μ a v):∃ vs,RvL μ a.cells vs/\v.cells=vs.toArray:=by
 cases a with
 | agg l=>obtain ⟨vs,h1,rfl⟩:=h;exact ⟨vs,h1,rfl⟩
 | tup l=>obtain ⟨vs,h1,rfl⟩:=h;exact ⟨[_],wBe ⟨vs,h1,rfl⟩ wGl,rfl⟩
 | _ =>
  refine ⟨[v],wBe h wGl,?_⟩
  simp only [Rv] at h
  first | (subst h;rfl) | (obtain ⟨_,_,_,_,_,rfl⟩:=h;rfl) | (obtain ⟨_,_,_,_,rfl⟩:=h;rfl) | (obtain ⟨_,_,_,rfl⟩:=h;rfl) | (obtain ⟨_,_,rfl⟩:=h;rfl)
end Go.KX
namespace Go.KX
noncomputable section
open Go.RowKit Go.KL
def EnvR (μ:Mu) (σA:Tr AV) (σ:Env):Prop:=∀ p:Pos,Rv μ (evA σA (.t p)) (σ (p.nat - 1))
theorem wJy (σA:Tr AV) (p:Pos):evA σA (.t p)=(σA.get p).getD u:=by
 show nL (motive:=fun _=>AV) u (fun v=>v) (σA.get p)=_
 cases σA.get p <;> rfl
theorem EnvR.mono {μ μ':Mu} {σA:Tr AV} {σ:Env} (h:EnvR μ σA σ) (hm:μ.Le μ'):EnvR μ' σA σ:=fun p=>(h p).mono hm
theorem EnvR.put {μ:Mu} {σA:Tr AV} {σ:Env} (h:EnvR μ σA σ) {p:Pos} {a:AV} {v:Value} (hv:Rv μ a v):EnvR μ (σA.set p a) (upd σ (p.nat - 1) v):=by
 intro q
 rw [wJy,Tr.get_set]
 by_cases e:q=p
 ·subst e;rw [if_pos rfl,wCo];exact hv
 ·rw [if_neg e,wDg,<- wJy]
  ·exact h q
  ·intro e2
   have:=p.nat_pos;have:=q.nat_pos
   exact e (Pos.nat_inj (by omega))
theorem wNC (μ:Mu):Rv μ u undef:=⟨[],rfl,rfl⟩
theorem wKl {μ:Mu}:∀ {args:List AV} {vs:List Value},RvL μ args vs->∀ {p:Pos} {t:Tr AV} {σ σ':Env},EnvR μ t σ->(∀ i,i < p.nat - 1->σ' i=σ i)->(∀ j v,vs[j]?=some v->σ' (p.nat - 1 + j)=v) ->
  (∀ i,p.nat - 1 + vs.length <= i->σ' i=σ i)->EnvR μ (wLY args p t) σ'
 | [],_,h,p,t,σ,σ',hE,h1,_,h3=>by
  cases h
  intro q
  have:=hE q
  by_cases e:q.nat - 1 < p.nat - 1
  ·rw [h1 _ e];exact this
  ·rw [h3 _ (by simp;omega)];exact this
 | a :: l,_,⟨v,ws,h1,h2,h3⟩,p,t,σ,σ',hE,g1,g2,g3=>by
  subst h3
  have hp:=p.nat_pos
  refine wKl h2 (p:=p.succ) (hE.put (p:=p) h1) ?_ ?_ ?_
  ·intro i hi
   rw [Pos.nat_succ] at hi
   by_cases e:i=p.nat - 1
   ·subst e;rw [wCo];exact g2 0 v rfl
   ·rw [wDg _ _ e];exact g1 i (by omega)
  ·intro j x hx
   rw [Pos.nat_succ]
   have:=g2 (j + 1) x (by simpa using hx)
   rw [<- this];congr 1;omega
  ·intro i hi
   rw [Pos.nat_succ] at hi
   rw [wDg _ _ (by omega)]
   exact g3 i (by simp;omega)
theorem wPy {μ:Mu} {args:List AV} {vs:List Value} (h:RvL μ args vs):EnvR μ (wLY args .H .e) (wPG vs):=by
 have h0:EnvR μ .e (fun _=>undef):=by intro p;rw [wJy,Tr.get_e];exact wNC μ
 refine wKl h (p:=.H) h0 (fun i hi=>by simp [Pos.nat] at hi) (fun j v hv=>?_) (fun i hi=>?_)
 ·simp [wPG,Pos.nat,hv]
 ·simp only [Pos.nat] at hi
  simp [wPG,kR (by omega:vs.length <= i)]
mutual
def okc:AV->Value->Bool
 | .int k n,.int k' n'=>keq k k' && zeq n n'
 | .bool b,.bool b'=>b == b'
 | .pnil,.pointer none=>true
 | .snil,.slice none 0 0=>true
 | .mnil,.map none=>true
 | .fnil,.nilFunc=>true
 | .agg l,.agg vs=>wOg l vs.toList
 | .tup l,.tuple vs=>wOg l vs.toList
 | _,_=>false
def wOg:List AV->List Value->Bool
 | [],[]=>true
 | a :: l,v :: vs=>okc a v && wOg l vs
 | _,_=>false
end
theorem wKm:∀ {a b:Int},zeq a b=true ↔ a=b
 | .ofNat a,.ofNat b=>by simp [zeq];omega
 | .negSucc a,.negSucc b=>by simp [zeq]
 | .ofNat a,.negSucc b=>by simp [zeq]
 | .negSucc a,.ofNat b=>by simp [zeq]
theorem wDq (a b:Int):zeq a b=decide (a=b):=by
 by_cases h:a=b
 ·rw [wKm.2 h];simp [h]
 ·have:zeq a b ≠ true:=fun e=>h (wKm.1 e)
  simp [h,kD.2 this]
theorem wGn:∀ (a b:Int),zlt a b=decide (a < b)
 | .ofNat a,.ofNat b=>by
  simp only [zlt,nR,Int.ofNat_lt]
  by_cases h:a < b
  ·simp [h,nD]
  ·simp [h,kD,nD]
 | .negSucc a,.negSucc b=>by
  simp only [zlt,nw]
  by_cases h:b < a
  ·have h2:-((a:Int) + 1) < -((b:Int) + 1):=by omega
   simp [h2,nD];exact h
  ·have h2:¬ -((a:Int) + 1) < -((b:Int) + 1):=by omega
   simp [h2,kD,nD];omega
 | .ofNat a,.negSucc b=>by
  simp only [zlt,nw,nR]
  have h2:¬ (a:Int) < -((b:Int) + 1):=by omega
  simp [h2]
 | .negSucc a,.ofNat b=>by
  simp only [zlt,nw,nR]
  have h2:-((a:Int) + 1) < (b:Int):=by omega
  simp [h2]
theorem wND (a b:Int):zle a b=decide (a <= b):=by
 rw [zle,wGn]
 by_cases h:a <= b
 ·simp [h,Int.not_lt.2 h]
 ·simp [h,Int.not_le.1 h]
theorem wBk {a b:IntKind} (h:keq a b=true):a=b:=by cases a <;> cases b <;> first | rfl | cases h
mutual
theorem wNE (μ:Mu):∀ {a:AV} {v:Value},okc a v=true->Rv μ a v
 | .int k n,v,h=>by
  cases v <;> simp only [okc,hH,nW] at h
  rw [wBk h.1,wKm.1 h.2];rfl
 | .bool b,v,h=>by
  cases v <;> simp only [okc,beq_iff_eq,nW] at h
  subst h;rfl
 | .pnil,v,h=>by
  unfold okc at h
  split at h <;> first | rfl | (exfalso;simp_all;done) | simp_all [Rv]
 | .snil,v,h=>by
  unfold okc at h
  split at h <;> first | rfl | (exfalso;simp_all;done) | simp_all [Rv]
 | .mnil,v,h=>by
  unfold okc at h
  split at h <;> first | rfl | (exfalso;simp_all;done) | simp_all [Rv]
 | .fnil,v,h=>by
  cases v <;> simp only [okc,nW] at h
  rfl
 | .agg l,v,h=>by
  cases v <;> simp only [okc,nW] at h
  exact ⟨_,wFf μ h,by simp⟩
 | .tup l,v,h=>by
  cases v <;> simp only [okc,nW] at h
  exact ⟨_,wFf μ h,by simp⟩
 | .ptr _ _,v,h=>by simp [okc] at h
 | .sl _ _ _ _,v,h=>by simp [okc] at h
 | .rw _ _ _ _,v,h=>by simp [okc] at h
 | .rz _ _,v,h=>by simp [okc] at h
 | .map _,v,h=>by simp [okc] at h
 | .fn _ _ _,v,h=>by simp [okc] at h
 | .yld _,v,h=>by simp [okc] at h
theorem wFf (μ:Mu):∀ {l:List AV} {vs:List Value},wOg l vs=true->RvL μ l vs
 | [],[],_=>rfl
 | a :: l,v :: vs,h=>by
  simp only [wOg,hH] at h
  exact wBe (wNE μ h.1) (wFf μ h.2)
 | [],_ :: _,h=>by simp [wOg] at h
 | _ :: _,[],h=>by simp [wOg] at h
end
def wCD:AOd->Operand->Bool
 | .t p,.tmp t=>nB p.nat (t + 1)
 | .c a,.const v=>okc a v
 | .c (.fn f [] []),.func g=>nB f.nat (g + 1)
 | _,_=>false
def wJB:List AOd->List Operand->Bool
 | [],[]=>true
 | x :: l,y :: k=>wCD x y && wJB l k
 | _,_=>false
theorem wAF {μ:Mu} {σA:Tr AV} {σ:Env} {x:AOd} {y:Operand} (h:wCD x y=true) (hE:EnvR μ σA σ):Rv μ (evA σA x) (ev σ y):=by
 unfold wCD at h
 split at h
 ·rename_i p t
  have:=nA h
  have h2:=hE p
  rw [this] at h2
  exact h2
 ·exact wNE μ h
 ·rename_i f g
  have:=nA h
  exact ⟨[],[],rfl,rfl,by show km (.func g) #[] #[]=_;rw [this];rfl⟩
 ·cases h
theorem wGG {μ:Mu} {σA:Tr AV} {σ:Env}:∀ {l:List AOd} {k:List Operand},wJB l k=true->EnvR μ σA σ->RvL μ (evs σA l) (k.map (ev σ))
 | [],[],_,_=>rfl
 | x :: l,y :: k,h,hE=>by
  simp only [wJB,hH] at h
  exact wBe (wAF h.1 hE) (wGG h.2 hE)
 | [],_ :: _,h,_=>by simp [wJB] at h
 | _ :: _,[],h,_=>by simp [wJB] at h
def MR {K:Type} (μ:Mu) (l:List (K × AV)) (t:List (K × Value)):Prop:=l.map (·.1)=t.map (·.1)/\RvL μ (l.map (·.2)) (t.map (·.2))
def mk2 (k:IntKind) (x:Int × Int):Value:=.agg #[.int k x.1,.int k x.2]
def exC:Ex->Exit
 | .nrm=>.normal
 | .exit i=>.exit i
 | .ret=>.ret
def lsC:LS->LoopState × Option Code
 | .ready=>(.ready,none)
 | .busy=>(.busy,none)
 | .done .ret=>(.done,some .ret)
 | .done (.exit i)=>(.done,some (.exit i))
 | .done .nrm=>(.ready,none)
abbrev Chk:=AC->Code->Nat->Prop
structure wLZ (C:Chk) (μ:Mu) (w:World) (c:Cl) (σA:Tr AV) (t:List Pos) (asg body:AC) (s:LS):Prop where
 at_:LoopAt w c.1 c.g.N c.g.σ c.g.t c.g.ac c.g.bc c.g.rb c.g.fn (lsC s).1 (lsC s).2
 env:EnvR μ σA c.g.σ
 ht:t.map Pos.nat=c.g.t.map (· + 1)
 tN:∀ x ∈ c.g.t,x < c.g.N
 asg:C asg c.g.ac c.g.N
 body:C body c.g.bc c.g.N
def AbR (C:Chk) (P:Program) (μ:Mu) (w:World) (c:Cl):AB->Prop
 | .cells T l=>∃ vs,RvL μ l vs/\Blk w c.1 T vs
 | .row T sz l=>∃ vs,RvL μ l vs/\RowAt w (some ⟨c.1,0,none⟩) c.2 T sz vs
 | .map0=>∃ ck,w.heap[c.1]?=some (.map #[] ck)
 | .mapI k l=>∃ es ck t,w.heap[c.1]?=some (.map es ck)/\MpR es (fun n:Int=>nq k n) id t/\MR μ l t
 | .map2 k l=>∃ es ck t,w.heap[c.1]?=some (.map es ck)/\MpR es (mk2 k) id t/\MR μ l t
 | .loop σA t asg body s=>wLZ C μ w c σA t asg body s
 | .dead=>True
def wLa:AB->Prop
 | .dead=>False
 | _=>True
variable {C:Chk} {P:Program} {μ μ' μ'':Mu} {w w' w'':World} {h h' h'':AH}
theorem MR.mono {K:Type} {l:List (K × AV)} {t:List (K × Value)} (h:MR μ l t) (hm:μ.Le μ'):MR μ' l t:=⟨h.1,h.2.mono hm⟩
theorem AbR.mono {c:Cl} {B:AB} (h:AbR C P μ w c B) (hm:μ.Le μ'):AbR C P μ' w c B:=by
 cases B with
 | cells T l=>obtain ⟨vs,h1,h2⟩:=h;exact ⟨vs,h1.mono hm,h2⟩
 | row T sz l=>obtain ⟨vs,h1,h2⟩:=h;exact ⟨vs,h1.mono hm,h2⟩
 | map0=>exact h
 | mapI k l=>obtain ⟨es,ck,t,h1,h2,h3⟩:=h;exact ⟨es,ck,t,h1,h2,h3.mono hm⟩
 | map2 k l=>obtain ⟨es,ck,t,h1,h2,h3⟩:=h;exact ⟨es,ck,t,h1,h2,h3.mono hm⟩
 | loop σA t asg body s=>exact ⟨h.at_,h.env.mono hm,h.ht,h.tN,h.asg,h.body⟩
 | dead=>trivial
theorem AbR.keep {c:Cl} {B:AB} {X:Nat->Prop} (h:AbR C P μ w c B) (k:Keep w w' X) (hx:¬ X c.1):AbR C P μ w' c B:=by
 cases B with
 | cells T l=>obtain ⟨vs,h1,h2⟩:=h;exact ⟨vs,h1,h2.keep k hx⟩
 | row T sz l =>
  obtain ⟨vs,h1,h2⟩:=h
  refine ⟨vs,h1,?_⟩
  obtain ⟨cur,h3,h4⟩:=RowAt.cells h2
  exact .inr ⟨c.1,cur,rfl,(k.block _ (wAV h3) hx).trans h3,h4⟩
 | map0=>obtain ⟨ck,h1⟩:=h;exact ⟨ck,(k.block _ (wAV h1) hx).trans h1⟩
 | mapI _ l=>obtain ⟨es,ck,t,h1,h2⟩:=h;exact ⟨es,ck,t,(k.block _ (wAV h1) hx).trans h1,h2⟩
 | map2 _ l=>obtain ⟨es,ck,t,h1,h2⟩:=h;exact ⟨es,ck,t,(k.block _ (wAV h1) hx).trans h1,h2⟩
 | loop σA t asg body s=>exact ⟨h.at_.keep k hx,h.env,h.ht,h.tN,h.asg,h.body⟩
 | dead=>trivial
def img (μ:Mu) (fl:Nat) (c:Nat):Prop:=∃ p d,μ p=some d/\d.1=c/\fl <= p.nat
structure Ext (μ:Mu) (fl:Nat) (w:World) (μ':Mu) (w':World):Prop where
 mono:μ.Le μ'
 new:∀ p c,μ' p=some c->μ p=some c \/ img μ fl c.1 \/ w.heap.size <= c.1
 keep:Keep w w' (img μ fl)
theorem Ext.refl (μ:Mu) (fl:Nat) (w:World):Ext μ fl w μ w:=⟨Mu.Le.refl μ,fun _ _ h=>.inl h,Keep.refl w _⟩
theorem Ext.img {fl:Nat} {c:Nat} (E:Ext μ fl w μ' w') (hi:img μ' fl c):KX.img μ fl c \/ w.heap.size <= c:=by
 obtain ⟨p,d,h1,rfl,h2⟩:=hi
 rcases E.new p _ h1 with h3 | h3 | h3
 ·exact .inl ⟨p,d,h3,rfl,h2⟩
 ·exact .inl h3
 ·exact .inr h3
theorem Ext.trans {fl:Nat} (E:Ext μ fl w μ' w') (E':Ext μ' fl w' μ'' w''):Ext μ fl w μ'' w'':=by
 refine ⟨E.mono.trans E'.mono,fun p c hp=>?_,E.keep.step E'.keep fun i hi hm=>?_⟩
 ·rcases E'.new p c hp with h1 | h1 | h1
  ·exact E.new p c h1
  ·exact .inr (E.img h1)
  ·exact .inr (.inr (nX E.keep.size h1))
 ·rcases E.img hm with h1 | h1
  ·exact h1
  ·omega
structure Sim (C:Chk) (P:Program) (μ:Mu) (h:AH) (w:World):Prop where
 nx:∀ p,h.nx.nat <= p.nat->μ p=none
 lt:∀ p c,μ p=some c->c.1 < w.heap.size
 inj:∀ p q a b c d,h.m.get p=some a->h.m.get q=some b->wLa a->wLa b->μ p=some c->μ q=some d->c.1=d.1->p=q
 at_:∀ p b,h.m.get p=some b->∃ c,μ p=some c/\AbR C P μ w c b
theorem Sim.keep (S:Sim C P μ h w) (k:Keep w w' Non):Sim C P μ h w' :=
 ⟨S.nx,fun p c hp=>nh (S.lt p c hp) k.size,S.inj,fun p b hb=>let ⟨c,h1,h2⟩:=S.at_ p b hb;⟨c,h1,h2.keep k id⟩⟩
theorem Sim.floor (S:Sim C P μ h w) (f:Pos):Sim C P μ ⟨h.m,h.nx,f⟩ w:=⟨S.nx,S.lt,S.inj,S.at_⟩
theorem Sim.non (S:Sim C P μ h w) (E:Ext μ h.nx.nat w μ' w') (fl:Nat):Keep w w' Non/\Ext μ fl w μ' w':=by
 have hn:∀ c,¬ img μ h.nx.nat c:=fun c ⟨p,k,h1,_,h2⟩=>by rw [S.nx p h2] at h1;cases h1
 refine ⟨E.keep.weak fun i _ hi=>hn i hi,E.mono,fun p c hp=>?_,E.keep.weak fun i _ hi=>(hn i hi).elim⟩
 rcases E.new p c hp with h1 | h1 | h1
 ·exact .inl h1
 ·exact (hn _ h1).elim
 ·exact .inr (.inr h1)
theorem wIP {h h':AH} {p:Pos} {B:AB} (hp:h.put p B=some h'):h.fl.nat <= p.nat/\h'=⟨h.m.set p B,h.nx,h.fl⟩:=by
 unfold AH.put at hp
 split at hp
 ·cases hp
 ·rename_i hf
  cases hp
  refine ⟨?_,rfl⟩
  rcases nf p.nat h.fl.nat with hlt | hge
  ·rw [(Pos.ltb_iff p h.fl false).2 (.inl hlt)] at hf;cases hf
  ·exact hge
theorem Sim.put {p:Pos} {B B':AB} {c:Cl} (S:Sim C P μ h w) (hp:h.put p B'=some h') (hB:h.m.get p=some B) (hl:wLa B) (hc:μ p=some c) (K:Keep w w' (·=c.1)) (hB':AbR C P μ w' c B') :
  Sim C P μ h' w'/\Ext μ h.fl.nat w μ w'/\h'.fl=h.fl:=by
 obtain ⟨hf,rfl⟩:=wIP hp
 refine ⟨⟨S.nx,fun p c hp=>nh (S.lt p c hp) K.size,?_,?_⟩,⟨Mu.Le.refl μ,fun _ _ h=>.inl h,K.weak fun i _ e=>⟨p,c,hc,e.symm,hf⟩⟩,rfl⟩
 ·intro q r a b d e hq hr la lb hd he hde
  simp only [Tr.get_set] at hq hr
  split at hq <;> split at hr
  ·rename_i h1 h2;rw [h1,h2]
  ·rename_i h1 h2;exact (S.inj q r B b d e (h1 ▸ hB) hr hl lb hd he hde)
  ·rename_i h1 h2;exact (S.inj q r a B d e hq (h2 ▸ hB) la hl hd he hde)
  ·exact S.inj q r a b d e hq hr la lb hd he hde
 ·intro q b hq
  simp only [Tr.get_set] at hq
  split at hq
  ·rename_i h1;subst h1;cases hq;exact ⟨c,hc,hB'⟩
  ·rename_i h1
   obtain ⟨d,h2,h3⟩:=S.at_ q b hq
   refine ⟨d,h2,?_⟩
   by_cases lb:wLa b
   ·exact h3.keep K fun e=>h1 (S.inj q p b B d c hq hB lb hl h2 hc e)
   ·cases b <;> first | trivial | exact (lb trivial).elim
def Mu.add (μ:Mu) (p:Pos) (c:Cl):Mu:=fun q=>if q=p then some c else μ q
theorem Mu.add_le {p:Pos} {c:Cl} (hn:μ p=none):μ.Le (μ.add p c):=by
 intro q d hq
 unfold Mu.add
 by_cases e:q=p
 ·subst e;rw [hn] at hq;cases hq
 ·rw [if_neg e];exact hq
theorem Mu.add_same (μ:Mu) (p:Pos) (c:Cl):μ.add p c p=some c:=by simp [Mu.add]
theorem Sim.push {c:Cl} {B:AB} (S:Sim C P μ h w) (K:Keep w w' Non) (hc:w.heap.size <= c.1) (hlt:c.1 < w'.heap.size) (hB:AbR C P (μ.add h.nx c) w' c B) :
  Sim C P (μ.add h.nx c) (h.push B) w'/\Ext μ h.fl.nat w (μ.add h.nx c) w'/\(h.push B).fl=h.fl/\(μ.add h.nx c) h.nx=some c:=by
 have hn:=S.nx h.nx (nH _)
 have hle:=Mu.add_le (c:=c) hn
 refine ⟨⟨?_,?_,?_,?_⟩,⟨hle,?_,K.weak fun _ _ h=>h.elim⟩,rfl,Mu.add_same _ _ _⟩
 ·intro p hp
  have hp:h.nx.succ.nat <= p.nat:=hp
  rw [Pos.nat_succ] at hp
  unfold Mu.add
  rw [if_neg (fun e=>by subst e;omega)]
  exact S.nx p (by omega)
 ·intro p d hd
  unfold Mu.add at hd
  split at hd
  ·cases hd;exact hlt
  ·exact nh (S.lt p d hd) K.size
 ·intro p q a b d e hp hq la lb hd he hde
  simp only [AH.push,Tr.get_set] at hp hq
  unfold Mu.add at hd he
  split at hd <;> split at he
  ·rename_i h1 h2;rw [h1,h2]
  ·cases hd;have:=S.lt _ _ he;omega
  ·cases he;have:=S.lt _ _ hd;omega
  ·rename_i h1 h2
   rw [if_neg h1] at hp
   rw [if_neg h2] at hq
   exact S.inj p q a b d e hp hq la lb hd he hde
 ·intro p b hb
  simp only [AH.push,Tr.get_set] at hb
  split at hb
  ·rename_i h1;subst h1;cases hb;exact ⟨c,Mu.add_same _ _ _,hB⟩
  ·obtain ⟨d,h2,h3⟩:=S.at_ p b hb
   exact ⟨d,hle _ _ h2,(h3.mono hle).keep K id⟩
 ·intro p d hd
  unfold Mu.add at hd
  split at hd
  ·cases hd;exact .inr (.inr hc)
  ·exact .inl hd
theorem Sim.move {p:Pos} {B B':AB} {c d:Cl} (S:Sim C P μ h w) (hp:h.put p .dead=some h') (hB:h.m.get p=some B) (hl:wLa B) (hc:μ p=some c) (K:Keep w w' (·=c.1)) (hd:d.1=c.1 \/ w.heap.size <= d.1) (hlt:d.1 < w'.heap.size)
  (hB':AbR C P (μ.add h.nx d) w' d B'):Sim C P (μ.add h.nx d) (h'.push B') w'/\Ext μ h.fl.nat w (μ.add h.nx d) w'/\(h'.push B').fl=h.fl/\(μ.add h.nx d) h.nx=some d:=by
 obtain ⟨hf,rfl⟩:=wIP hp
 have hn:=S.nx h.nx (nH _)
 have hle:=Mu.add_le (c:=d) hn
 have hpn:p ≠ h.nx:=fun e=>by rw [e,hn] at hc;cases hc
 refine ⟨⟨?_,?_,?_,?_⟩,⟨hle,?_,K.weak fun i _ e=>⟨p,c,hc,e.symm,hf⟩⟩,rfl,Mu.add_same _ _ _⟩
 ·intro q hq
  have hq:h.nx.succ.nat <= q.nat:=hq
  rw [Pos.nat_succ] at hq
  unfold Mu.add
  rw [if_neg (fun e=>by subst e;omega)]
  exact S.nx q (by omega)
 ·intro q e he
  unfold Mu.add at he
  split at he
  ·cases he;exact hlt
  ·exact nh (S.lt q e he) K.size
 ·have key:∀ q b e,q ≠ h.nx->((h.m.set p .dead).set h.nx B').get q=some b->wLa b->(μ.add h.nx d) q=some e->e.1 ≠ d.1:=by
   intro q b e hq hb lb he hed
   simp only [Tr.get_set,if_neg hq] at hb
   unfold Mu.add at he
   rw [if_neg hq] at he
   split at hb
   ·cases hb;exact lb
   ·rename_i hqp
    rcases hd with h1 | h1
    ·exact hqp (S.inj q p b B e c hb hB lb hl he hc (hed.trans h1))
    ·have:=S.lt _ _ he;omega
  intro q r a b e f hq hr la lb he hf hef
  by_cases e1:q=h.nx <;> by_cases e2:r=h.nx
  ·rw [e1,e2]
  ·subst e1;rw [Mu.add_same] at he;cases he;exact absurd hef.symm (key r b f e2 hr lb hf)
  ·subst e2;rw [Mu.add_same] at hf;cases hf;exact absurd hef (key q a e e1 hq la he)
  ·simp only [AH.push,Tr.get_set,if_neg e1,if_neg e2] at hq hr
   unfold Mu.add at he hf
   rw [if_neg e1] at he
   rw [if_neg e2] at hf
   split at hq
   ·cases hq;exact la.elim
   ·split at hr
    ·cases hr;exact lb.elim
    ·exact S.inj q r a b e f hq hr la lb he hf hef
 ·intro q b hb
  simp only [AH.push,Tr.get_set] at hb
  split at hb
  ·rename_i h1;subst h1;cases hb;exact ⟨d,Mu.add_same _ _ _,hB'⟩
  ·split at hb
   ·rename_i h1 h2;subst h2;cases hb;exact ⟨c,hle _ _ hc,trivial⟩
   ·rename_i h1 h2
    obtain ⟨e,h3,h4⟩:=S.at_ q b hb
    refine ⟨e,hle _ _ h3,?_⟩
    by_cases lb:wLa b
    ·exact (h4.mono hle).keep K fun e'=>h2 (S.inj q p b B e c hb hB lb hl h3 hc e')
    ·cases b <;> first | trivial | exact (lb trivial).elim
 ·intro q e he
  unfold Mu.add at he
  split at he
  ·cases he
   rcases hd with h1 | h1
   ·exact .inr (.inl ⟨p,c,hc,h1.symm,hf⟩)
   ·exact .inr (.inr h1)
  ·exact .inl he
end
end Go.KX
namespace Go.KX
noncomputable section
open Go.RowKit Go.KL
def aggD:TypeDesc->Bool
 | .struct _ | .array _ _=>true
 | _=>false
def wDy (P:Program) (t:TypeId) (f:TypeDesc->Bool):Bool:=match P.underlying t with
 | some d=>f d
 | none=>false
def szT (P:Program) (t n:Nat):Bool:=match P.info? t with
 | some i=>nB i.size n
 | none=>false
def byT (P:Program) (t n:Nat):Bool:=match P.info? t with
 | some i=>nB i.bytes n
 | none=>false
def zT (P:Program) (t:TypeId) (z:List AV):Bool:=match P.info? t with
 | some i=>match i.zero with
  | some v=>wOg z v.cells.toList
  | none=>false
 | none=>false
section
variable {C:Chk} {P:Program} {μ μ':Mu} {w w':World} {h h':AH} {σ:Env} {σA:Tr AV} {t e:TypeId} {o:Oper}
theorem wAe {f:TypeDesc->Bool} (hc:wDy P t f=true):∃ d,P.underlying t=some d/\f d=true:=by
 unfold wDy at hc
 split at hc
 ·exact ⟨_,by assumption,hc⟩
 ·cases hc
theorem wAm {d:TypeDesc} (hu:P.underlying t=some d) (w:World):(underlying t).run P w=.ok d w:=run_underlying hu w
theorem wDU {n:Nat} (hc:szT P t n=true) (w:World):(sizeOf t).run P w=.ok n w:=by
 unfold szT at hc
 split at hc
 ·rename_i i hi
  rw [<- nA hc]
  simp [sizeOf,typeInfo,hi]
 ·cases hc
theorem wGH {n:Nat} (hc:szT P t n=true):∃ i,P.info? t=some i/\i.size=n:=by
 unfold szT at hc
 split at hc
 ·rename_i i hi;exact ⟨i,hi,nA hc⟩
 ·cases hc
theorem wGI {n:Nat} (hc:byT P t n=true):∃ i,P.info? t=some i/\i.bytes=n:=by
 unfold byT at hc
 split at hc
 ·rename_i i hi;exact ⟨i,hi,nA hc⟩
 ·cases hc
theorem wEl {z:List AV} (hc:zT P t z=true):∃ i v,P.info? t=some i/\i.zero=some v/\∀ μ,RvL μ z v.cells.toList:=by
 unfold zT at hc
 split at hc
 ·rename_i i hi
  split at hc
  ·rename_i v hv;exact ⟨i,v,hi,hv,fun μ=>wFf μ hc⟩
  ·cases hc
 ·cases hc
theorem wDV {i:TypeInfo} {z:Value} (hi:P.info? t=some i) (hz:i.zero=some z) (w:World):(zeroValue t).run P w=.ok z w:=by
 simp [zeroValue,typeInfo,hi,hz]
theorem wGo {d:TypeDesc} (hu:P.underlying t=some d) (w:World):(isAgg t).run P w=.ok (aggD d) w:=by
 simp only [isAgg,Sem.run_bind,wAm hu,Result.andThen_ok]
 cases d <;> rfl
def wOh (P:Program) (t:TypeId) (b:Bool):Bool:=wDy P t fun d=>aggD d == b
theorem wEK {b:Bool} (hc:wOh P t b=true) (w:World):(isAgg t).run P w=.ok b w:=by
 obtain ⟨d,h1,h2⟩:=wAe hc
 rw [wGo h1,eq_of_beq h2]
def OkP (P:Program) (op:Op) (f:Tr AV->AH->Option (AV × AH)):Prop :=
 ∀ σA h v h',f σA h=some (v,h')->h'=h/\∀ μ σ,EnvR μ σA σ->∃ cv,Rv μ v cv/\∀ (o:Oper) (w:World),o.op=op->Runs P σ w o cv w
def c_mv (x:AOd):Op->Bool
 | .move y | .assign y=>wCD x y
 | _=>false
theorem p_mv {x:AOd} {op:Op} (hc:c_mv x op=true):OkP P op (wRH x):=by
 intro σA h v h' hr
 cases hr
 refine ⟨rfl,fun μ σ hE=>?_⟩
 unfold c_mv at hc
 split at hc
 ·exact ⟨_,wAF hc hE,fun o w ho=>Runs.mv ho rfl⟩
 ·exact ⟨_,wAF hc hE,fun o w ho=>Runs.as ho rfl⟩
 ·cases hc
def wNF (c x y:AOd):Op->Bool
 | .pick c' x' y'=>wCD c c' && (wCD x x' && wCD y y')
 | _=>false
theorem wRg {c x y:AOd} {op:Op} (hc:wNF c x y op=true):OkP P op (wGe c x y):=by
 intro σA h v h' hr
 unfold wNF at hc
 split at hc
 ·rename_i c' x' y'
  simp only [hH] at hc
  unfold wGe at hr
  split at hr
  ·rename_i hb;cases hr
   exact ⟨rfl,fun μ σ hE=>⟨_,wAF hc.2.1 hE,fun o w ho=>Runs.pickT ho (by have:=wAF hc.1 hE;rw [hb] at this;exact this) rfl⟩⟩
  ·rename_i hb;cases hr
   exact ⟨rfl,fun μ σ hE=>⟨_,wAF hc.2.2 hE,fun o w ho=>Runs.pickF ho (by have:=wAF hc.1 hE;rw [hb] at this;exact this) rfl⟩⟩
  ·cases hr
 ·cases hc
def wNG (x:AOd):Op->Bool
 | .nilCheck y=>wCD x y
 | _=>false
theorem wRh {x:AOd} {op:Op} (hc:wNG x op=true):OkP P op (wGf x):=by
 intro σA h v h' hr
 unfold wNG at hc
 split at hc
 ·unfold wGf at hr
  split at hr
  ·rename_i hb;cases hr
   refine ⟨rfl,fun μ σ hE=>?_⟩
   have:=wAF hc hE;rw [hb] at this
   refine ⟨_,this,fun o w ho=>?_⟩
   obtain ⟨c,h1,h2⟩:=this
   rw [h2];exact Runs.nilp ho h2
  ·rename_i hb;cases hr
   refine ⟨rfl,fun μ σ hE=>?_⟩
   have:=wAF hc hE;rw [hb] at this
   refine ⟨_,this,fun o w ho=>?_⟩
   obtain ⟨fv,cv,_,_,h2⟩:=this
   rw [h2];exact Runs.nilf ho h2
  ·rename_i hb;cases hr
   refine ⟨rfl,fun μ σ hE=>?_⟩
   have:=wAF hc hE;rw [hb] at this
   refine ⟨_,this,fun o w ho=>?_⟩
   obtain ⟨c,h1,h2⟩:=this
   rw [h2];exact Runs.nily ho h2
  ·cases hr
 ·cases hc
theorem wIQ {k:IntKind} {n:Int} (hk:inK k n=true):k.wrap n=n:=by
 unfold inK at hk
 split at hk <;> (try simp only [nD] at hk) <;> (try simp only [IntKind.wrap_i64,IntKind.wrap_u8,IntKind.wrap_u32,Go.IntKind.wrap_u64,nw,nR]) <;> first | omega | cases hk
theorem wBl {x:Option AV} {v:AV} (hr:okV h x=some (v,h')):x=some v/\h'=h:=by
 cases x <;> cases hr;exact ⟨rfl,rfl⟩
theorem wBf {α:Type} {b:Bool} {x:Option α} {v:α} (hr:ifO b x=some v):b=true/\x=some v:=by
 cases b
 ·cases hr
 ·exact ⟨rfl,hr⟩
theorem wHn {f:Int->Int->Int} {x y v:AV} (hr:wJi f x y=some v):∃ k a b,x=.int k a/\y=.int k b/\v=.int k (f a b)/\k.wrap (f a b)=f a b:=by
 unfold wJi at hr
 split at hr
 ·rename_i k a k' b
  split at hr
  ·rename_i hk
   split at hr
   ·rename_i hi;cases hr;exact ⟨k,a,b,rfl,by rw [wBk hk],rfl,wIQ hi⟩
   ·cases hr
  ·cases hr
 ·cases hr
theorem wOi {f:Int->Int->Int} {x y v:AV} (hr:div f x y=some v):∃ k a b,x=.int k a/\y=.int k b/\v=.int k (f a b)/\k.wrap (f a b)=f a b/\b ≠ 0:=by
 unfold div at hr
 split at hr
 ·rename_i k a k' b
  split at hr
  ·rename_i hk
   split at hr
   ·cases hr
   ·rename_i hz
    split at hr
    ·rename_i hi;cases hr
     exact ⟨k,a,b,rfl,by rw [wBk hk],rfl,wIQ hi,fun e=>by rw [wKm.2 e] at hz;cases hz⟩
    ·cases hr
  ·cases hr
 ·cases hr
theorem wNH {f:Int->Int->Bool} {x y v:AV} (hr:wOc f x y=some v):∃ k a b,x=.int k a/\y=.int k b/\v=.bool (f a b):=by
 unfold wOc at hr
 split at hr
 ·rename_i k a k' b
  split at hr
  ·rename_i hk;cases hr;exact ⟨k,a,b,rfl,by rw [wBk hk],rfl⟩
  ·cases hr
 ·cases hr
def wCV (b:BinOp) (x y:AOd):Op->Bool
 | .binOp b' _ x' y' _=>(b' == b) && (wCD x x' && wCD y y')
 | _=>false
theorem wFK {b:BinOp} {x y:AOd} {op:Op} (hc:wCV b x y op=true):∃ t x' y' t',op=.binOp b t x' y' t'/\wCD x x'=true/\wCD y y'=true:=by
 unfold wCV at hc
 split at hc
 ·rename_i b' t x' y' t'
  simp only [hH,beq_iff_eq] at hc
  obtain ⟨rfl,h1,h2⟩:=hc
  exact ⟨t,x',y',t',rfl,h1,h2⟩
 ·cases hc
theorem wJz {b:BinOp} {f:Int->Int->Int} {x y:AOd} {op:Op} (hc:wCV b x y op=true)
  (hrun:∀ (o:Oper) (σ:Env) (w:World) t x' y' t' k m n,o.op=.binOp b t x' y' t'->ev σ x'=.int k m->ev σ y'=.int k n->Runs P σ w o (.int k (k.wrap (f m n))) w) :
  OkP P op (fun σ h=>okV h (wJi f (evA σ x) (evA σ y))):=by
 intro σA h v h' hr
 obtain ⟨t,x',y',t',rfl,h1,h2⟩:=wFK hc
 obtain ⟨hr2,rfl⟩:=wBl hr
 obtain ⟨k,m,n,e1,e2,rfl,e3⟩:=wHn hr2
 refine ⟨rfl,fun μ σ hE=>⟨_,rfl,fun o w ho=>?_⟩⟩
 have g1:=wAF h1 hE;rw [e1] at g1
 have g2:=wAF h2 hE;rw [e2] at g2
 have:=hrun o σ w t x' y' t' k m n ho g1 g2
 rwa [e3] at this
theorem p_add {x y:AOd} {op:Op} (hc:wCV .add x y op=true):OkP P op (wMb x y) :=
 wJz hc fun o σ w t x' y' t' k m n ho h1 h2=>⟨by rw [ho];rfl,by simp [execOp,ho,h1,h2,binOp,eqGuard,Op.intArith]⟩
theorem p_sub {x y:AOd} {op:Op} (hc:wCV .sub x y op=true):OkP P op (wMc x y) :=
 wJz hc fun o σ w t x' y' t' k m n ho h1 h2=>⟨by rw [ho];rfl,by simp [execOp,ho,h1,h2,binOp,eqGuard,Op.intArith];rfl⟩
theorem p_mul {x y:AOd} {op:Op} (hc:wCV .mul x y op=true):OkP P op (wMd x y) :=
 wJz hc fun o σ w t x' y' t' k m n ho h1 h2=>⟨by rw [ho];rfl,by simp [execOp,ho,h1,h2,binOp,eqGuard,Op.intArith]⟩
theorem wRi {b:BinOp} {f:Int->Int->Int} {x y:AOd} {op:Op} (hc:wCV b x y op=true)
  (hrun:∀ (o:Oper) (σ:Env) (w:World) t x' y' t' k m n,o.op=.binOp b t x' y' t'->ev σ x'=.int k m->ev σ y'=.int k n->n ≠ 0->k.wrap (f m n)=f m n->Runs P σ w o (.int k (f m n)) w) :
  OkP P op (fun σ h=>okV h (div f (evA σ x) (evA σ y))):=by
 intro σA h v h' hr
 obtain ⟨t,x',y',t',rfl,h1,h2⟩:=wFK hc
 obtain ⟨hr2,rfl⟩:=wBl hr
 obtain ⟨k,m,n,e1,e2,rfl,e3,e4⟩:=wOi hr2
 refine ⟨rfl,fun μ σ hE=>⟨_,rfl,fun o w ho=>?_⟩⟩
 have g1:=wAF h1 hE;rw [e1] at g1
 have g2:=wAF h2 hE;rw [e2] at g2
 exact hrun o σ w t x' y' t' k m n ho g1 g2 e4 e3
theorem p_quo {x y:AOd} {op:Op} (hc:wCV .quo x y op=true):OkP P op (wMe x y) :=
 wRi hc fun o σ w t x' y' t' k m n ho h1 h2 h3 h4=>⟨by rw [ho];rfl,by simp [execOp,ho,h1,h2,binOp,eqGuard,Op.intDiv,h3,h4]⟩
theorem p_rem {x y:AOd} {op:Op} (hc:wCV .rem x y op=true):OkP P op (wMf x y) :=
 wRi hc fun o σ w t x' y' t' k m n ho h1 h2 h3 h4=>⟨by rw [ho];rfl,by simp [execOp,ho,h1,h2,binOp,eqGuard,Op.intDiv,h3]⟩
theorem wLb {b:BinOp} {f:Int->Int->Bool} {x y:AOd} {op:Op} (hc:wCV b x y op=true)
  (hrun:∀ (o:Oper) (σ:Env) (w:World) t x' y' t' k m n,o.op=.binOp b t x' y' t'->ev σ x'=.int k m->ev σ y'=.int k n->Runs P σ w o (.bool (f m n)) w) :
  OkP P op (fun σ h=>okV h (wOc f (evA σ x) (evA σ y))):=by
 intro σA h v h' hr
 obtain ⟨t,x',y',t',rfl,h1,h2⟩:=wFK hc
 obtain ⟨hr2,rfl⟩:=wBl hr
 obtain ⟨k,m,n,e1,e2,rfl⟩:=wNH hr2
 refine ⟨rfl,fun μ σ hE=>⟨_,rfl,fun o w ho=>?_⟩⟩
 have g1:=wAF h1 hE;rw [e1] at g1
 have g2:=wAF h2 hE;rw [e2] at g2
 exact hrun o σ w t x' y' t' k m n ho g1 g2
theorem p_lss {x y:AOd} {op:Op} (hc:wCV .lss x y op=true):OkP P op (wMg x y) :=
 wLb hc fun o σ w t x' y' t' k m n ho h1 h2=>(Runs.lss ho h1 h2).to (by rw [wGn])
theorem p_leq {x y:AOd} {op:Op} (hc:wCV .leq x y op=true):OkP P op (wMh x y) :=
 wLb hc fun o σ w t x' y' t' k m n ho h1 h2=>(Runs.leq ho h1 h2).to (by rw [wND])
theorem p_gtr {x y:AOd} {op:Op} (hc:wCV .gtr x y op=true):OkP P op (wMi x y) :=
 wLb hc fun o σ w t x' y' t' k m n ho h1 h2=>(Runs.gtr ho h1 h2).to (by rw [wGn])
theorem p_geq {x y:AOd} {op:Op} (hc:wCV .geq x y op=true):OkP P op (wMj x y) :=
 wLb hc fun o σ w t x' y' t' k m n ho h1 h2=>(Runs.geq ho h1 h2).to (by rw [wND])
theorem p_eql {x y:AOd} {op:Op} (hc:wCV .eql x y op=true):OkP P op (wMk x y) :=
 wLb hc fun o σ w t x' y' t' k m n ho h1 h2=>(Runs.eql ho h1 h2).to (by rw [wDq])
theorem p_neq {x y:AOd} {op:Op} (hc:wCV .neq x y op=true):OkP P op (wMl x y) :=
 wLb hc fun o σ w t x' y' t' k m n ho h1 h2=>(Runs.neq ho h1 h2).to (by rw [wDq];simp)
def wPz (x:AOd):Op->Bool
 | .unOp .neg _ y=>wCD x y
 | _=>false
theorem p_neg {x:AOd} {op:Op} (hc:wPz x op=true):OkP P op (wMm x):=by
 intro σA h v h' hr
 unfold wPz at hc
 split at hc
 ·obtain ⟨hr2,rfl⟩:=wBl hr
  obtain ⟨k,m,n,e1,e2,rfl,e3⟩:=wHn hr2
  rw [e2] at e1
  simp only at e1
  cases e1
  refine ⟨rfl,fun μ σ hE=>⟨_,rfl,fun o w ho=>?_⟩⟩
  have g2:=wAF hc hE;rw [e2] at g2
  refine ⟨by rw [ho];rfl,?_⟩
  have:ev σ _=.int k n:=g2
  simp only [execOp,ho,this,Op.unary,Op.intArith,Sem.run_bind,Sem.run_pure,Result.andThen_ok]
  rw [show (0:Int) - n=Int.sub 0 n from rfl,e3]
 ·cases hc
def wQA (x:AOd):Op->Bool
 | .unOp .not _ y=>wCD x y
 | _=>false
theorem p_not {x:AOd} {op:Op} (hc:wQA x op=true):OkP P op (wJm x):=by
 intro σA h v h' hr
 unfold wQA at hc
 split at hc
 ·unfold wJm at hr
  split at hr
  ·rename_i hb;cases hr
   refine ⟨rfl,fun μ σ hE=>⟨_,rfl,fun o w ho=>?_⟩⟩
   have g:=wAF hc hE;rw [hb] at g
   exact Runs.not ho g
  ·cases hr
 ·cases hc
def wNI:TypeDesc->Option IntKind
 | .int k=>some k
 | _=>none
def wQB (k:IntKind) (x:AOd):Op->Bool
 | .convert s t y=>wDy P s (fun d=>(wNI d).isSome) && (wDy P t (fun d=>match wNI d with | some k'=>keq k k' | none=>false) && wCD x y)
 | _=>false
theorem p_cvt {k:IntKind} {x:AOd} {op:Op} (hc:wQB (P:=P) k x op=true):OkP P op (wJn k x):=by
 intro σA h v h' hr
 unfold wQB at hc
 split at hc
 ·simp only [hH] at hc
  obtain ⟨c1,c2,c3⟩:=hc
  unfold wJn at hr
  split at hr
  ·rename_i k0 n hb
   obtain ⟨hi,hr⟩:=wBf hr
   cases hr
   refine ⟨rfl,fun μ σ hE=>⟨_,rfl,fun o w ho=>?_⟩⟩
   have g:=wAF c3 hE;rw [hb] at g
   obtain ⟨d,d1,d2⟩:=wAe c1
   obtain ⟨e,e1,e2⟩:=wAe c2
   cases d <;> first | (cases d2;done) | skip
   cases e <;> first | (cases e2;done) | skip
   have:=wBk e2
   subst this
   have g':ev σ _=.int k0 n:=g
   exact ⟨by rw [ho];rfl,by simp [execOp,ho,g',convert,wAm d1,wAm e1,Conv.intToInt,wIQ hi]⟩
  ·cases hr
 ·cases hc
def wQC (f:Pos) (fi ca:List AOd):Op->Bool
 | .makeFunc (.func g) fi' ca'=>nB f.nat (g + 1) && (wJB fi fi'.toList && wJB ca ca'.toList)
 | _=>false
theorem p_mkf {f:Pos} {fi ca:List AOd} {op:Op} (hc:wQC f fi ca op=true):OkP P op (wLX f fi ca):=by
 intro σA h v h' hr
 cases hr
 unfold wQC at hc
 split at hc
 ·simp only [hH] at hc
  obtain ⟨c1,c2,c3⟩:=hc
  refine ⟨rfl,fun μ σ hE=>⟨_,⟨_,_,wGG c2 hE,wGG c3 hE,rfl⟩,fun o w ho=>?_⟩⟩
  have e:=nA c1
  refine ⟨by rw [ho];rfl,?_⟩
  simp [execOp,ho,Instr.makeFunc,e,<- kJ]
 ·cases hc
def wQD (i:Nat) (x:AOd):Op->Bool
 | .extract y j=>nB i j && wCD x y
 | _=>false
theorem p_ext {i:Nat} {x:AOd} {op:Op} (hc:wQD i x op=true):OkP P op (wJt i x):=by
 intro σA h v h' hr
 unfold wQD at hc
 split at hc
 ·simp only [hH] at hc
  have e:=nA hc.1
  subst e
  unfold wJt at hr
  split at hr
  ·rename_i l hb
   obtain ⟨hr2,rfl⟩:=wBl hr
   refine ⟨rfl,fun μ σ hE=>?_⟩
   have g:=wAF hc.2 hE;rw [hb] at g
   obtain ⟨vs,g1,g2⟩:=g
   rw [wFp] at hr2
   obtain ⟨cv,g3,g4⟩:=wEj g1 hr2
   exact ⟨cv,g4,fun o w ho=>Runs.ext ho g2 (by simpa using g3)⟩
  ·cases hr
 ·cases hc
end
end
end Go.KX
namespace Go.KX
noncomputable section
open Go.RowKit Go.KL
section
variable {C:Chk} {P:Program} {μ μ':Mu} {w w':World} {h h':AH} {σ:Env} {σA:Tr AV} {t e:TypeId} {o:Oper}
def wQE (P:Program) (ne:Bool) (x y:AOd):Op->Bool
 | .binOp b t x' y' _=>(match ne with | true=>b == .neq | false=>b == .eql) && (wDy P t (fun d=>match d with | .bool=>true | _=>false) && (wCD x x' && wCD y y'))
 | _=>false
theorem wHo (ne b:Bool):(ne != b)=(match ne with | true=>!b | false=>b):=by cases ne <;> cases b <;> rfl
theorem p_eqb {ne:Bool} {x y:AOd} {op:Op} (hc:wQE P ne x y op=true):OkP P op (wJj ne x y):=by
 intro σA h v h' hr
 unfold wQE at hc
 split at hc
 ·simp only [hH] at hc
  obtain ⟨c0,c1,c2,c3⟩:=hc
  unfold wJj at hr
  split at hr
  ·rename_i a b e1 e2
   cases hr
   refine ⟨rfl,fun μ σ hE=>⟨_,rfl,fun o w ho=>?_⟩⟩
   have g1:=wAF c2 hE;rw [e1] at g1
   have g2:=wAF c3 hE;rw [e2] at g2
   obtain ⟨d,d1,d2⟩:=wAe c1
   cases d <;> first | (cases d2;done) | skip
   cases ne
   ·have:=eq_of_beq c0;subst this
    exact (Runs.eqB ho g1 g2 (wAm d1)).to (by rw [wHo])
   ·have:=eq_of_beq c0;subst this
    exact (Runs.neB ho g1 g2 (wAm d1)).to (by rw [wHo])
  ·cases hr
 ·cases hc
def nilD (k:Nat) (d:TypeDesc):Bool:=match k,d with
 | 0,.pointer _=>true
 | 1,.slice _=>true
 | 2,.map _ _=>true
 | 3,.func _ _ _=>true
 | _,_=>false
theorem wNJ {k:Nat} {d:TypeDesc} {a b:AV} {r:Bool} {x y:Value} (hu:P.underlying t=some d) (hd:nilD k d=true) (hr:wLT k a b=some r) (hx:Rv μ a x) (hy:Rv μ b y) (w:World):(Op.equal t x y).run P w=.ok r w:=by
 unfold Op.equal Op.maxDepth
 rw [show (10000:Nat)=9999 + 1 from rfl,Op.equalIn]
 unfold wLT at hr
 split at hr <;> cases hr <;> simp only [Rv] at hx hy <;> (cases d <;> first | (cases hd;done) | skip) <;>
  (try obtain ⟨_,_,_,_,_,rfl⟩:=hx) <;> (try obtain ⟨_,_,_,_,rfl⟩:=hx) <;> (try obtain ⟨_,_,_,rfl⟩:=hx) <;> (try obtain ⟨_,_,rfl⟩:=hx) <;> (try subst hx) <;>
  (try obtain ⟨_,_,_,_,_,rfl⟩:=hy) <;> (try obtain ⟨_,_,_,_,rfl⟩:=hy) <;> (try obtain ⟨_,_,_,rfl⟩:=hy) <;> (try obtain ⟨_,_,rfl⟩:=hy) <;> (try subst hy) <;>
  simp only [Sem.run_bind,wAm hu,Result.andThen_ok,Sem.run_pure] <;> rfl
theorem wKA {k:Nat} {a b:AV} {r:Bool} {x y:Value} (hr:wLT k a b=some r) (hx:Rv μ a x) (hy:Rv μ b y) (op:BinOp) (p q:Operand) (w:World):(eqGuard op t p q x y).run P w=.ok () w:=by
 unfold wLT at hr
 split at hr <;> cases hr <;> simp only [Rv] at hx hy <;>
  (try obtain ⟨_,_,_,_,_,rfl⟩:=hx) <;> (try obtain ⟨_,_,_,_,rfl⟩:=hx) <;> (try obtain ⟨_,_,_,rfl⟩:=hx) <;> (try obtain ⟨_,_,rfl⟩:=hx) <;> (try subst hx) <;>
  (try obtain ⟨_,_,_,_,_,rfl⟩:=hy) <;> (try obtain ⟨_,_,_,_,rfl⟩:=hy) <;> (try obtain ⟨_,_,_,rfl⟩:=hy) <;> (try obtain ⟨_,_,rfl⟩:=hy) <;> (try subst hy) <;>
  simp only [eqGuard] <;> (cases op <;> rfl)
def wQF (P:Program) (k:Nat) (ne:Bool) (x y:AOd):Op->Bool
 | .binOp b t x' y' _=>(match ne with | true=>b == .neq | false=>b == .eql) && (wDy P t (nilD k) && (wCD x x' && wCD y y'))
 | _=>false
theorem p_eqn {k:Nat} {ne:Bool} {x y:AOd} {op:Op} (hc:wQF P k ne x y op=true):OkP P op (wJk k ne x y):=by
 intro σA h v h' hr
 unfold wQF at hc
 split at hc
 ·rename_i b t x' y' t'
  simp only [hH] at hc
  obtain ⟨c0,c1,c2,c3⟩:=hc
  unfold wJk at hr
  split at hr
  ·rename_i r e1
   cases hr
   refine ⟨rfl,fun μ σ hE=>⟨_,rfl,fun o w ho=>?_⟩⟩
   have g1:=wAF c2 hE
   have g2:=wAF c3 hE
   obtain ⟨d,d1,d2⟩:=wAe c1
   have g3:=wNJ d1 d2 e1 g1 g2
   have g4:=fun op=>wKA (P:=P) (t:=t) e1 g1 g2 op x' y'
   refine ⟨by rw [ho];rfl,?_⟩
   generalize hX:ev σ x'=X at g1 g3 g4
   generalize hY:ev σ y'=Y at g2 g3 g4
   have nint:(∀ k n,X ≠ .int k n)/\(∀ k n,X ≠ .float k n)/\(∀ k n m,X ≠ .complex k n m)/\(∀ s,X ≠ .string s):=by
    unfold wLT at e1
    split at e1 <;> cases e1 <;> rename_i e2 e3 <;> rw [e2] at g1 <;> simp only [Rv] at g1 <;>
     (try obtain ⟨_,_,_,_,_,rfl⟩:=g1) <;> (try obtain ⟨_,_,_,_,rfl⟩:=g1) <;> (try obtain ⟨_,_,_,rfl⟩:=g1) <;> (try obtain ⟨_,_,rfl⟩:=g1) <;> (try subst g1) <;>
     exact ⟨by simp,by simp,by simp,by simp⟩
   obtain ⟨n1,n2,n3,n4⟩:=nint
   cases ne
   ·have:=eq_of_beq c0;subst this
    simp only [execOp,ho,Sem.run_bind,hX,hY,g4 .eql w,Result.andThen_ok]
    have:(binOp .eql t X Y).run P w=.ok (.bool r) w:=by
     cases X <;> first | exact absurd rfl (n1 _ _) | exact absurd rfl (n2 _ _) | exact absurd rfl (n3 _ _ _) | exact absurd rfl (n4 _) | (simp only [binOp,Sem.run_bind,g3 w,Result.andThen_ok];rfl)
    rw [this]
    simp [wHo]
   ·have:=eq_of_beq c0;subst this
    simp only [execOp,ho,Sem.run_bind,hX,hY,g4 .neq w,Result.andThen_ok]
    have:(binOp .neq t X Y).run P w=.ok (.bool (!r)) w:=by
     cases X <;> first | exact absurd rfl (n1 _ _) | exact absurd rfl (n2 _ _) | exact absurd rfl (n3 _ _ _) | exact absurd rfl (n4 _) | (simp only [binOp,Sem.run_bind,g3 w,Result.andThen_ok];rfl)
    rw [this]
    simp [wHo]
  ·cases hr
 ·cases hc
mutual
def Sh.depth:Sh->Nat
 | .int=>1
 | .bool=>1
 | .str fs=>wKn fs + 1
def wKn:List (Nat × Nat × Sh)->Nat
 | []=>0
 | (_,_,s) :: fs=>Nat.max s.depth (wKn fs)
end
mutual
def wKB (P:Program):Sh->TypeId->Bool
 | .int,t=>wDy P t fun d=>(wNI d).isSome
 | .bool,t=>wDy P t fun d=>match d with | .bool=>true | _=>false
 | .str fs,t=>(!P.stoodInHeld t) && wDy P t fun d=>match d with | .struct gs=>wLc P fs gs.toList | _=>false
def wLc (P:Program):List (Nat × Nat × Sh)->List Field->Bool
 | [],[]=>true
 | (off, sz, s) :: fs, g :: gs => (g.name != "_") && (nB g.offset off && (szT P g.type sz && (wKB P s g.type && wLc P fs gs)))
 | _,_=>false
end
theorem wNK {s:Sh} (hc:wKB P s t=true) (w:World):(isAgg t).run P w=.ok (match s with | .str _=>true | _=>false) w:=by
 cases s with
 | int =>
  obtain ⟨d,h1,h2⟩:=wAe hc
  rw [wGo h1];cases d <;> first | rfl | cases h2
 | bool =>
  obtain ⟨d,h1,h2⟩:=wAe hc
  rw [wGo h1];cases d <;> first | rfl | cases h2
 | str fs =>
  simp only [wKB,hH] at hc
  obtain ⟨d,h1,h2⟩:=wAe hc.2
  rw [wGo h1];cases d <;> first | rfl | cases h2
theorem wJC {s:Sh} {l:List AV} {vs:List Value} {off sz:Nat} {a:AV} (hc:wKB P s t=true) (hz:szT P t sz=true) (hp:wOd s l off sz=some a) (hl:RvL μ l vs):∃ v,Rv μ a v/\∀ w,(part t vs.toArray off).run P w=.ok v w:=by
 have hag:=wNK hc
 unfold wOd at hp
 split at hp
 ·split at hp
  ·rename_i r hs
   cases hp
   obtain ⟨h1,h2⟩:=wEk hs hl
   exact ⟨_,⟨_,h1,rfl⟩,fun w=>wIF hag (wDU hz) rfl⟩
  ·cases hp
 ·rename_i hne
  rw [wFp] at hp
  obtain ⟨v,h1,h2⟩:=wEj hl hp
  refine ⟨v,h2,fun w=>wGP (fun w=>?_) h1⟩
  rw [hag w]
  cases s <;> first | rfl | exact absurd rfl (hne _)
mutual
theorem wKo:∀ (s:Sh) (t:TypeId) (d:Nat) (a b:AV) (x y:Value) (r:Bool),wKB P s t=true->s.depth <= d->wOe s a b=some r->Rv μ a x->Rv μ b y->∀ w,(Op.equalIn d t x y).run P w=.ok r w
 | .int,t,d,a,b,x,y,r,hc,hd,hr,hx,hy,w=>by
  obtain ⟨d,rfl⟩:∃ e,d=e + 1:=⟨d - 1,by simp only [Sh.depth] at hd;omega⟩
  unfold wOe at hr
  split at hr <;> first | (cases hr;done) | skip
  all_goals (try (rename_i h0;cases h0))
  split at hr <;> cases hr
  rename_i hk
  obtain ⟨dd,d1,d2⟩:=wAe hc
  cases dd <;> first | (cases d2;done) | skip
  simp only [Rv] at hx hy
  subst hx hy
  have:=wBk hk;subst this
  simp [Op.equalIn,wAm d1,wDq,wJZ]
 | .bool,t,d,a,b,x,y,r,hc,hd,hr,hx,hy,w=>by
  obtain ⟨d,rfl⟩:∃ e,d=e + 1:=⟨d - 1,by simp only [Sh.depth] at hd;omega⟩
  unfold wOe at hr
  split at hr <;> first | (cases hr;done) | skip
  all_goals (try (rename_i h0;cases h0))
  cases hr
  obtain ⟨dd,d1,d2⟩:=wAe hc
  cases dd <;> first | (cases d2;done) | skip
  simp only [Rv] at hx hy
  subst hx hy
  simp [Op.equalIn,wAm d1]
 | .str fs,t,d,a,b,x,y,r,hc,hd,hr,hx,hy,w=>by
  simp only [Sh.depth] at hd
  obtain ⟨d,rfl⟩:∃ e,d=e + 1:=⟨d - 1,by omega⟩
  unfold wOe at hr
  split at hr <;> first | (cases hr;done) | skip
  all_goals (try (rename_i h0;cases h0))
  simp only [wKB,hH,kE] at hc
  obtain ⟨dd,d1,d2⟩:=wAe hc.2
  cases dd <;> first | (cases d2;done) | skip
  rename_i gs
  obtain ⟨xs,h1,rfl⟩:=hx
  obtain ⟨ys,h2,rfl⟩:=hy
  have hf:P.fieldsOf t=gs:=by unfold Program.fieldsOf;rw [d1]
  rw [run_equalIn_agg w d t _ _ (by rw [hf];exact d1) hc.1,hf]
  exact wKp fs gs.toList d _ _ xs ys r d2 (by omega) hr h1 h2 w
theorem wKp:∀ (fs:List (Nat × Nat × Sh)) (gs:List Field) (d:Nat) (l k:List AV) (xs ys:List Value) (r:Bool),wLc P fs gs=true->wKn fs <= d->wRY fs l k=some r->RvL μ l xs->RvL μ k ys ->
  ∀ w,(Op.eqFields d xs.toArray ys.toArray gs).run P w=.ok r w
 | [],[],d,l,k,xs,ys,r,hc,hd,hr,hx,hy,w=>by
  simp only [wRY] at hr;cases hr;rfl
 | (off,sz,s) :: fs,g :: gs,d,l,k,xs,ys,r,hc,hd,hr,hx,hy,w=>by
  simp only [wLc,hH] at hc
  obtain ⟨c1,c2,c3,c4,c5⟩:=hc
  have e:=nA c2
  subst e
  simp only [wRY] at hr
  split at hr
  ·rename_i a b ha hb
   obtain ⟨u,u1,u2⟩:=wJC c4 c3 ha hx
   obtain ⟨v,v1,v2⟩:=wJC c4 c3 hb hy
   have hne : g.name ≠ "_" := by simpa using c1
   have hd1:s.depth <= d:=nX (Nat.le_max_left _ _) hd
   have hd2:wKn fs <= d:=nX (Nat.le_max_right _ _) hd
   cases hq:wOe s a b with
   | none=>rw [hq] at hr;cases hr
   | some q =>
    have hE:=wKo s g.type d a b u v q c4 hd1 hq u1 v1
    rw [hq] at hr
    cases q with
    | true =>
     simp only at hr
     have hF:=wKp fs gs d l k xs ys r c5 hd2 hr hx hy
     simp [Op.eqFields,hne,u2,v2,hE,hF,Result.andThen]
    | false =>
     simp only [kh] at hr
     subst hr
     simp [Op.eqFields,hne,u2,v2,hE,Result.andThen]
  ·cases hr
 | [],_ :: _,d,l,k,xs,ys,r,hc,hd,hr,hx,hy,w=>by simp [wLc] at hc
 | _ :: _,[],d,l,k,xs,ys,r,hc,hd,hr,hx,hy,w=>by simp [wLc] at hc
end
theorem wOj {fs:List (Nat × Nat × Sh)} {r:Bool}:∀ {a b:AV},wOe (.str fs) a b=some r->∃ l k,a=.agg l/\b=.agg k:=by
 intro a b h
 cases a <;> cases b <;> first | exact ⟨_,_,rfl,rfl⟩ | (simp [wOe] at h;done)
def wQG (P:Program) (ne:Bool) (s:Sh) (x y:AOd):Op->Bool
 | .binOp b t x' y' _=>(match ne with | true=>b == .neq | false=>b == .eql) && (nK s.depth 10000 && (wKB P s t && ((match s with | .str _=>true | _=>false) && ((!P.eqGuardType P.depth t) && (wCD x x' && wCD y y')))))
 | _=>false
theorem p_eqs {ne:Bool} {s:Sh} {x y:AOd} {op:Op} (hc:wQG P ne s x y op=true):OkP P op (wJl ne s x y):=by
 intro σA h v h' hr
 unfold wQG at hc
 split at hc
 ·rename_i b t x' y' t'
  simp only [hH,kE] at hc
  obtain ⟨c0,c1,c2,c3,c4,c5,c6⟩:=hc
  unfold wJl at hr
  split at hr
  ·rename_i r e1
   cases hr
   refine ⟨rfl,fun μ σ hE=>⟨_,rfl,fun o w ho=>?_⟩⟩
   have g1:=wAF c5 hE
   have g2:=wAF c6 hE
   have g3:∀ w,(Op.equal t (ev σ x') (ev σ y')).run P w=.ok r w:=wKo s t 10000 _ _ _ _ r c2 (nM c1) e1 g1 g2
   cases s <;> first | (cases c3;done) | skip
   obtain ⟨l,k,h1,h2⟩:=wOj e1
   rw [h1] at g1;rw [h2] at g2
   obtain ⟨xs,_,g1⟩:=g1
   obtain ⟨ys,_,g2⟩:=g2
   rw [g1,g2] at g3
   refine ⟨by rw [ho];rfl,?_⟩
   cases ne
   ·have:=eq_of_beq c0;subst this
    simp [execOp,ho,g1,g2,binOp,eqGuard,c4,g3,wHo]
   ·have:=eq_of_beq c0;subst this
    simp [execOp,ho,g1,g2,binOp,eqGuard,c4,g3,wHo]
  ·cases hr
 ·cases hc
end
end
end Go.KX
namespace Go.KX
noncomputable section
open Go.RowKit Go.KL
section
variable {C:Chk} {P:Program} {μ μ':Mu} {w w':World} {h h':AH} {σ:Env} {σA:Tr AV} {t e:TypeId} {o:Oper}
def wQH (P:Program) (off:Nat) (x:AOd):Op->Bool
 | .fieldAddr t y i=>wDy P t (fun d=>match d with
   | .struct fs=>match fs[i]? with
    | some f=>nB f.offset off && (match P.info? f.type with | some j=>nG 0 j.size | none=>false)
    | none=>false
   | _=>false) && wCD x y
 | _=>false
theorem p_fad {off:Nat} {x:AOd} {op:Op} (hc:wQH P off x op=true):OkP P op (wJp off x):=by
 intro σA h v h' hr
 unfold wQH at hc
 split at hc
 ·rename_i t y i
  simp only [hH] at hc
  obtain ⟨c1,c2⟩:=hc
  unfold wJp at hr
  split at hr
  ·rename_i b oo hb
   cases hr
   refine ⟨rfl,fun μ σ hE=>?_⟩
   have g:=wAF c2 hE;rw [hb] at g
   obtain ⟨c,g1,g2⟩:=g
   refine ⟨_,⟨c,g1,rfl⟩,fun o w ho=>?_⟩
   obtain ⟨d,d1,d2⟩:=wAe c1
   split at d2
   ·rename_i fs
    split at d2
    ·rename_i f hf
     simp only [hH] at d2
     have e:=nA d2.1
     subst e
     have d3:=d2.2
     split at d3
     ·rename_i j hj
      have hpos:0 < j.size:=by simpa [nD] using d3
      obtain ⟨n,hn⟩:∃ n,j.size=n + 1:=⟨j.size - 1,by omega⟩
      exact Runs.fa (n:=n) ho g2 (wAm d1) hf (fun w=>by rw [<- hn];simp [sizeOf,typeInfo,hj])
     ·cases d3
    ·cases d2
   ·cases d2
  ·cases hr
 ·cases hc
def wQI (P:Program) (off:Nat) (x:AOd):Op->Bool
 | .field t y i=>wDy P t (fun d=>match d with
   | .struct fs=>match fs[i]? with
    | some f=>nB f.offset off && wOh P f.type false
    | none=>false
   | _=>false) && wCD x y
 | _=>false
def wNL (P:Program) (off n:Nat) (x:AOd):Op->Bool
 | .field t y i=>wDy P t (fun d=>match d with
   | .struct fs=>match fs[i]? with
    | some f=>nB f.offset off && (wOh P f.type true && szT P f.type n)
    | none=>false
   | _=>false) && wCD x y
 | _=>false
theorem p_fld {off:Nat} {x:AOd} {op:Op} (hc:wQI P off x op=true):OkP P op (wJq off x):=by
 intro σA h v h' hr
 unfold wQI at hc
 split at hc
 ·rename_i t y i
  simp only [hH] at hc
  obtain ⟨c1,c2⟩:=hc
  unfold wJq at hr
  split at hr
  ·rename_i l hb
   obtain ⟨hr2,rfl⟩:=wBl hr
   refine ⟨rfl,fun μ σ hE=>?_⟩
   have g:=wAF c2 hE;rw [hb] at g
   obtain ⟨vs,g1,g2⟩:=g
   rw [wFp] at hr2
   obtain ⟨cv,g3,g4⟩:=wEj g1 hr2
   refine ⟨cv,g4,fun o w ho=>?_⟩
   obtain ⟨d,d1,d2⟩:=wAe c1
   split at d2
   ·split at d2
    ·rename_i f hf
     simp only [hH] at d2
     have e:=nA d2.1
     subst e
     exact Runs.fld ho g2 (wAm d1) hf (wGP (wEK d2.2) g3)
    ·cases d2
   ·cases d2
  ·cases hr
 ·cases hc
theorem wDN {x:Option (List AV)} {v:AV} (hr:wHl x=some v):∃ l,x=some l/\v=.agg l:=by
 cases x <;> cases hr;exact ⟨_,rfl,rfl⟩
theorem wRj {off n:Nat} {x:AOd} {op:Op} (hc:wNL P off n x op=true):OkP P op (wGi off n x):=by
 intro σA h v h' hr
 unfold wNL at hc
 split at hc
 ·rename_i t y i
  simp only [hH] at hc
  obtain ⟨c1,c2⟩:=hc
  unfold wGi at hr
  split at hr
  ·rename_i l hb
   obtain ⟨hr2,rfl⟩:=wBl hr
   obtain ⟨r,hr3,rfl⟩:=wDN hr2
   refine ⟨rfl,fun μ σ hE=>?_⟩
   have g:=wAF c2 hE;rw [hb] at g
   obtain ⟨vs,g1,g2⟩:=g
   obtain ⟨g3,g4⟩:=wEk hr3 g1
   refine ⟨_,⟨_,g3,rfl⟩,fun o w ho=>?_⟩
   obtain ⟨d,d1,d2⟩:=wAe c1
   split at d2
   ·split at d2
    ·rename_i f hf
     simp only [hH] at d2
     have e:=nA d2.1
     subst e
     exact Runs.fld ho g2 (wAm d1) hf (wIF (wEK d2.2.1) (wDU d2.2.2) rfl)
    ·cases d2
   ·cases d2
  ·cases hr
 ·cases hc
theorem wCB {a:AV} {n:Nat} (hr:wGc a=some n):a=.int .i64 n:=by
 unfold wGc at hr
 split at hr
 ·cases hr;rfl
 ·cases hr
def wQJ (P:Program) (sz:Nat) (x y:AOd):Op->Bool
 | .indexAddr t x' y'=>wDy P t (fun d=>match d with
   | .slice e=>szT P e sz
   | _=>false) && (wCD x x' && wCD y y')
 | _=>false
theorem p_iad {sz:Nat} {x y:AOd} {op:Op} (hc:wQJ P sz x y op=true):OkP P op (wJr sz x y):=by
 intro σA h v h' hr
 unfold wQJ at hc
 split at hc
 ·rename_i t x' y'
  simp only [hH] at hc
  obtain ⟨c1,c2,c3⟩:=hc
  obtain ⟨d,d1,d2⟩:=wAe c1
  split at d2
  ·rename_i e
   unfold wJr at hr
   split at hr
   ·rename_i b off n c i hb hi
    obtain ⟨hlt,hr⟩:=wBf hr
    cases hr
    have hlt:i < n:=by simpa [nD] using hlt
    have hi:=wCB hi
    refine ⟨rfl,fun μ σ hE=>?_⟩
    have g:=wAF c2 hE;rw [hb] at g
    have k:=wAF c3 hE;rw [hi] at k
    obtain ⟨m,g1,g2,g3⟩:=g
    refine ⟨_,⟨m,g1,rfl⟩,fun o w ho=>?_⟩
    have:=Runs.ia (P:=P) (o:=o) (w:=w) (i:=(i:Int)) ho g3 k (wAm d1) (wDU d2) (by omega) (by omega)
    simpa using this
   ·rename_i b eo co n i hb hi
    obtain ⟨hlt,hr⟩:=wBf hr
    cases hr
    have hlt:i < n:=by simpa [nD] using hlt
    have hi:=wCB hi
    refine ⟨rfl,fun μ σ hE=>?_⟩
    have g:=wAF c2 hE;rw [hb] at g
    have k:=wAF c3 hE;rw [hi] at k
    obtain ⟨m,g1,g2,g3⟩:=g
    refine ⟨_,⟨m,g1,rfl⟩,fun o w ho=>?_⟩
    have:=Runs.ia (P:=P) (o:=o) (w:=w) (i:=(i:Int)) ho g3 k (wAm d1) (wDU d2) (by omega) (by omega)
    simpa using this
   ·cases hr
  ·cases d2
 ·cases hc
def wNM (P:Program) (sz n:Nat) (x y:AOd):Op->Bool
 | .indexAddr t x' y'=>wDy P t (fun d=>match d with
   | .array m e=>nB m n && szT P e sz
   | _=>false) && (wCD x x' && wCD y y')
 | _=>false
theorem wRk {sz n:Nat} {x y:AOd} {op:Op} (hc:wNM P sz n x y op=true):OkP P op (wGj sz n x y):=by
 intro σA h v h' hr
 unfold wNM at hc
 split at hc
 ·rename_i t x' y'
  simp only [hH] at hc
  obtain ⟨c1,c2,c3⟩:=hc
  obtain ⟨d,d1,d2⟩:=wAe c1
  split at d2
  ·rename_i m e
   simp only [hH] at d2
   have em:=nA d2.1
   subst em
   unfold wGj at hr
   split at hr
   ·rename_i b off i hb hi
    obtain ⟨hlt,hr⟩:=wBf hr
    cases hr
    have hlt:i < m:=by simpa [nD] using hlt
    have hi:=wCB hi
    refine ⟨rfl,fun μ σ hE=>?_⟩
    have g:=wAF c2 hE;rw [hb] at g
    have k:=wAF c3 hE;rw [hi] at k
    obtain ⟨q,g1,g3⟩:=g
    refine ⟨_,⟨q,g1,rfl⟩,fun o w ho=>?_⟩
    have:=Runs.iaA (P:=P) (o:=o) (w:=w) (i:=(i:Int)) ho g3 k (wAm d1) (wDU d2.2) (by omega) (by omega)
    simpa using this
   ·cases hr
  ·cases d2
 ·cases hc
def c_ix (P:Program) (n:Nat) (x y:AOd):Op->Bool
 | .index t x' y'=>wDy P t (fun d=>match d with
   | .array m e=>nB m n && (szT P e 1 && wOh P e false)
   | _=>false) && (wCD x x' && wCD y y')
 | _=>false
theorem p_ix {n:Nat} {x y:AOd} {op:Op} (hc:c_ix P n x y op=true):OkP P op (wPv n x y):=by
 intro σA h v h' hr
 unfold c_ix at hc
 split at hc
 ·rename_i t x' y'
  simp only [hH] at hc
  obtain ⟨c1,c2,c3⟩:=hc
  obtain ⟨d,d1,d2⟩:=wAe c1
  split at d2
  ·rename_i m e
   simp only [hH] at d2
   have em:=nA d2.1
   subst em
   unfold wPv at hr
   split at hr
   ·rename_i l i hb hi
    obtain ⟨hlt,hr⟩:=wBf hr
    obtain ⟨hr2,rfl⟩:=wBl hr
    have hlt:i < m:=by simpa [nD] using hlt
    have hi:=wCB hi
    refine ⟨rfl,fun μ σ hE=>?_⟩
    have g:=wAF c2 hE;rw [hb] at g
    have k:=wAF c3 hE;rw [hi] at k
    obtain ⟨vs,g1,g2⟩:=g
    rw [wFp] at hr2
    obtain ⟨cv,g3,g4⟩:=wEj g1 hr2
    refine ⟨cv,g4,fun o w ho=>?_⟩
    exact Runs.ixA (P:=P) (o:=o) (w:=w) (i:=(i:Int)) ho g2 k (wAm d1) (wDU d2.2.1) (by omega) (by omega) (wGP (wEK d2.2.2) (by simpa using g3))
   ·cases hr
  ·cases d2
 ·cases hc
def wQK (P:Program) (sz n:Nat) (x y:AOd):Op->Bool
 | .index t x' y'=>wDy P t (fun d=>match d with
   | .array m e=>nB m n && (szT P e sz && wOh P e true)
   | _=>false) && (wCD x x' && wCD y y')
 | _=>false
theorem p_ixA {sz n:Nat} {x y:AOd} {op:Op} (hc:wQK P sz n x y op=true):OkP P op (wJs sz n x y):=by
 intro σA h v h' hr
 unfold wQK at hc
 split at hc
 ·rename_i t x' y'
  simp only [hH] at hc
  obtain ⟨c1,c2,c3⟩:=hc
  obtain ⟨d,d1,d2⟩:=wAe c1
  split at d2
  ·rename_i m e
   simp only [hH] at d2
   have em:=nA d2.1
   subst em
   unfold wJs at hr
   split at hr
   ·rename_i l i hb hi
    obtain ⟨hlt,hr⟩:=wBf hr
    obtain ⟨hr2,rfl⟩:=wBl hr
    obtain ⟨r,hr3,rfl⟩:=wDN hr2
    have hlt:i < m:=by simpa [nD] using hlt
    have hi:=wCB hi
    refine ⟨rfl,fun μ σ hE=>?_⟩
    have g:=wAF c2 hE;rw [hb] at g
    have k:=wAF c3 hE;rw [hi] at k
    obtain ⟨vs,g1,g2⟩:=g
    obtain ⟨g3,g4⟩:=wEk hr3 g1
    refine ⟨_,⟨_,g3,rfl⟩,fun o w ho=>?_⟩
    exact Runs.ixA (P:=P) (o:=o) (w:=w) (i:=(i:Int)) ho g2 k (wAm d1) (wDU d2.2.1) (by omega) (by omega) (wIF (wEK d2.2.2) (wDU d2.2.1) (by simp))
   ·cases hr
  ·cases d2
 ·cases hc
def wPT:Option AOd->Option Operand->Bool
 | none,none=>true
 | some x,some y=>wCD x y
 | _,_=>false
theorem wNN {x:Option AOd} {y:Option Operand} {r:Option Nat} (hr:bnd σA x=some r) (hc:wPT x y=true) (hE:EnvR μ σA σ):(r=none/\y=none) \/ ∃ n z,r=some n/\y=some z/\ev σ z=.int .i64 n:=by
 cases x with
 | none =>
  cases y with
  | none=>cases hr;exact .inl ⟨rfl,rfl⟩
  | some _=>cases hc
 | some x =>
  cases y with
  | none=>cases hc
  | some y =>
   simp only [bnd] at hr
   split at hr
   ·rename_i n hn
    cases hr
    have:=wAF (show wCD x y=true from hc) hE
    rw [wCB hn] at this
    exact .inr ⟨n,y,rfl,rfl,this⟩
   ·cases hr
def vI (n:Nat):Value:=.int .i64 (n:Int)
theorem wGp {P:Program} {n y:Nat} {code:BoundsCode} (hle:n <= y) (w:World):(Instr.sliceBound (vI n) y code).run P w=.ok n w:=by
 have h1:(n:Int) <= y:=by omega
 simp [Instr.sliceBound,vI,asIntOf,h1]
theorem wEU {P:Program} {s:Bool} {len cap:Nat} {lo hi mx:Option Nat} {l hh m:Nat} (hm:m=mx.getD cap) (hh':hh=hi.getD len) (hl:l=lo.getD 0) (h1:l <= hh) (h2:hh <= m) (h3:m <= cap) (hmh:mx.isSome=true->hi.isSome=true) (w:World) :
  (Instr.sliceBounds s len cap (lo.map vI) (hi.map vI) (mx.map vI)).run P w=.ok (l,hh,m) w:=by
 subst hm hh' hl
 unfold Instr.sliceBounds
 cases mx <;> cases hi <;> cases lo <;> simp only [kj,kk] at h1 h2 h3 <;> (try (simp at hmh;done)) <;> simp [wGp h1,wGp h2,wGp h3]
theorem wGq {x:Option AOd} {y:Option Operand} {r:Option Nat} (hr:bnd σA x=some r) (hc:wPT x y=true) (hE:EnvR μ σA σ):y.map (ev σ)=r.map vI:=by
 rcases wNN hr hc hE with ⟨rfl,rfl⟩ | ⟨n,z,rfl,rfl,h1⟩
 ·rfl
 ·simp [h1,vI]
theorem wEm (b off n:Nat):(Addr.add ⟨b,off,none⟩ n)=⟨b,off + n,none⟩:=wDl b off n
theorem wNO {P:Program} {sz:Nat} {a v:AV} {x:Value} {lo hi mx:Option Nat} (hr0:wRZ sz a (orD lo 0) hi mx=some v) (hx:Rv μ a x) (hmh:mx.isSome=true->hi.isSome=true) :
  ∃ A len cap cv l hh m,x=.slice A len cap/\Rv μ v cv/\(∀ s w,(Instr.sliceBounds s len cap (lo.map vI) (hi.map vI) (mx.map vI)).run P w=.ok (l,hh,m) w) /\
   cv=.slice (if m=l then A else A.map (·.add (l * sz))) (hh - l) (m - l):=by
 obtain ⟨l,hl,hr⟩:∃ l,lo.getD 0=l/\wRZ sz a l hi mx=some v:=⟨_,rfl,by rw [<- wMa];exact hr0⟩
 clear hr0
 unfold wRZ at hr
 split at hr
 ·obtain ⟨hb,hr⟩:=wBf hr
  cases hr
  simp only [hH] at hb
  obtain ⟨⟨b1,b2⟩,b3⟩:=hb
  have l0:=nA b1
  have hx:x=.slice none 0 0:=hx
  subst hx
  have h2:hi.getD 0=0:=by cases hi with | none=>rfl | some n=>exact nA b2
  have h3:mx.getD 0=0:=by cases mx with | none=>rfl | some n=>exact nA b3
  refine ⟨none,0,0,_,0,0,0,rfl,(rfl:Rv μ .snil _),fun s w=>wEU h3.symm h2.symm (by rw [hl,l0]) (nH _) (nH _) (nH _) hmh w,by simp⟩
 ·rename_i b off n c
  obtain ⟨d,g1,g2,rfl⟩:=hx
  simp only [wMa] at hr
  obtain ⟨hb,hr⟩:=wBf hr
  cases hr
  simp only [hH,nQ] at hb
  obtain ⟨⟨b1,b2⟩,b3⟩:=hb
  refine ⟨_,n,c,_,l,hi.getD n,mx.getD c,rfl,⟨d,g1,by omega,rfl⟩,fun s w=>wEU rfl rfl hl.symm b1 b2 b3 hmh w,?_⟩
  by_cases e:mx.getD c=l
  ·simp [e]
  ·have:nB (mx.getD c) l=false:=by
    cases hq:nB (mx.getD c) l with
    | false=>rfl
    | true=>exact absurd (nA hq) e
   simp [e,this,wEm]
 ·rename_i b eo co n
  obtain ⟨d,g1,g2,rfl⟩:=hx
  simp only [wMa] at hr
  split at hr
  ·obtain ⟨hb,hr⟩:=wBf hr
   simp only [hH,nQ] at hb
   obtain ⟨b1,b2⟩:=hb
   have fin:∀ cv,cv=Value.slice (if d.2 - eo=l then some ⟨d.1,co,none⟩ else (some (⟨d.1,co,none⟩:Addr)).map (·.add (l * sz))) (hi.getD n - l) (d.2 - eo - l)->Rv μ v cv ->
     ∃ A len cap cv l hh m,Value.slice (some ⟨d.1,co,none⟩) n (d.2 - eo)=.slice A len cap/\Rv μ v cv/\(∀ s w,(Instr.sliceBounds s len cap (lo.map vI) (hi.map vI) ((none:Option Nat).map vI)).run P w=.ok (l,hh,m) w) /\
      cv=.slice (if m=l then A else A.map (·.add (l * sz))) (hh - l) (m - l):=fun cv e hv =>
    ⟨_,n,d.2 - eo,cv,l,hi.getD n,d.2 - eo,rfl,hv,fun s w=>wEU rfl rfl hl.symm b1 (by simp only [kj];omega) (nH _) hmh w,e⟩
   split at hr
   ·cases hr
    refine fin _ rfl ⟨d,g1,by omega,?_⟩
    simp [Addr.add]
   ·rename_i l0
    split at hr
    ·rename_i hlt
     cases hr
     have hlt:l < n:=by simpa [nD] using hlt
     refine fin _ rfl ⟨d,g1,by omega,?_⟩
     rw [if_neg (by omega)]
     simp [wEm,Nat.sub_sub]
    ·rename_i hlt
     cases hr
     have hlt:¬ l < n:=by
      intro hq
      have:nG l n=true:=by rw [nD];exact hq
      rw [this] at hlt;cases hlt
     have e1:hi.getD n - l=0:=by omega
     refine fin _ rfl ?_
     rw [e1]
     by_cases e2:d.2 - eo=l
     ·rw [if_pos e2];exact ⟨d,g1,co,by congr 1;omega⟩
     ·rw [if_neg e2];exact ⟨d,g1,co + l * sz,by simp only [ko,wEm];congr 1;omega⟩
  ·rename_i m
   obtain ⟨hb,hr⟩:=wBf hr
   cases hr
   simp only [hH,nQ] at hb
   obtain ⟨⟨b1,b2⟩,b3⟩:=hb
   refine ⟨_,n,d.2 - eo,_,l,hi.getD n,m,rfl,⟨d,g1,by omega,rfl⟩,fun s w=>wEU (mx:=some m) rfl rfl hl.symm b1 b2 (by simp only [kk];omega) hmh w,?_⟩
   by_cases e:m=l
   ·simp [e]
   ·have:nB m l=false:=by
     cases hq:nB m l with
     | false=>rfl
     | true=>exact absurd (nA hq) e
    simp [e,this,wEm]
 ·cases hr
def wQL (P:Program) (sz:Nat) (x:AOd) (lo hi mx:Option AOd):Op->Bool
 | .slice t y l m n=>wDy P t (fun d=>match d with
   | .slice e=>szT P e sz
   | _=>false) && (wCD x y && (wPT lo l && (wPT hi m && (wPT mx n && (!mx.isSome || hi.isSome)))))
 | _=>false
theorem p_slc {sz:Nat} {x:AOd} {lo hi mx:Option AOd} {op:Op} (hc:wQL P sz x lo hi mx op=true):OkP P op (wJo sz x lo hi mx):=by
 intro σA h v h' hr
 unfold wQL at hc
 split at hc
 ·rename_i t y l m n
  simp only [hH] at hc
  obtain ⟨c1,c2,c3,c4,c5,c6⟩:=hc
  obtain ⟨d,d1,d2⟩:=wAe c1
  split at d2
  ·rename_i e
   unfold wJo at hr
   split at hr
   ·rename_i rl rh rm h1 h2 h3
    obtain ⟨hr2,rfl⟩:=wBl hr
    refine ⟨rfl,fun μ σ hE=>?_⟩
    have hmh:rm.isSome=true->rh.isSome=true:=by
     intro hs
     rcases wNN h3 c5 hE with ⟨rfl,_⟩ | ⟨_,z,rfl,rfl,_⟩
     ·cases hs
     ·cases mx with
      | none=>simp [bnd] at h3
      | some _ =>
       cases hi with
       | none=>simp at c6
       | some _ =>
        rcases wNN h2 c4 hE with ⟨rfl,e0⟩ | ⟨_,_,rfl,_⟩
        ·subst e0;simp [wPT] at c4
        ·rfl
    obtain ⟨A,len,cap,cv,ll,hh,mm,e1,e2,e3,e4⟩:=wNO (P:=P) hr2 (wAF c2 hE) hmh
    refine ⟨cv,e2,fun o w ho=>⟨by rw [ho];rfl,?_⟩⟩
    have b1:=wGq h1 c3 hE
    have b2:=wGq h2 c4 hE
    have b3:=wGq h3 c5 hE
    simp [execOp,ho,Instr.sliceAt,Instr.slice,wAm d1,e1,b1,b2,b3,e3,wDU d2,e4]
   ·cases hr
  ·cases d2
 ·cases hc
def wNP (P:Program) (sz n:Nat) (x:AOd) (lo hi:Option AOd):Op->Bool
 | .slice t y l m none=>wDy P t (fun d=>match d with
   | .array k e=>nB k n && szT P e sz
   | _=>false) && (wCD x y && (wPT lo l && wPT hi m))
 | _=>false
theorem wRl {sz n:Nat} {x:AOd} {lo hi:Option AOd} {op:Op} (hc:wNP P sz n x lo hi op=true):OkP P op (wGh sz n x lo hi):=by
 intro σA h v h' hr
 unfold wNP at hc
 split at hc
 ·rename_i t y l m
  simp only [hH] at hc
  obtain ⟨c1,c2,c3,c4⟩:=hc
  obtain ⟨d,d1,d2⟩:=wAe c1
  split at d2
  ·rename_i k e
   simp only [hH] at d2
   have ek:=nA d2.1
   subst ek
   unfold wGh at hr
   split at hr
   ·rename_i rl rh b off h1 h2 hb
    obtain ⟨hr2,rfl⟩:=wBl hr
    refine ⟨rfl,fun μ σ hE=>?_⟩
    have g:=wAF c2 hE;rw [hb] at g
    obtain ⟨c,g1,g2⟩:=g
    obtain ⟨A,len,cap,cv,ll,hh,mm,e1,e2,e3,e4⟩:=wNO (P:=P) (μ:=μ) (x:=.slice (some ⟨c.1,off,none⟩) k k) hr2 ⟨c,g1,nH _,rfl⟩ (by intro hs;cases hs)
    cases e1
    refine ⟨cv,e2,fun o w ho=>⟨by rw [ho];rfl,?_⟩⟩
    have b1:=wGq h1 c3 hE
    have b2:=wGq h2 c4 hE
    have e3':=e3 false
    simp only [Option.map_none] at e3'
    simp [execOp,ho,Instr.sliceAt,wAm d1,g2,Instr.sureAddr,b1,b2,e3',wDU d2.2,e4]
    split <;> simp
   ·cases hr
  ·cases d2
 ·cases hc
end
end
end Go.KX
namespace Go.KX
noncomputable section
open Go.RowKit Go.KL
section
variable {C:Chk} {P:Program} {μ μ':Mu} {w w':World} {h h':AH} {σ:Env} {σA:Tr AV} {t e:TypeId} {o:Oper}
def wJD (place:Nat->Option (Nat × Nat)):List (Nat × Nat × AOd)->List (Nat × Operand)->Bool
 | [],[]=>true
 | (off,n,x) :: ps,(i,y) :: qs=>(match place i with | some (o,s)=>nB o off && nB s n | none=>false) && (wCD x y && wJD place ps qs)
 | _,_=>false
theorem wGr {place:Nat->Option (Nat × Nat)} (hE:EnvR μ σA σ):∀ {ps:List (Nat × Nat × AOd)} {qs:List (Nat × Operand)} {cs r:List AV} {CS:List Value},wIL σA cs ps=some r->wJD place ps qs=true->RvL μ cs CS ->
  ∃ R,lay place CS (qs.map fun (p:Nat × Operand)=>(p.1,ev σ p.2))=some R/\RvL μ r R/\R.length=CS.length
 | [],[],cs,r,CS,hr,_,hl=>by
  simp only [wIL] at hr;cases hr;exact ⟨CS,rfl,hl,rfl⟩
 | (off,n,x) :: ps,(i,y) :: qs,cs,r,CS,hr,hc,hl=>by
  simp only [wJD,hH] at hc
  obtain ⟨c1,c2,c3⟩:=hc
  split at c1
  ·rename_i o s hp
   simp only [hH] at c1
   have e1:=nA c1.1
   have e2:=nA c1.2
   subst e1 e2
   simp only [wIL] at hr
   split at hr
   ·rename_i hn
    have hn:=nA hn
    split at hr
    ·rename_i cs' ho
     obtain ⟨vs,v1,v2⟩:=wGF (wAF c2 hE)
     obtain ⟨g1,g2⟩:=wIO ho hl v1
     have hlen:vs.length=s:=by rw [wCl v1,<- wEJ,hn]
     obtain ⟨R,r1,r2,r3⟩:=wGr hE hr c3 g2
     refine ⟨R,?_,r2,by rw [r3,wBg]⟩
     rw [nI,lay,hp]
     simp only [v2,kB,hlen,beq_self_eq_true,Bool.true_and]
     rw [if_pos (by rw [nQ];omega)]
     exact r1
    ·cases hr
   ·cases hr
  ·cases c1
 | [],_ :: _,cs,r,CS,hr,hc,hl=>by simp [wJD] at hc
 | _ :: _,[],cs,r,CS,hr,hc,hl=>by simp [wJD] at hc
def plL (P:Program):List Field->Option (List (Nat × Nat))
 | []=>some []
 | f :: fs=>match P.info? f.type,plL P fs with
  | some i,some l=>some ((f.offset,i.size) :: l)
  | _,_=>none
theorem wRm:∀ {fs:List Field} {pl:List (Nat × Nat)},plL P fs=some pl->wPL P fs.toArray pl:=by
 intro fs pl hp w
 rw [List.mapM_toArray]
 have key:∀ (fs:List Field) (pl:List (Nat × Nat)),plL P fs=some pl->((fs.mapM fun f=>do pure (f.offset,<- sizeOf f.type):Sem (List (Nat × Nat)))).run P w=.ok pl w:=by
  intro fs
  induction fs with
  | nil=>intro pl hp;cases hp;simp
  | cons f fs ih =>
   intro pl hp
   unfold plL at hp
   split at hp
   ·rename_i i l h1 h2
    cases hp
    have hs:(sizeOf f.type).run P w=.ok i.size w:=by simp [sizeOf,typeInfo,h1]
    simp only [List.mapM_cons,Sem.run_bind,hs,Result.andThen_ok,Sem.run_pure,ih l h2]
   ·cases hp
 have:=key fs pl hp
 simp only [Sem.run_map,this,Result.andThen_ok]
def wQM (P:Program) (z:List AV) (ps:List (Nat × Nat × AOd)):Op->Bool
 | .build t qs=>zT P t z && wDy P t (fun d=>match d with
   | .struct fs=>match plL P fs.toList with
    | some pl=>wJD (fun i=>pl[i]?) ps qs.toList
    | none=>false
   | .array _ e=>match P.info? e with
    | some j=>wJD (fun i=>some (i * j.size,j.size)) ps qs.toList
    | none=>false
   | _=>false)
 | _=>false
theorem p_bld {z:List AV} {ps:List (Nat × Nat × AOd)} {op:Op} (hc:wQM P z ps op=true):OkP P op (wMn z ps):=by
 intro σA h v h' hr
 unfold wQM at hc
 split at hc
 ·rename_i t qs
  simp only [hH] at hc
  obtain ⟨c1,c2⟩:=hc
  obtain ⟨hr2,rfl⟩:=wBl hr
  obtain ⟨r,hr3,rfl⟩:=wDN hr2
  obtain ⟨i,zv,z1,z2,z3⟩:=wEl c1
  obtain ⟨d,d1,d2⟩:=wAe c2
  refine ⟨rfl,fun μ σ hE=>?_⟩
  split at d2
  ·rename_i fs
   split at d2
   ·rename_i pl hpl
    obtain ⟨R,r1,r2,_⟩:=wGr hE hr3 d2 (z3 μ)
    refine ⟨_,⟨R,r2,rfl⟩,fun o w ho=>?_⟩
    exact Runs.build (P:=P) (ps:=qs.toList) (z:=zv.cells.toList) ho rfl (wDV z1 z2) ⟨fs,wAm d1,wRm hpl⟩ (by simp) r1
   ·cases d2
  ·rename_i n e
   split at d2
   ·rename_i j hj
    obtain ⟨R,r1,r2,_⟩:=wGr hE hr3 d2 (z3 μ)
    refine ⟨_,⟨R,r2,rfl⟩,fun o w ho=>?_⟩
    exact Runs.buildA (P:=P) (ps:=qs.toList) (z:=zv.cells.toList) ho rfl (wDV z1 z2) (wAm d1) (fun w=>by simp [sizeOf,typeInfo,hj]) (by simp) r1
   ·cases d2
  ·cases d2
 ·cases hc
def wLd (P:Program) (b:Builtin) (x:AOd):Op->Bool
 | .call c=>match c.callee with
  | .builtin b'=>(b' == b) && (match c.args.toList,c.argTypes.toList with
   | [y],[t]=>wDy P t (fun d=>match d with | .slice _=>true | _=>false) && wCD x y
   | _,_=>false)
  | _=>false
 | _=>false
theorem wKq {b:Builtin} {x:AOd} {op:Op} (hc:wLd P b x op=true):∃ y t e,op=.call { callee:=.builtin b,args:=#[y],argTypes:=#[t] }/\P.underlying t=some (.slice e)/\wCD x y=true:=by
 unfold wLd at hc
 split at hc
 ·rename_i c
  obtain ⟨ce,args,tys⟩:=c
  simp only at hc
  split at hc
  ·rename_i b'
   simp only [hH,beq_iff_eq] at hc
   obtain ⟨rfl,h2⟩:=hc
   split at h2
   ·rename_i y t h3 h4
    simp only [hH] at h2
    obtain ⟨d,d1,d2⟩:=wAe h2.1
    cases d <;> first | (cases d2;done) | skip
    refine ⟨y,t,_,?_,d1,h2.2⟩
    congr 2
    ·exact nE (by simpa using h3)
    ·exact nE (by simpa using h4)
   ·cases h2
  ·cases hc
 ·cases hc
theorem p_len {x:AOd} {op:Op} (hc:wLd P .len x op=true):OkP P op (wJu x):=by
 intro σA h v h' hr
 obtain ⟨y,t,e,rfl,d1,c2⟩:=wKq hc
 unfold wJu at hr
 split at hr <;> cases hr <;> rename_i hb
 ·refine ⟨rfl,fun μ σ hE=>⟨_,rfl,fun o w ho=>?_⟩⟩
  have g:=wAF c2 hE;rw [hb] at g
  exact Runs.len ho g (wAm d1)
 ·refine ⟨rfl,fun μ σ hE=>⟨_,rfl,fun o w ho=>?_⟩⟩
  have g:=wAF c2 hE;rw [hb] at g
  obtain ⟨c,_,_,g⟩:=g
  exact Runs.len ho g (wAm d1)
 ·refine ⟨rfl,fun μ σ hE=>⟨_,rfl,fun o w ho=>?_⟩⟩
  have g:=wAF c2 hE;rw [hb] at g
  obtain ⟨c,_,_,g⟩:=g
  exact Runs.len ho g (wAm d1)
 ·refine ⟨rfl,fun μ σ hE=>⟨_,rfl,fun o w ho=>?_⟩⟩
  have g:=wAF c2 hE;rw [hb] at g
  obtain ⟨c,_,q,g⟩:=g
  exact Runs.len ho g (wAm d1)
theorem Runs.cap {t e:TypeId} {x:Operand} {a:Option Addr} {n c:Nat} (ho:o.op=.call { callee:=.builtin .cap,args:=#[x],argTypes:=#[t] }) (hx:ev σ x=.slice a n c)
  (ht:∀ w,(underlying t).run P w=.ok (.slice e) w):Runs P σ w o (.int .i64 c) w :=
 ⟨by rw [ho];rfl,by simp [execOp,ho,resolve,invoke,builtin,Builtin.cap_,hx,ht,goInt]⟩
theorem p_cap {x:AOd} {op:Op} (hc:wLd P .cap x op=true):OkP P op (wJv x):=by
 intro σA h v h' hr
 obtain ⟨y,t,e,rfl,d1,c2⟩:=wKq hc
 unfold wJv at hr
 split at hr <;> cases hr <;> rename_i hb
 ·refine ⟨rfl,fun μ σ hE=>⟨_,rfl,fun o w ho=>?_⟩⟩
  have g:=wAF c2 hE;rw [hb] at g
  exact Runs.cap ho g (wAm d1)
 ·refine ⟨rfl,fun μ σ hE=>⟨_,rfl,fun o w ho=>?_⟩⟩
  have g:=wAF c2 hE;rw [hb] at g
  obtain ⟨c,_,_,g⟩:=g
  exact Runs.cap ho g (wAm d1)
def wRJ (b:Builtin) (x y:AOd):Op->Bool
 | .call c=>match c.callee with
  | .builtin b'=>(b' == b) && (match c.args.toList with
   | [x',y']=>wCD x x' && wCD y y'
   | _=>false)
  | _=>false
 | _=>false
theorem wNQ {b:Builtin} {x y:AOd} {op:Op} (hc:wRJ b x y op=true):∃ x' y' tys,op=.call { callee:=.builtin b,args:=#[x',y'],argTypes:=tys }/\wCD x x'=true/\wCD y y'=true:=by
 unfold wRJ at hc
 split at hc
 ·rename_i c
  obtain ⟨ce,args,tys⟩:=c
  simp only at hc
  split at hc
  ·rename_i b'
   simp only [hH,beq_iff_eq] at hc
   obtain ⟨rfl,h2⟩:=hc
   split at h2
   ·rename_i x' y' h3
    simp only [hH] at h2
    refine ⟨x',y',tys,?_,h2.1,h2.2⟩
    congr 2
    exact nE (by simpa using h3)
   ·cases h2
  ·cases hc
 ·cases hc
theorem p_min {x y:AOd} {op:Op} (hc:wRJ .min x y op=true):OkP P op (wMo x y):=by
 intro σA h v h' hr
 obtain ⟨x',y',tys,rfl,c1,c2⟩:=wNQ hc
 obtain ⟨hr2,rfl⟩:=wBl hr
 split at hr2
 ·rename_i a b e1 e2
  cases hr2
  refine ⟨rfl,fun μ σ hE=>⟨_,rfl,fun o w ho=>?_⟩⟩
  have g1:=wAF c1 hE;rw [e1] at g1
  have g2:=wAF c2 hE;rw [e2] at g2
  refine (Runs.min ho g1 g2).to ?_
  have:(match zlt b a with | true=>b | false=>a)=Min.min a b:=by
   rw [wGn,Int.min_def]
   by_cases hq:b < a
   ·simp [hq,Int.not_le.2 hq]
   ·simp [hq,Int.not_lt.1 hq]
  exact congrArg (nq .i64) this.symm
 ·cases hr2
theorem p_max {x y:AOd} {op:Op} (hc:wRJ .max x y op=true):OkP P op (wMp x y):=by
 intro σA h v h' hr
 obtain ⟨x',y',tys,rfl,c1,c2⟩:=wNQ hc
 obtain ⟨hr2,rfl⟩:=wBl hr
 split at hr2
 ·rename_i a b e1 e2
  cases hr2
  refine ⟨rfl,fun μ σ hE=>⟨_,rfl,fun o w ho=>?_⟩⟩
  have g1:=wAF c1 hE;rw [e1] at g1
  have g2:=wAF c2 hE;rw [e2] at g2
  refine (Runs.max ho g1 g2).to ?_
  have:(match zlt a b with | true=>b | false=>a)=Max.max a b:=by
   rw [wGn,Int.max_def]
   by_cases hq:a < b
   ·simp [hq,Int.le_of_lt hq]
   ·by_cases hq2:a <= b
    ·have:a=b:=by omega
     simp [this]
    ·simp [hq,hq2]
  exact congrArg (nq .i64) this.symm
 ·cases hr2
def OkL (C:Chk) (P:Program) (op:Op) (f:Tr AV->AH->Option (AV × AH)):Prop :=
 ∀ σA h v h',f σA h=some (v,h')->h'=h/\∀ μ σ w,EnvR μ σA σ->Sim C P μ h w->∃ cv,Rv μ v cv/\∀ (o:Oper),o.op=op->wFu P σ w o cv
theorem wEV {b:Pos} {l:List AV} (hr:wDM h b=some l) (S:Sim C P μ h w):∃ c vs,μ b=some c/\RvL μ l vs/\∀ w',Keep w w' Non->∀ j v,vs[j]?=some v->w'.cell? ⟨c.1,j,none⟩=some v:=by
 unfold wDM at hr
 split at hr
 ·rename_i B hB
  obtain ⟨c,h1,h2⟩:=S.at_ b B hB
  cases B <;> simp only [wKh] at hr <;> first | (cases hr;done) | cases hr
  ·obtain ⟨vs,h3,h4⟩:=h2
   exact ⟨c,vs,h1,h3,fun w' K j v hv=>(h4.non K).cell hv⟩
  ·obtain ⟨vs,h3,h4⟩:=h2
   refine ⟨c,vs,h1,h3,fun w' K j v hv=>?_⟩
   obtain ⟨cur,g1,g2,g3,g4,g5⟩:=RowAt.cells h4
   have g1':=(K.block _ (wAV g1) id).trans g1
   have:cur.toList[j]?=some v:=by
    rw [<- g5,kA] at hv
    split at hv
    ·exact hv
    ·cases hv
   simp only [World.cell?,g1']
   simpa using this
 ·cases hr
def wRn (P:Program) (x:AOd):Op->Bool
 | .load t y=>wOh P t false && wCD x y
 | _=>false
theorem l_ld {x:AOd} {op:Op} (hc:wRn P x op=true):OkL C P op (wOS x):=by
 intro σA h v h' hr
 unfold wRn at hc
 split at hc
 ·simp only [hH] at hc
  unfold wOS at hr
  split at hr
  ·rename_i b off hb
   split at hr
   ·rename_i l hl
    obtain ⟨hr2,rfl⟩:=wBl hr
    refine ⟨rfl,fun μ σ w hE S=>?_⟩
    obtain ⟨c,vs,h1,h2,h3⟩:=wEV hl S
    have g:=wAF hc.2 hE;rw [hb] at g
    obtain ⟨c',g1,g2⟩:=g
    rw [h1] at g1;cases g1
    rw [wFp] at hr2
    obtain ⟨cv,g3,g4⟩:=wEj h2 hr2
    exact ⟨cv,g4,fun o ho w' K=>Runs.ld ho g2 (wEK hc.1) (h3 w' K _ _ g3)⟩
   ·cases hr
  ·cases hr
 ·cases hc
def wNR (P:Program) (n:Nat) (x:AOd):Op->Bool
 | .load t y=>(wOh P t true && szT P t n) && wCD x y
 | _=>false
theorem l_ldA {n:Nat} {x:AOd} {op:Op} (hc:wNR P n x op=true):OkL C P op (wHW n x):=by
 intro σA h v h' hr
 unfold wNR at hc
 split at hc
 ·simp only [hH] at hc
  unfold wHW at hr
  split at hr
  ·rename_i b off hb
   split at hr
   ·rename_i l hl
    obtain ⟨hr2,rfl⟩:=wBl hr
    obtain ⟨r,hr3,rfl⟩:=wDN hr2
    refine ⟨rfl,fun μ σ w hE S=>?_⟩
    obtain ⟨c,vs,h1,h2,h3⟩:=wEV hl S
    have g:=wAF hc.2 hE;rw [hb] at g
    obtain ⟨c',g1,g2⟩:=g
    rw [h1] at g1;cases g1
    obtain ⟨g3,g4⟩:=wEk hr3 h2
    refine ⟨_,⟨_,g3,rfl⟩,fun o ho w' K=>Runs.ldA ho g2 (wEK hc.1.1) (wDU hc.1.2) (by simp;omega) fun j u hu=>?_⟩
    exact h3 w' K _ _ (wFH rfl j u hu)
   ·cases hr
  ·cases hr
 ·cases hc
def OkE (C:Chk) (P:Program) (op:Op) (f:Tr AV->AH->Option (AV × AH)):Prop :=
 ∀ σA h v h',f σA h=some (v,h')->∀ μ σ w,EnvR μ σA σ->Sim C P μ h w->∀ (o:Oper),o.op=op->∃ μ' w' cv,Ext μ h.fl.nat w μ' w'/\Sim C P μ' h' w'/\Rv μ' v cv/\h'.fl=h.fl/\Runs P σ w o cv w'
def OkU (C:Chk) (P:Program) (op:Op) (f:Tr AV->AH->Option (AV × AH)):Prop :=
 ∀ σA h v h',f σA h=some (v,h')->∀ μ σ w,EnvR μ σA σ->Sim C P μ h w->∀ (o:Oper),o.op=op->∃ μ' w',Ext μ h.fl.nat w μ' w'/\Sim C P μ' h' w'/\v=u/\h'.fl=h.fl/\Does P σ w o w'
theorem OkP.toL {op:Op} {f:Tr AV->AH->Option (AV × AH)} (hp:OkP P op f):OkL C P op f:=by
 intro σA h v h' hr
 obtain ⟨h1,h2⟩:=hp σA h v h' hr
 exact ⟨h1,fun μ σ w hE _=>let ⟨cv,g1,g2⟩:=h2 μ σ hE;⟨cv,g1,fun o ho w' _=>g2 o w' ho⟩⟩
theorem OkL.toE {op:Op} {f:Tr AV->AH->Option (AV × AH)} (hp:OkL C P op f):OkE C P op f:=by
 intro σA h v h' hr μ σ w hE S o ho
 obtain ⟨rfl,h2⟩:=hp σA h v h' hr
 obtain ⟨cv,g1,g2⟩:=h2 μ σ w hE S
 exact ⟨μ,w,cv,Ext.refl μ _ w,S,g1,rfl,g2 o ho w (Keep.refl w _)⟩
theorem wFL {T:TypeId} {z:List AV} {cs:List Value} (S:Sim C P μ h w) (hz:RvL μ z cs):∃ μ',Ext μ h.fl.nat w μ' (w.alloc (.cells cs.toArray T))/\Sim C P μ' (h.push (.cells T z)) (w.alloc (.cells cs.toArray T))/\(h.push (.cells T z)).fl=h.fl/\μ' h.nx=some ⟨w.heap.size,0,g0⟩:=by
 have hle:=Mu.add_le (c:=⟨w.heap.size,0,g0⟩) (S.nx h.nx (nH _))
 obtain ⟨h1,h2,h3,h4⟩:=S.push (w':=w.alloc (.cells cs.toArray T)) (c:=⟨w.heap.size,0,g0⟩) (B:=.cells T z) (wAy w _) (nH _) (by rw [wHh];exact Nat.lt_succ_self _) ⟨cs,hz.mono hle,wDK w cs T⟩
 exact ⟨_,h2,h1,h3,h4⟩
def wNS (P:Program) (T:Nat) (z:List AV):Op->Bool
 | .alloc t=>nB T t && zT P t z
 | _=>false
theorem e_new {T:Nat} {z:List AV} {op:Op} (hc:wNS P T z op=true):OkE C P op (wPt T z):=by
 intro σA h v h' hr μ σ w hE S o ho
 cases hr
 unfold wNS at hc
 split at hc
 ·simp only [hH] at hc
  have e:=nA hc.1
  subst e
  obtain ⟨i,zv,z1,z2,z3⟩:=wEl hc.2
  obtain ⟨μ',h1,h2,h3,h4⟩:=wFL (T:=T) S (z3 μ)
  refine ⟨μ',_,_,h1,h2,⟨_,h4,rfl⟩,h3,by rw [ho];rfl,?_⟩
  simp [execOp,ho,Instr.alloc,wDV z1 z2,newVar,newRow,newObj,Sem.run]
 ·cases hc
def wNT (T:Nat) (x:AOd):Op->Bool
 | .box t y=>nB T t && wCD x y
 | _=>false
theorem e_box {T:Nat} {x:AOd} {op:Op} (hc:wNT T x op=true):OkE C P op (wLW T x):=by
 intro σA h v h' hr μ σ w hE S o ho
 cases hr
 unfold wNT at hc
 split at hc
 ·simp only [hH] at hc
  have e:=nA hc.1
  subst e
  obtain ⟨vs,v1,v2⟩:=wGF (wAF hc.2 hE)
  obtain ⟨μ',h1,h2,h3,h4⟩:=wFL (T:=T) S v1
  refine ⟨μ',_,_,h1,h2,⟨_,h4,rfl⟩,h3,by rw [ho];rfl,?_⟩
  simp [execOp,ho,Instr.box,newVar,newRow,newObj,v2,Sem.run]
 ·cases hc
theorem wQN (S:Sim C P μ h w):∃ μ',Ext μ h.fl.nat w μ' (w.alloc (.map #[] 0))/\Sim C P μ' (h.push .map0) (w.alloc (.map #[] 0))/\(h.push .map0).fl=h.fl/\μ' h.nx=some ⟨w.heap.size,0,g0⟩:=by
 obtain ⟨h1,h2,h3,h4⟩:=S.push (w':=w.alloc (.map #[] 0)) (c:=⟨w.heap.size,0,g0⟩) (B:=.map0) (wAy w _) (nH _) (by rw [wHh];exact Nat.lt_succ_self _) ⟨0,heap_alloc_new w _⟩
 exact ⟨_,h2,h1,h3,h4⟩
def wNU:Op->Bool
 | .makeMap _ none=>true
 | _=>false
theorem e_mkm {op:Op} (hc:wNU op=true):OkE C P op wPu:=by
 intro σA h v h' hr μ σ w hE S o ho
 cases hr
 unfold wNU at hc
 split at hc
 ·obtain ⟨μ',h1,h2,h3,h4⟩:=wQN S
  refine ⟨μ',_,_,h1,h2,⟨_,h4,rfl⟩,h3,by rw [ho];rfl,?_⟩
  simp [execOp,ho,Instr.makeMap,newObj,Sem.run,Result.andThen]
 ·cases hc
theorem wEn {zc:Array Value} {n:Nat}:∀ c,((nS (c * zc.size)).map (zc[· % zc.size]!)).toList=(nP c zc.toList).flatten \/ False:=by
 intro c
 left
 induction c with
 | zero=>simp
 | succ c ih =>
  rw [kJ,Array.toList_range] at ih ⊢
  rw [Nat.succ_mul,List.range_add,List.map_append,ih,List.replicate_succ',List.flatten_append]
  congr 1
  simp only [List.map_map,List.flatten_singleton]
  apply List.ext_getElem
  ·simp
  ·intro i h1 h2
   simp at h1
   simp [Nat.add_mul_mod_self_right,Nat.mod_eq_of_lt h1,Nat.add_comm (c * zc.size) i,h1]
def wNV (P:Program) (T sz by_:Nat) (z:List AV) (x y:AOd):Op->Bool
 | .makeSlice t x' y'=>wDy P t (fun d=>match d with | .slice e=>nB e T | _=>false) && (szT P T sz && (byT P T by_ && (zT P T z && (nB (len z) sz && (wCD x x' && wCD y y')))))
 | _=>false
theorem e_mks {T sz by_:Nat} {z:List AV} {x y:AOd} {op:Op} (hc:wNV P T sz by_ z x y op=true):OkE C P op (wGg T sz by_ z x y):=by
 intro σA h v h' hr μ σ w hE S o ho
 unfold wNV at hc
 split at hc
 ·rename_i t x' y'
  simp only [hH] at hc
  obtain ⟨c1,c2,c3,c4,c5,c6,c7⟩:=hc
  obtain ⟨d,d1,d2⟩:=wAe c1
  split at d2 <;> first | (cases d2;done) | skip
  have e:=nA d2
  subst e
  rename_i e
  obtain ⟨i,i1,i2⟩:=wGH c2
  obtain ⟨i',j1,j2⟩:=wGI c3
  obtain ⟨i'',zv,k1,k2,k3⟩:=wEl c4
  rw [i1] at j1 k1;cases j1;cases k1
  have hz:=nA c5
  unfold wGg at hr
  split at hr
  ·rename_i l c hl hcc
   obtain ⟨hb,hr⟩:=wBf hr
   cases hr
   simp only [hH,nQ] at hb
   obtain ⟨⟨⟨b1,b2⟩,b3⟩,b4⟩:=hb
   have hx:=wAF c6 hE;rw [wCB hl] at hx
   have hy:=wAF c7 hE;rw [wCB hcc] at hy
   have hx:ev σ x'=.int .i64 (l:Int):=hx
   have hy:ev σ y'=.int .i64 (c:Int):=hy
   have zlen:zv.cells.size=sz:=by rw [<- hz,wEJ,<- wCl (k3 μ)];simp
   have hrun:=run_makeSlice (P:=P) w t e i zv d1 i1 k2 .i64 .i64 (l:Int) (c:Int) (by omega) (by omega) (by rw [i2,nj];exact b2) (by rw [j2];have hb:=Int.ofNat_le.2 b3;rw [Int.natCast_mul] at hb;exact hb) (by omega)
   simp only [nj,i2] at hrun
   have hcells:(madeCells zv.cells (c * sz))=((nP c zv.cells.toList).flatten).toArray:=by
    apply nE
    have:=wEn (zc:=zv.cells) (n:=0) c
    simp only [or_false] at this
    rw [zlen] at this
    show ((nS (c * sz)).map (zv.cells[· % zv.cells.size]!)).toList=_
    rw [zlen,this]
   rw [hcells] at hrun
   obtain ⟨μ',h1,h2,h3,h4⟩:=wFL (T:=e) S (wGm (k3 μ) c)
   refine ⟨μ',_,_,h1,h2,⟨_,h4,b1,rfl⟩,h3,by rw [ho];rfl,?_⟩
   simp [execOp,ho,hx,hy,hrun,Result.andThen]
  ·cases hr
 ·cases hc
def wJE (P:Program) (T n:Nat) (z:List AV) (ps:List (Nat × Nat × AOd)):Op->Bool
 | .buildSlice t m qs=>nB m n && (wDy P t (fun d=>match d with | .slice e=>nB e T | _=>false) && (match P.info? T with
   | some i=>nK (n * i.size) 16777216 && (wJD (fun k=>some (k * i.size,i.size)) ps qs.toList && (match i.zero with
    | some v=>wOg z ((kq (n * i.size)).map fun k=>v.cells[k % v.cells.size]!)
    | none=>false))
   | none=>false))
 | _=>false
theorem wRo {T n:Nat} {z:List AV} {ps:List (Nat × Nat × AOd)} {op:Op} (hc:wJE P T n z ps op=true):OkE C P op (wEH T n z ps):=by
 intro σA h v h' hr μ σ w hE S o ho
 unfold wJE at hc
 split at hc
 ·rename_i t m qs
  simp only [hH] at hc
  obtain ⟨c1,c2,c3⟩:=hc
  have e:=nA c1
  subst e
  obtain ⟨d,d1,d2⟩:=wAe c2
  split at d2 <;> first | (cases d2;done) | skip
  have e:=nA d2
  subst e
  rename_i e
  split at c3
  ·rename_i i hi
   simp only [hH,nQ] at c3
   obtain ⟨c3,c4,c5⟩:=c3
   split at c5
   ·rename_i zv hz
    unfold wEH at hr
    split at hr
    ·rename_i r hr3
     cases hr
     obtain ⟨R,r1,r2,r3⟩:=wGr hE hr3 c4 (wFf μ c5)
     have hf:=wDL _ _ _ _ r1
     obtain ⟨μ',h1,h2,h3,h4⟩:=wFL (T:=e) S r2
     refine ⟨μ',_,_,h1,h2,⟨_,h4,nH _,rfl⟩,h3,by rw [ho];rfl,?_⟩
     have hs:∀ w,(sizeOf e).run P w=.ok i.size w:=fun w=>by simp [sizeOf,typeInfo,hi]
     have hn':¬ m * i.size > 2 ^ 24:=by omega
     have hq:(qs.map fun (p:Nat × Operand)=>(p.1,ev σ p.2)).toList=qs.toList.map fun (p:Nat × Operand)=>(p.1,ev σ p.2):=by simp
     by_cases h0:m * i.size=0
     ·rw [h0] at hf
      simp only [List.range_zero,kK] at hf
      have hr0:(nS 0).map (fun x=>(#[]:Array Value)[x % (#[]:Array Value).size]!)=#[]:=by rw [show (nS 0)=#[] from rfl,Array.map_empty]
      have hn0:¬ (0:Nat) > 2 ^ 24:=by decide
      simp only [execOp,ho,Instr.buildSlice,Sem.run_bind,wAm d1,hs,Result.andThen_ok,h0,if_neg hn0,if_true,Sem.run_pure,hq,hr0,hf]
      simp [newRow,newObj,Sem.run,Result.andThen]
     ·have hzs:(nS (m * i.size)).map (zv.cells[· % zv.cells.size]!)=((kq (m * i.size)).map fun k=>zv.cells[k % zv.cells.size]!).toArray:=by rw [<- ke,List.map_toArray]
      simp only [execOp,ho,Instr.buildSlice,Sem.run_bind,wAm d1,hs,wDV hi hz,Result.andThen_ok,if_neg hn',if_neg h0,Sem.run_pure,hq,hzs,hf]
      simp [newRow,newObj,Sem.run,Result.andThen]
    ·cases hr
   ·cases c5
  ·cases c3
 ·cases hc
end
end
end Go.KX
namespace Go.KX
noncomputable section
open Go.RowKit Go.KL
section
variable {C:Chk} {P:Program} {μ μ':Mu} {w w':World} {h h':AH} {σ:Env} {σA:Tr AV} {t e:TypeId} {o:Oper}
theorem wFM {b:Pos} {off:Nat} {vs:List AV} {VS:List Value} {c:Cl} (hr:setAt h b off vs=some h') (S:Sim C P μ h w) (hv:RvL μ vs VS) (h1:∀ v ∈ VS,one v=true) (hc:μ b=some c) :
  ∃ w',(storeCells ⟨c.1,off,none⟩ VS).run P w=.ok () w'/\Sim C P μ h' w'/\Ext μ h.fl.nat w μ w'/\h'.fl=h.fl:=by
 unfold setAt at hr
 split at hr
 ·rename_i T l hB
  split at hr
  ·rename_i l' hl
   obtain ⟨c',g1,vs0,g2,g3⟩:=S.at_ b _ hB
   rw [hc] at g1;cases g1
   obtain ⟨k1,k2⟩:=wIO hl g2 hv
   obtain ⟨w',q1,q2,q3,q4⟩:=wCJ (P:=P) off VS 0 vs0 w g3 k1 h1
   obtain ⟨s1,s2,s3⟩:=S.put hr hB trivial hc q3 (B':=.cells T l') ⟨_,k2,q2⟩
   exact ⟨w',q1,s1,s2,s3⟩
  ·cases hr
 ·rename_i T sz l hB
  split at hr
  ·rename_i l' hl
   obtain ⟨c',g1,vs0,g2,g3⟩:=S.at_ b _ hB
   rw [hc] at g1;cases g1
   obtain ⟨k1,k2⟩:=wIO hl g2 hv
   obtain ⟨cur,r1,r2,r3,r4,r5⟩:=RowAt.cells g3
   have hB':Blk w c.1 T cur.toList:=by unfold Blk;rw [r1]
   have hcl:vs0.length <= cur.toList.length:=by rw [<- r5];simp;omega
   obtain ⟨w',q1,q2,q3,q4⟩:=wCJ (P:=P) off VS 0 cur.toList w hB' (by omega) h1
   obtain ⟨s1,s2,s3⟩:=S.put hr hB trivial hc q3 (B':=.row T sz l') ⟨_,k2,.inr ⟨c.1,(wCR cur.toList (off + 0) VS).toArray,rfl,q2,by rw [wBg];exact r2,r3,by simp [wBg,r4],by
    rw [wBg,kc]
    show (wCR cur.toList off VS).take vs0.length=_
    rw [wGW _ _ _ _ k1,r5]⟩⟩
   exact ⟨w',q1,s1,s2,s3⟩
  ·cases hr
 ·cases hr
def c_st (P:Program) (n:Nat) (x y:AOd):Op->Bool
 | .store t x' y'=>szT P t n && (wCD x x' && wCD y y')
 | _=>false
theorem u_st {n:Nat} {x y:AOd} {op:Op} (hc:c_st P n x y op=true):OkU C P op (wPO n x y):=by
 intro σA h v h' hr μ σ w hE S o ho
 unfold c_st at hc
 split at hc
 ·rename_i t x' y'
  simp only [hH] at hc
  obtain ⟨c1,c2,c3⟩:=hc
  unfold wPO at hr
  split at hr
  ·rename_i b off hb
   split at hr
   ·rename_i hk
    simp only [hH] at hk
    split at hr
    ·rename_i h1 hs
     cases hr
     have g:=wAF c2 hE;rw [hb] at g
     obtain ⟨c,g1,g2⟩:=g
     obtain ⟨VS,v1,v2⟩:=wGF (wAF c3 hE)
     obtain ⟨w',q1,q2,q3,q4⟩:=wFM hs S v1 (wDp v1 hk.2) g1
     have hn:=nA hk.1
     have hlen:VS.length=n:=by rw [wCl v1,<- wEJ,hn]
     refine ⟨μ,w',q3,q2,rfl,q4,by rw [ho];rfl,?_⟩
     simp [execOp,ho,Instr.storeAt,g2,Instr.sureAddr,storeVar,v2,wDU c1,hlen,q1]
    ·cases hr
   ·cases hr
  ·cases hr
 ·cases hc
theorem wIR {sz m:Nat} {a:AV} {l:List AV} {y:Value} (hr:slice h sz a=some (m,l)) (S:Sim C P μ h w) (hy:Rv μ a y) :
  ∃ A c VS,y=.slice A m c/\RvL μ l VS/\VS.length=m * sz/\(m=0 \/ ∃ ad,A=some ad/\∀ j u,VS[j]?=some u->w.cell? (ad.add j)=some u):=by
 have key:∀ (b:Pos) (off m:Nat) (c:Cl) (l0 r:List AV),μ b=some c->wDM h b=some l0->sub l0 off (m * sz)=some r->∃ VS,RvL μ r VS/\VS.length=m * sz/\∀ j u,VS[j]?=some u->w.cell? ((⟨c.1,off,none⟩:Addr).add j)=some u:=by
  intro b off m c l0 r hc hl hs
  obtain ⟨c',vs,h1,h2,h3⟩:=wEV hl S
  rw [hc] at h1;cases h1
  obtain ⟨g1,g2⟩:=wEk hs h2
  exact ⟨_,g1,by simp;omega,fun j u hu=>by rw [wEm];exact h3 w (Keep.refl w _) _ _ (wFH rfl j u hu)⟩
 unfold slice at hr
 split at hr
 ·cases hr
  have hy:y=.slice none 0 0:=hy
  exact ⟨none,0,[],hy,rfl,by simp,.inl rfl⟩
 ·cases hr
  obtain ⟨d,_,q,rfl⟩:=hy
  exact ⟨_,_,[],rfl,rfl,by simp,.inl rfl⟩
 ·split at hr
  ·rename_i l0 hl
   split at hr
   ·rename_i r hs
    cases hr
    obtain ⟨d,h1,_,rfl⟩:=hy
    obtain ⟨VS,v1,v2,v3⟩:=key _ _ _ _ _ _ h1 hl hs
    exact ⟨_,_,VS,rfl,v1,v2,.inr ⟨_,rfl,v3⟩⟩
   ·cases hr
  ·cases hr
 ·split at hr
  ·rename_i l0 hl
   split at hr
   ·rename_i r hs
    cases hr
    obtain ⟨d,h1,_,rfl⟩:=hy
    obtain ⟨VS,v1,v2,v3⟩:=key _ _ _ _ _ _ h1 hl hs
    exact ⟨_,_,VS,rfl,v1,v2,.inr ⟨_,rfl,v3⟩⟩
   ·cases hr
  ·cases hr
 ·cases hr
theorem wGs {A A2:Option Addr} {n c c2 ty:Nat} {inf:TypeInfo} (ht:P.underlying t=some (.slice e)) (hi:P.info? e=some inf) (hnc:n <= c):(Builtin.append_ #[t,t] ty #[.slice A n c,.slice A2 0 c2]).run P w=.ok (.slice A n c) w:=by
 have hs:∀ w,(sizeOf e).run P w=.ok inf.size w:=fun w=>by simp [sizeOf,typeInfo,hi]
 cases A <;> cases A2 <;> simp [Builtin.append_,wAm ht,hs,Builtin.lenOf,Builtin.firstCells,hnc,storeCells,loadCells,loadCellsFrom]
theorem wNW {T sz c:Nat} {l:List AV} {cs:List Value} {cur:Array Value} (S:Sim C P μ h w) (K:Keep w w' Non) (hl:RvL μ l cs) (hn:w'.heap[w.heap.size]?=some (.cells cur T (0,0))) (h1:cs.length <= c * sz) (h2:c <= maxLen) (h3:cur.size=c * sz) (h4:cur.toList.take cs.length=cs) :
  ∃ μ',Ext μ h.fl.nat w μ' w'/\Sim C P μ' (h.push (.row T sz l)) w'/\(h.push (.row T sz l)).fl=h.fl/\μ' h.nx=some ⟨w.heap.size,c,g0⟩:=by
 have hle:=Mu.add_le (c:=⟨w.heap.size,c,g0⟩) (S.nx h.nx (nH _))
 obtain ⟨q1,q2,q3,q4⟩:=S.push (w':=w') (c:=⟨w.heap.size,c,g0⟩) (B:=.row T sz l) K (nH _) (wAV hn) ⟨cs,hl.mono hle,.inr ⟨_,cur,rfl,hn,h1,h2,h3,h4⟩⟩
 exact ⟨_,q2,q1,q3,q4⟩
def wOk (P:Program) (T sz by_:Nat) (x y:AOd):Op->Bool
 | .call c=>match c.callee with
  | .builtin b=>(b == .append) && (match c.args.toList,c.argTypes.toList with
   | [x',y'],[t,t']=>nB t t' && (wDy P t (fun d=>match d with | .slice e=>nB e T | _=>false) && (wCD x x' && (wCD y y' && (szT P T sz && (byT P T by_ && (match P.info? T with
    | some i=>match i.zero with | some v=>nB v.cells.size sz && (nG 0 sz && nG 0 by_) | none=>false
    | none=>false))))))
   | _,_=>false)
  | _=>false
 | _=>false
theorem wOl {T sz by_:Nat} {x y:AOd} {op:Op} (hc:wOk P T sz by_ x y op=true) :
  ∃ x' y' t i z,op=.call { callee:=.builtin .append,args:=#[x',y'],argTypes:=#[t,t] }/\P.underlying t=some (.slice T)/\wCD x x'=true/\wCD y y'=true/\P.info? T=some i/\i.zero=some z/\i.size=sz/\i.bytes=by_/\z.cells.size=sz/\0 < sz/\0 < by_:=by
 unfold wOk at hc
 split at hc
 ·rename_i c
  obtain ⟨ce,args,tys⟩:=c
  simp only at hc
  split at hc
  ·rename_i b
   simp only [hH,beq_iff_eq] at hc
   obtain ⟨rfl,h2⟩:=hc
   split at h2
   ·rename_i x' y' t t' h3 h4
    simp only [hH] at h2
    obtain ⟨a1,a2,a3,a4,a5,a6,a7⟩:=h2
    have e:=nA a1
    subst e
    obtain ⟨d,d1,d2⟩:=wAe a2
    split at d2 <;> first | (cases d2;done) | skip
    have e:=nA d2
    subst e
    obtain ⟨i,i1,i2⟩:=wGH a5
    obtain ⟨j,j1,j2⟩:=wGI a6
    rw [i1] at j1;cases j1
    rw [i1] at a7
    simp only at a7
    split at a7
    ·rename_i z hz
     simp only [hH,nD] at a7
     refine ⟨x',y',t,i,z,?_,d1,a3,a4,i1,hz,i2,j2,nA a7.1,a7.2.1,a7.2.2⟩
     congr 2
     ·exact nE (by simpa using h3)
     ·exact nE (by simpa using h4)
    ·cases a7
   ·cases h2
  ·cases hc
 ·cases hc
theorem wRp (v:Value) (h1:one v=true):v.oneCell'=true:=by cases v <;> first | rfl | cases h1
theorem e_app {T sz by_:Nat} {x y:AOd} {op:Op} (hc:wOk P T sz by_ x y op=true):OkE C P op (wIq T sz by_ x y):=by
 intro σA h v h' hr μ σ w hE S o ho
 obtain ⟨x',y',t,i,z,rfl,ht,c1,c2,hi,hz,i2,j2,hzs,hsz,hby⟩:=wOl hc
 unfold wIq at hr
 split at hr
 ·rename_i m news hs
  obtain ⟨hones,hr'⟩:=wBf hr
  clear hr;have hr:=hr';clear hr'
  obtain ⟨A2,cc2,NS,e2,n1,n2,n3⟩:=wIR hs S (wAF c2 hE)
  have hx:=wAF c1 hE
  have h1:∀ u ∈ NS,u.oneCell'=true:=fun u hu=>wRp u (wDp n1 hones u hu)
  have fin:∀ {μ':Mu} {w':World} {cv:Value},Ext μ h.fl.nat w μ' w'->Sim C P μ' h' w'->Rv μ' v cv->h'.fl=h.fl->(Builtin.append_ #[t,t] o.type #[ev σ x',ev σ y']).run P w=.ok cv w' ->
    ∃ μ' w' cv,Ext μ h.fl.nat w μ' w'/\Sim C P μ' h' w'/\Rv μ' v cv/\h'.fl=h.fl/\Runs P σ w o cv w':=fun a b c d f =>
   ⟨_,_,_,a,b,c,d,by rw [ho];rfl,by simp [execOp,ho,resolve,invoke,builtin,f]⟩
  unfold app at hr
  split at hr
  ·have zero:∀ {A:Option Addr} {n c:Nat},ev σ x'=.slice A n c->n <= c->Rv μ v (.slice A n c)->h'=h->∃ μ' w' cv,Ext μ h.fl.nat w μ' w'/\Sim C P μ' h' w'/\Rv μ' v cv/\h'.fl=h.fl/\Runs P σ w o cv w':=by
    intro A n c hA hnc hv hh
    subst hh
    exact fin (Ext.refl μ _ w) S hv rfl (by rw [hA,e2];exact wGs ht hi hnc)
   split at hr <;> cases hr <;> rename_i hb <;> rw [hb] at hx
   ·have g:ev σ x'=.slice none 0 0:=hx
    exact zero g (nH _) rfl rfl
   ·obtain ⟨d,g1,g2,g3⟩:=hx
    exact zero g3 g2 ⟨d,g1,g2,rfl⟩ rfl
   ·obtain ⟨d,g1,g2,g3⟩:=hx
    exact zero g3 (by omega) ⟨d,g1,g2,rfl⟩ rfl
  ·rename_i m
   obtain ⟨ad,rfl,hcell⟩:∃ ad,A2=some ad/\∀ j u,NS[j]?=some u->w.cell? (ad.add j)=some u:=by
    rcases n3 with h0 | h0
    ·cases h0
    ·exact h0
   have maxb:(140737488355328:Nat) <= maxLen:=by decide
   have lenb:∀ n:Nat,n * by_ <= 140737488355328->n <= 140737488355328:=fun n hn=>nX (ni _ hby) hn
   split at hr
   ·rename_i hb
    rw [hb] at hx
    have hx:ev σ x'=.slice none 0 0:=hx
    obtain ⟨hble,hr'⟩:=wBf hr
    clear hr;have hr:=hr';clear hr'
    cases hr
    have hble:=nM hble
    obtain ⟨A',c',w',r1,r2,r3,r4⟩:=wDa (P:=P) (w:=w) (A:=none) (c:=0) (n:=0) (cs:=[]) (ty:=o.type) (c2:=cc2) ht hi hz i2 hzs hsz (.inl ⟨rfl,rfl,rfl⟩) (by simp) n2 (.inr ⟨ad,rfl,hcell⟩) h1 (by rw [j2,kY];exact hble) (by omega)
    rcases r2 with ⟨_,_,q⟩ | ⟨b,cur,rfl,q1,q2,q3,q4,q5⟩
    ·exfalso
     have:([] ++ NS).length=0:=by rw [q];rfl
     rw [kM,n2] at this
     have:=Nat.mul_pos (Nat.succ_pos m) hsz
     omega
    ·have hb:w.heap.size <= b:=by
      rcases r4 b rfl with q | q
      ·cases q
      ·exact q
     have K:Keep w w' Non:=r3.weak fun i _ q=>by cases q
     rw [kM] at q2 q5
     have hle:=Mu.add_le (c:=⟨b,c',g0⟩) (S.nx h.nx (nH _))
     obtain ⟨s1,s2,s3,s4⟩:=S.push (w':=w') (c:=⟨b,c',g0⟩) (B:=.row T sz news) K hb (wAV q1) ⟨NS,n1.mono hle,.inr ⟨_,cur,rfl,q1,q2,q3,q4,q5⟩⟩
     refine fin s2 s1 ⟨_,s4,?_,?_⟩ s3 (by rw [hx,e2];exact r1)
     ·rw [n2] at q2
      have:=nZ q2 hsz
      simpa using this
     ·simp
   ·rename_i b off n c hb
    rw [hb] at hx
    obtain ⟨d,g1,g2,g3⟩:=hx
    split at hr
    ·rename_i hle
     have hle:=nM hle
     split at hr
     ·rename_i h1' hset
      cases hr
      obtain ⟨w',q1,q2,q3,q4⟩:=wFM hset S n1 (wDp n1 hones) g1
      refine fin q3 q2 ⟨d,g1,hle,rfl⟩ q4 ?_
      rw [g3,e2]
      have hf:=run_firstCells_some (P:=P) w i.size (m + 1) ad (m + 1) cc2 NS (by rw [i2];exact n2) hcell
      rw [i2] at hf
      simp [Builtin.append_,wAm ht,sizeOf,typeInfo,hi,Builtin.lenOf,hle,hf,wEm,i2,q1]
     ·cases hr
    ·rename_i hlt
     obtain ⟨hble,hr'⟩:=wBf hr
     clear hr;have hr:=hr';clear hr'
     have hble:=nM hble
     split at hr
     ·rename_i nn olds hold
      cases hr
      have hgt:c < n + (m + 1):=by
       rcases nf c (n + (m + 1)) with q | q
       ·exact q
       ·have q':nK (n + (m + 1)) c=true:=by rw [nQ];exact q
        rw [q'] at hlt;cases hlt
      obtain ⟨A1,cc1,OS,k1,k2,k3,k4⟩:=wIR hold S (show Rv μ (.sl b off n c) _ from ⟨d,g1,g2,rfl⟩)
      cases k1
      have hlen:=lenb _ hble
      have olds':∀ j v,OS[j]?=some v->w.cell? ((⟨d.1,off,none⟩:Addr).add j)=some v:=by
       rcases k4 with q | ⟨ad',q1,q2⟩
       ·intro j v hv
        have hnil:OS=[]:=nO (by rw [k3,q];simp)
        rw [hnil] at hv
        simp at hv
       ·cases q1;exact q2
      have hr:=run_append_grow (P:=P) w t o.type T i z ht hi hz ⟨d.1,off,none⟩ n c OS (by rw [i2];exact k3) olds' ad (m + 1) cc2 NS (by rw [i2];exact n2) hcell hgt (by omega) (growslice_fits hgt (by rw [j2];exact hble))
      have hge:=grownCap_ge w (n + (m + 1)) c T
      have hcm:grownCap w (n + (m + 1)) c T <= maxLen:=grownCap_le_maxLen w (n + (m + 1)) c T (by omega)
      have hlen2:(OS ++ NS).length=(n + (m + 1)) * sz:=by rw [nV,k3,n2,ny]
      obtain ⟨μ',s1,s2,s3,s4⟩:=wNW (T:=T) (sz:=sz) (c:=grownCap w (n + (m + 1)) c T) (w':=w.drew.alloc (.cells (OS.toArray ++ NS.toArray ++ Builtin.zeroCells z.cells (grownCap w (n + (m + 1)) c T - (n + (m + 1)))) T)) (cur:=OS.toArray ++ NS.toArray ++ Builtin.zeroCells z.cells (grownCap w (n + (m + 1)) c T - (n + (m + 1)))) S
       ((Keep.drew w).non (wAy w.drew _)) (wDo k2 n1) (heap_alloc_new w.drew _) (by rw [hlen2];exact nt _ hge) hcm
       (by
        simp only [ki,kB,size_zeroCells,hzs,k3,n2,<- ny]
        congr 1
        omega)
       (by simp only [kW,kG];rw [<- kG];exact List.take_left)
      refine fin s1 s2 ⟨_,s4,?_,?_⟩ s3 (by rw [g3,e2];exact hr)
      ·simpa using hge
      ·simp
     ·cases hr
   ·rename_i b eo co n hb
    rw [hb] at hx
    obtain ⟨d,g1,g2,g3⟩:=hx
    split at hr
    ·rename_i T' sz' l hB
     split at hr
     ·rename_i hin
      simp only [hH] at hin
      obtain ⟨p1,p2,p3,p4⟩:=hin
      have p1:=nM p1
      have p2:=nA p2
      have p3:=nA p3
      have p4:=nA p4
      subst p2 p3 p4
      split at hr
      ·rename_i h1' hset
       cases hr
       obtain ⟨d',k1,OS,k2,k3⟩:=S.at_ b _ hB
       rw [g1] at k1;cases k1
       obtain ⟨cur,r1,r2,_⟩:=RowAt.cells k3
       have hle:n + (m + 1) <= d.2:=by
        rw [wEJ,<- wCl k2] at p1
        exact nZ (nX p1 r2) hsz
       obtain ⟨w',q1,q2,q3,q4⟩:=wFM hset S n1 (wDp n1 hones) g1
       refine fin q3 q2 ⟨d,g1,by omega,rfl⟩ q4 ?_
       rw [g3,e2]
       have hf:=run_firstCells_some (P:=P) w i.size (m + 1) ad (m + 1) cc2 NS (by rw [i2];exact n2) hcell
       rw [i2] at hf
       simp [Builtin.append_,wAm ht,sizeOf,typeInfo,hi,Builtin.lenOf,hle,hf,wEm,i2,q1]
      ·cases hr
     obtain ⟨hcond,hr'⟩:=wBf hr
     clear hr;have hr:=hr';clear hr'
     simp only [hH] at hcond
     obtain ⟨⟨⟨⟨⟨q1,q2⟩,q3⟩,q4⟩,q5⟩,q6⟩:=hcond
     have q1:=nA q1
     have q2:=nA q2
     have q3:=nA q3
     have q4:=nA q4
     have q5:=nA q5
     have hble:=nM q6
     subst q1 q2 q3 q4
     split at hr
     ·rename_i h1' hput
      cases hr
      obtain ⟨d',k1,OS,k2,k3⟩:=S.at_ b _ hB
      rw [g1] at k1;cases k1
      have hol:OS.length=n * sz:=by rw [wCl k2,<- wEJ,<- q5]
      obtain ⟨A',c',w',r1,r2,r3,r4⟩:=wDa (P:=P) (w:=w) (A:=some ⟨d.1,0,none⟩) (c:=d.2) (n:=n) (cs:=OS) (ty:=o.type) (c2:=cc2) ht hi hz i2 hzs hsz k3 hol n2 (.inr ⟨ad,rfl,hcell⟩) h1 (by rw [j2];exact hble) (by omega)
      rcases r2 with ⟨_,_,q⟩ | ⟨b',cur,rfl,p1,p2,p3,p4,p5⟩
      ·exfalso
       have:(OS ++ NS).length=0:=by rw [q];rfl
       rw [nV,n2] at this
       have:=Nat.mul_pos (Nat.succ_pos m) hsz
       omega
      ·have hb':b'=d.1 \/ w.heap.size <= b':=by
        rcases r4 b' rfl with q | q
        ·cases q;exact .inl rfl
        ·exact .inr q
       have K:Keep w w' (·=d.1):=r3.weak fun i _ q=>by cases q;rfl
       have hle:=Mu.add_le (c:=⟨b',c',g0⟩) (S.nx h.nx (nH _))
       have hnx:h.nx=h.nx:=rfl
       obtain ⟨s1,s2,s3,s4⟩:=S.move (w':=w') (d:=⟨b',c',g0⟩) (B':=.row T sz (l ++ news)) hput hB trivial g1 K hb' (wAV p1) ⟨OS ++ NS,(wDo k2 n1).mono hle,.inr ⟨_,cur,rfl,p1,p2,p3,p4,p5⟩⟩
       refine fin s2 s1 ⟨_,s4,?_,?_⟩ s3 (by rw [g3,e2];simpa using r1)
       ·rw [nV,hol,n2,<- ny] at p2
        have:=nZ p2 hsz
        simpa using this
       ·simp
     ·cases hr
    ·cases hr
   ·cases hr
 ·cases hr
def wQO (P:Program) (sz:Nat) (x y:AOd):Op->Bool
 | .call c=>match c.callee with
  | .builtin b=>(b == .copy) && (match c.args.toList,c.argTypes.toList with
   | [x',y'],t :: _=>wDy P t (fun d=>match d with | .slice e=>szT P e sz | _=>false) && (wCD x x' && wCD y y')
   | _,_=>false)
  | _=>false
 | _=>false
theorem e_cpy {sz:Nat} {x y:AOd} {op:Op} (hc:wQO P sz x y op=true):OkE C P op (wIr sz x y):=by
 intro σA h v h' hr μ σ w hE S o ho
 unfold wQO at hc
 split at hc
 ·rename_i c
  obtain ⟨ce,args,tys⟩:=c
  simp only at hc
  split at hc
  ·rename_i b
   simp only [hH,beq_iff_eq] at hc
   obtain ⟨rfl,h2⟩:=hc
   split at h2
   ·rename_i x' y' t ts h3 h4
    simp only [hH] at h2
    obtain ⟨a1,a2,a3⟩:=h2
    obtain ⟨d,d1,d2⟩:=wAe a1
    split at d2 <;> first | (cases d2;done) | skip
    rename_i e
    have ea:args=#[x',y']:=nE (by simpa using h3)
    have et:tys[0]?=some t:=by rw [<- kS,h4];rfl
    unfold wIr at hr
    split at hr
    ·rename_i b off n cc m news hx hs
     split at hr
     ·rename_i vs hsub
      obtain ⟨hones,hr'⟩:=wBf hr
      clear hr;have hr:=hr';clear hr'
      split at hr
      ·rename_i h1' hset
       cases hr
       have g:=wAF a2 hE;rw [hx] at g
       obtain ⟨c0,g1,_,g3⟩:=g
       obtain ⟨A2,cc2,NS,e2,n1,n2,n3⟩:=wIR hs S (wAF a3 hE)
       generalize hk:(if nK m n=true then m else n)=k at hsub ⊢
       have hmin:Nat.min m n=k:=by
        rw [<- hk]
        by_cases q:m <= n
        ·rw [if_pos (by rw [nQ];exact q)];exact Nat.min_eq_left q
        ·rw [if_neg (by rw [nQ];exact q)];exact Nat.min_eq_right (by omega)
       obtain ⟨k1,k2⟩:=wEk hsub n1
       rw [List.drop_zero] at k1
       obtain ⟨w',q1,q2,q3,q4⟩:=wFM hset S k1 (wDp k1 hones) g1
       refine ⟨μ,w',_,q3,q2,rfl,q4,by rw [ho];rfl,?_⟩
       have hf:∀ (w1:World),w1=w->(Builtin.firstCells sz k (.slice A2 m cc2)).run P w1=.ok (NS.take (k * sz)).toArray w1:=by
        intro w1 hw1
        subst hw1
        cases A2 with
        | none =>
         have hm:m=0:=by
          rcases n3 with q | ⟨_,q,_⟩
          ·exact q
          ·cases q
         have hN:NS=[]:=nO (by rw [n2,hm];simp)
         subst hN
         simp [Builtin.firstCells]
        | some ad =>
         have hcell:∀ j u,(NS.take (k * sz))[j]?=some u->w1.cell? (ad.add j)=some u:=by
          intro j u hu
          rw [kA] at hu
          split at hu
          ·rcases n3 with q | ⟨ad',q,q'⟩
           ·have hN:NS=[]:=nO (by rw [n2,q];simp)
            subst hN;simp at hu
           ·cases q;exact q' j u hu
          ·cases hu
         exact run_firstCells_some (P:=P) w1 sz k ad m cc2 (NS.take (k * sz)) (by rw [List.length_take];omega) hcell
       have hs2:=wDU d2
       simp [execOp,ho,ea,et,resolve,invoke,builtin,Builtin.copy_,wAm d1,g3,e2,Builtin.lenOf,hmin,hs2,hf w rfl,q1,goInt,Result.andThen]
      ·cases hr
     ·cases hr
    ·cases hr
   ·cases h2
  ·cases hc
 ·cases hc
def wQP (P:Program) (z:List AV) (x:AOd):Op->Bool
 | .call c=>match c.callee with
  | .builtin b=>(b == .clear) && (match c.args.toList,c.argTypes.toList with
   | [x'],[t]=>wDy P t (fun d=>match d with | .slice e=>zT P e z | _=>false) && wCD x x'
   | _,_=>false)
  | _=>false
 | _=>false
theorem wDb {zc:Array Value} (c:Nat):(Builtin.zeroCells zc c).toList=(nP c zc.toList).flatten:=by
 have:=wEn (zc:=zc) (n:=0) c
 simp only [or_false] at this
 exact this
def wQQ (P:Program) (T sz by_:Nat) (z:List AV) (x y:AOd):Op->Bool
 | .call c=>match c.callee with
  | .builtin b=>(b == .append) && (match c.args.toList,c.argTypes.toList with
   | [x',y'],[t,t']=>wDy P t (fun d=>match d with | .slice e=>nB e T | _=>false) && (wDy P t' (fun d=>match d with | .int _=>true | _=>false) && (wCD x x' && (wCD y y' && (szT P T sz && (byT P T by_ && (zT P T z && (nB (len z) sz && (nG 0 sz && nG 0 by_))))))))
   | _,_=>false)
  | _=>false
 | _=>false
theorem e_apz {T sz by_:Nat} {z:List AV} {x y:AOd} {op:Op} (hc:wQQ P T sz by_ z x y op=true):OkE C P op (wIv T sz by_ z x y):=by
 intro σA h v h' hr μ σ w hE S o ho
 unfold wQQ at hc
 split at hc <;> first | (cases hc;done) | skip
 rename_i c
 obtain ⟨ce,args,tys⟩:=c
 simp only at hc
 split at hc <;> first | (cases hc;done) | skip
 rename_i b
 simp only [hH,beq_iff_eq] at hc
 obtain ⟨rfl,h2⟩:=hc
 split at h2 <;> first | (cases h2;done) | skip
 rename_i x' y' t t' h3 h4
 simp only [hH] at h2
 obtain ⟨a1,a2,a3,a4,a5,a6,a7,a8,a9,a10⟩:=h2
 have hargs:args=#[x',y']:=nE (by simpa using h3)
 have htys:tys=#[t,t']:=nE (by simpa using h4)
 subst hargs htys
 obtain ⟨d,d1,d2⟩:=wAe a1
 split at d2 <;> first | (cases d2;done) | skip
 have e:=nA d2
 subst e
 rename_i e
 obtain ⟨dn,n1,n2⟩:=wAe a2
 split at n2 <;> first | (cases n2;done) | skip
 rename_i kn
 obtain ⟨i,i1,i2⟩:=wGH a5
 obtain ⟨i',j1,j2⟩:=wGI a6
 obtain ⟨i'',zv,k1,k2,k3⟩:=wEl a7
 rw [i1] at j1 k1;cases j1;cases k1
 have hz:=nA a8
 have hsz:0 < sz:=by simpa [nD] using a9
 have hx:=wAF a3 hE
 have hy:=wAF a4 hE
 have fin:∀ {μ':Mu} {w':World} {cv:Value},Ext μ h.fl.nat w μ' w'->Sim C P μ' h' w'->Rv μ' v cv->h'.fl=h.fl->(Builtin.append_ #[t,t'] o.type #[ev σ x',ev σ y']).run P w=.ok cv w' ->
   ∃ μ' w' cv,Ext μ h.fl.nat w μ' w'/\Sim C P μ' h' w'/\Rv μ' v cv/\h'.fl=h.fl/\Runs P σ w o cv w':=fun a b c d f =>
  ⟨_,_,_,a,b,c,d,by rw [ho];rfl,by simp [execOp,ho,resolve,invoke,builtin,f]⟩
 have zlen:zv.cells.size=sz:=by rw [<- hz,wEJ,<- wCl (k3 μ)];simp
 unfold wIv at hr
 split at hr
 ·rename_i nn hxs hn
  rw [hxs] at hx
  rw [wCB hn] at hy
  have hx:ev σ x'=.slice none 0 0:=hx
  have hy:ev σ y'=.int .i64 (nn:Int):=hy
  cases nn with
  | zero =>
   cases hr
   refine fin (Ext.refl μ _ w) S rfl rfl ?_
   rw [hx,hy]
   simp [Builtin.append_,run_underlying d1,run_underlying n1,sizeOf,typeInfo,i1,asInt,asIntOf,IntKind.wrap_i64]
  | succ m =>
   obtain ⟨hble,hr⟩:=wBf hr
   have hble:=nM hble
   cases hr
   have hby:0 < by_:=by simpa [nD] using a10
   have hnb:m + 1 <= 140737488355328:=nX (ni _ hby) hble
   have hrun:=Go.Lib.run_append_nil_zeros (P:=P) w t t' o.type e i zv .i64 kn d1 n1 i1 k2 (m + 1) (by omega) (by rw [i2];exact hsz) (by omega) (by rw [j2];omega)
   have hge:=grownCap_ge w (m + 1) 0 e
   have maxb:(140737488355328:Nat) <= maxLen:=by decide
   have hcm:grownCap w (m + 1) 0 e <= maxLen:=grownCap_le_maxLen w (m + 1) 0 e (by omega)
   have hcs:((nP (m + 1) zv.cells.toList).flatten).length=(m + 1) * sz:=by rw [<- wDb];simp [size_zeroCells,zlen]
   obtain ⟨μ',s1,s2,s3,s4⟩:=wNW (T:=e) (sz:=sz) (c:=grownCap w (m + 1) 0 e) (w':=w.drew.alloc (.cells (Builtin.zeroCells zv.cells (m + 1) ++ Builtin.zeroCells zv.cells (grownCap w (m + 1) 0 e - (m + 1))) e)) (cur:=Builtin.zeroCells zv.cells (m + 1) ++ Builtin.zeroCells zv.cells (grownCap w (m + 1) 0 e - (m + 1))) S
    ((Keep.drew w).non (wAy w.drew _)) (wGm (k3 μ) (m + 1)) (heap_alloc_new w.drew _) (by rw [hcs];exact nt _ hge) hcm
    (by
     simp only [ki,size_zeroCells,zlen,<- ny]
     congr 1
     omega)
    (by
     rw [kW,wDb]
     exact List.take_left)
   refine fin s1 s2 ⟨_,s4,?_,?_⟩ s3 (by rw [hx,hy];exact hrun)
   ·simpa using hge
   ·simp
 ·cases hr
theorem e_clr {z:List AV} {x:AOd} {op:Op} (hc:wQP P z x op=true):OkE C P op (wIs z x):=by
 intro σA h v h' hr μ σ w hE S o ho
 unfold wQP at hc
 split at hc
 ·rename_i c
  obtain ⟨ce,args,tys⟩:=c
  simp only at hc
  split at hc
  ·rename_i b
   simp only [hH,beq_iff_eq] at hc
   obtain ⟨rfl,h2⟩:=hc
   split at h2
   ·rename_i x' t h3 h4
    simp only [hH] at h2
    obtain ⟨a1,a2⟩:=h2
    obtain ⟨d,d1,d2⟩:=wAe a1
    split at d2 <;> first | (cases d2;done) | skip
    rename_i e
    have ea:args=#[x']:=nE (by simpa using h3)
    have et:tys=#[t]:=nE (by simpa using h4)
    subst ea et
    have hx:=wAF a2 hE
    obtain ⟨i,zv,z1,z2,z3⟩:=wEl d2
    have zero:∀ {A:Option Addr} {c:Nat},ev σ x'=.slice A 0 c->v=u->h'=h->∃ μ' w' cv,Ext μ h.fl.nat w μ' w'/\Sim C P μ' h' w'/\Rv μ' v cv/\h'.fl=h.fl/\Runs P σ w o cv w':=by
     intro A c hA hv hh
     subst hv hh
     refine ⟨μ,w,undef,Ext.refl μ _ w,S,wNC μ,rfl,by rw [ho];rfl,?_⟩
     cases A <;> simp [execOp,ho,resolve,invoke,builtin,Builtin.clear_,hA,wAm d1,undef]
    have full:∀ {b:Pos} {c:Cl} {off n cap:Nat},μ b=some c->ev σ x'=.slice (some ⟨c.1,off,none⟩) n cap->clr h z b off n=some (v,h')->∃ μ' w' cv,Ext μ h.fl.nat w μ' w'/\Sim C P μ' h' w'/\Rv μ' v cv/\h'.fl=h.fl/\Runs P σ w o cv w':=by
     intro b c off n cap hb hA hr
     unfold clr at hr
     split at hr
     ·cases hr;exact zero hA rfl rfl
     ·rename_i n
      obtain ⟨hones,hr'⟩:=wBf hr
      split at hr'
      ·rename_i h1' hset
       cases hr'
       have k1:=wGm (z3 μ) (n + 1)
       have k2:∀ v ∈ (nP (n + 1) zv.cells.toList).flatten,one v=true:=by
        intro v hv
        simp only [List.mem_flatten,List.mem_replicate] at hv
        obtain ⟨l,⟨_,rfl⟩,hv⟩:=hv
        exact wDp (z3 μ) hones v hv
       obtain ⟨w',q1,q2,q3,q4⟩:=wFM hset S k1 k2 hb
       refine ⟨μ,w',undef,q3,q2,wNC μ,q4,by rw [ho];rfl,?_⟩
       rw [<- wDb] at q1
       simp [execOp,ho,resolve,invoke,builtin,Builtin.clear_,hA,wAm d1,wDV z1 z2,q1,undef,Result.andThen]
      ·cases hr'
    unfold wIs at hr
    split at hr
    ·rename_i hb;rw [hb] at hx;obtain ⟨c,g1,_,g3⟩:=hx;exact full g1 g3 hr
    ·rename_i hb;rw [hb] at hx;obtain ⟨c,g1,_,g3⟩:=hx;exact full g1 g3 hr
    ·rename_i hb;rw [hb] at hx;cases hr;obtain ⟨c,g1,q,g3⟩:=hx;exact zero g3 rfl rfl
    ·rename_i hb;rw [hb] at hx;cases hr;have hx:ev σ x'=.slice none 0 0:=hx;exact zero hx rfl rfl
    ·cases hr
   ·cases h2
  ·cases hc
 ·cases hc
end
end
end Go.KX
namespace Go.KX
noncomputable section
open Go.RowKit Go.KL
section
variable {C:Chk} {P:Program} {μ μ':Mu} {w w':World} {h h':AH} {σ:Env} {σA:Tr AV} {t e:TypeId} {o:Oper} {K:Type} [DecidableEq K]
def wOW (P:Program) (two:Bool) (k:IntKind) (kt:TypeId):Bool:=match two with
 | false=>wDy P kt fun d=>match wNI d with | some k'=>keq k k' | none=>false
 | true=>(!P.stoodInHeld kt) && wDy P kt fun d=>match d with
  | .struct fs=>match fs.toList with
   | [f, g] => nB f.type g.type && (nB f.offset 0 && (nB g.offset 1 && ((f.name != "_") && ((g.name != "_") && wDy P f.type fun d => match wNI d with | some k' => keq k k' | none => false))))
   | _=>false
  | _=>false
theorem keyI {k:IntKind} {kt:TypeId} (hc:wOW P false k kt=true):KeyR P kt (fun n:Int=>nq k n):=by
 obtain ⟨d,d1,d2⟩:=wAe hc
 cases d <;> first | (cases d2;done) | skip
 have:=wBk d2
 subst this
 exact KeyR.ofInt d1
theorem wLe {k:IntKind} {kt:TypeId} (hc:wOW P true k kt=true):KeyR P kt (mk2 k):=by
 simp only [wOW,hH,kE] at hc
 obtain ⟨c0,c1⟩:=hc
 obtain ⟨d,d1,d2⟩:=wAe c1
 split at d2
 ·rename_i fs
  split at d2
  ·rename_i f g hfs
   simp only [hH] at d2
   obtain ⟨a1,a2,a3,a4,a5,a6⟩:=d2
   obtain ⟨di,i1,i2⟩:=wAe a6
   cases di <;> first | (cases i2;done) | skip
   have ek:=wBk i2
   subst ek
   have efs:fs=#[f,g]:=nE (by simpa using hfs)
   subst efs
   have T:Two P kt f.type f g k:=⟨d1,rfl,nA a2,by simpa using a4,(nA a1).symm,nA a3,by simpa using a5,i1,fun w=>wGo i1 w,c0⟩
   exact T.keyR (mk2 k) (·.1) (·.2) (fun _=>rfl) fun x y h1 h2=>Prod.ext h1 h2
  ·cases d2
 ·cases d2
theorem mrI {l:List (Int × AV)} {tt:List (Int × Value)} (hm:MR μ l tt) (n:Int):(wLV l n=none/\wLS tt n=none) \/ ∃ a v,wLV l n=some a/\wLS tt n=some v/\Rv μ a v:=by
 induction l generalizing tt with
 | nil=>cases tt with
  | nil=>exact .inl ⟨rfl,rfl⟩
  | cons q tt=>have:=hm.1;simp at this
 | cons p l ih =>
  cases tt with
  | nil=>have:=hm.1;simp at this
  | cons q tt =>
   obtain ⟨a,x⟩:=p
   obtain ⟨b,v⟩:=q
   obtain ⟨h1,h2⟩:=hm
   simp only [nI,nJ] at h1
   obtain ⟨v',ws,g1,g2,g3⟩:=h2
   simp only [nI,nJ] at g3
   obtain ⟨rfl,rfl⟩:=g3
   obtain ⟨rfl,h1⟩:=h1
   simp only [wLV,wLS]
   by_cases e:n=a
   ·right;exact ⟨x,v,by simp [wDq,e],by simp [e],g1⟩
   ·have:=ih (tt:=tt) ⟨h1,g2⟩
    simpa [wDq,e] using this
theorem wQR {l:List (Int × AV)} {tt:List (Int × Value)} (hm:MR μ l tt) (n:Int) {a:AV} {v:Value} (hv:Rv μ a v):MR μ (wMX l n a) (mput tt n v):=by
 induction l generalizing tt with
 | nil=>cases tt with
  | nil=>exact ⟨rfl,wBe hv wGl⟩
  | cons q tt=>have:=hm.1;simp at this
 | cons p l ih =>
  cases tt with
  | nil=>have:=hm.1;simp at this
  | cons q tt =>
   obtain ⟨b,x⟩:=p
   obtain ⟨b',v0⟩:=q
   obtain ⟨h1,h2⟩:=hm
   simp only [nI,nJ] at h1
   obtain ⟨v',ws,g1,g2,g3⟩:=h2
   simp only [nI,nJ] at g3
   obtain ⟨rfl,rfl⟩:=g3
   obtain ⟨rfl,h1⟩:=h1
   simp only [wMX,mput,wDq]
   by_cases e:n=b
   ·simp only [e,decide_true,if_true]
    exact ⟨by simp [h1],wBe hv g2⟩
   ·have:=ih (tt:=tt) ⟨h1,g2⟩
    simp only [e,decide_false,if_false]
    exact ⟨by simp [this.1],wBe g1 this.2⟩
theorem wQS {l:List (Int × AV)} {tt:List (Int × Value)} (hm:MR μ l tt) (n:Int):MR μ (wMZ l n) (mdel tt n):=by
 induction l generalizing tt with
 | nil=>cases tt with
  | nil=>exact ⟨rfl,rfl⟩
  | cons q tt=>have:=hm.1;simp at this
 | cons p l ih =>
  cases tt with
  | nil=>have:=hm.1;simp at this
  | cons q tt =>
   obtain ⟨b,x⟩:=p
   obtain ⟨b',v0⟩:=q
   obtain ⟨h1,h2⟩:=hm
   simp only [nI,nJ] at h1
   obtain ⟨v',ws,g1,g2,g3⟩:=h2
   simp only [nI,nJ] at g3
   obtain ⟨rfl,rfl⟩:=g3
   obtain ⟨rfl,h1⟩:=h1
   simp only [wMZ,mdel,wDq]
   by_cases e:n=b
   ·simp only [e,decide_true,if_true]
    exact ⟨h1,g2⟩
   ·have:=ih (tt:=tt) ⟨h1,g2⟩
    simp only [e,decide_false,if_false]
    exact ⟨by simp [this.1],wBe g1 this.2⟩
theorem z2 (x y a b:Int):(zeq x a && zeq y b)=decide ((x,y)=(a,b)):=by
 rw [wDq,wDq]
 by_cases h1:x=a <;> by_cases h2:y=b <;> simp [h1,h2]
theorem mr2 {l:List ((Int × Int) × AV)} {tt:List ((Int × Int) × Value)} (hm:MR μ l tt) (x y:Int):(wLU l x y=none/\wLS tt (x,y)=none) \/ ∃ a v,wLU l x y=some a/\wLS tt (x,y)=some v/\Rv μ a v:=by
 induction l generalizing tt with
 | nil=>cases tt with
  | nil=>exact .inl ⟨rfl,rfl⟩
  | cons q tt=>have:=hm.1;simp at this
 | cons p l ih =>
  cases tt with
  | nil=>have:=hm.1;simp at this
  | cons q tt =>
   obtain ⟨⟨a,b⟩,x0⟩:=p
   obtain ⟨b',v⟩:=q
   obtain ⟨h1,h2⟩:=hm
   simp only [nI,nJ] at h1
   obtain ⟨v',ws,g1,g2,g3⟩:=h2
   simp only [nI,nJ] at g3
   obtain ⟨rfl,rfl⟩:=g3
   obtain ⟨rfl,h1⟩:=h1
   simp only [wLU,wLS,z2]
   by_cases e:(x,y)=(a,b)
   ·right;exact ⟨x0,v,by simp only [e,decide_true],by simp only [e,if_true],g1⟩
   ·have:=ih (tt:=tt) ⟨h1,g2⟩
    simp only [e,decide_false,if_false]
    exact this
theorem wQT {l:List ((Int × Int) × AV)} {tt:List ((Int × Int) × Value)} (hm:MR μ l tt) (x y:Int) {a:AV} {v:Value} (hv:Rv μ a v):MR μ (wMW l x y a) (mput tt (x,y) v):=by
 induction l generalizing tt with
 | nil=>cases tt with
  | nil=>exact ⟨rfl,wBe hv wGl⟩
  | cons q tt=>have:=hm.1;simp at this
 | cons p l ih =>
  cases tt with
  | nil=>have:=hm.1;simp at this
  | cons q tt =>
   obtain ⟨⟨b1,b2⟩,x0⟩:=p
   obtain ⟨b',v0⟩:=q
   obtain ⟨h1,h2⟩:=hm
   simp only [nI,nJ] at h1
   obtain ⟨v',ws,g1,g2,g3⟩:=h2
   simp only [nI,nJ] at g3
   obtain ⟨rfl,rfl⟩:=g3
   obtain ⟨rfl,h1⟩:=h1
   simp only [wMW,mput,z2]
   by_cases e:(x,y)=(b1,b2)
   ·simp only [e,decide_true,if_true]
    exact ⟨by simp [h1],wBe hv g2⟩
   ·have:=ih (tt:=tt) ⟨h1,g2⟩
    simp only [e,decide_false,if_false]
    exact ⟨by simp [this.1],wBe g1 this.2⟩
theorem wQU {l:List ((Int × Int) × AV)} {tt:List ((Int × Int) × Value)} (hm:MR μ l tt) (x y:Int):MR μ (wMY l x y) (mdel tt (x,y)):=by
 induction l generalizing tt with
 | nil=>cases tt with
  | nil=>exact ⟨rfl,rfl⟩
  | cons q tt=>have:=hm.1;simp at this
 | cons p l ih =>
  cases tt with
  | nil=>have:=hm.1;simp at this
  | cons q tt =>
   obtain ⟨⟨b1,b2⟩,x0⟩:=p
   obtain ⟨b',v0⟩:=q
   obtain ⟨h1,h2⟩:=hm
   simp only [nI,nJ] at h1
   obtain ⟨v',ws,g1,g2,g3⟩:=h2
   simp only [nI,nJ] at g3
   obtain ⟨rfl,rfl⟩:=g3
   obtain ⟨rfl,h1⟩:=h1
   simp only [wMY,mdel,z2]
   by_cases e:(x,y)=(b1,b2)
   ·simp only [e,decide_true,if_true]
    exact ⟨h1,g2⟩
   ·have:=ih (tt:=tt) ⟨h1,g2⟩
    simp only [e,decide_false,if_false]
    exact ⟨by simp [this.1],wBe g1 this.2⟩
theorem wRq {mt kt et:TypeId} {m ck:Nat} {es:Array MapEntry} {mk:K->Value} {tt:List (K × Value)} {a:K} {z:Value} {ok:Bool} (hm:w.heap[m]?=some (.map es ck)) (hu:P.underlying mt=some (.map kt et)) (R:KeyR P kt mk) (hz:∀ w,(zeroValue et).run P w=.ok z w) (hh:MpR es mk id tt) :
  (Instr.lookup mt (.map (some m)) (mk a) ok).run P w=.ok (if ok then .tuple #[wIm tt a z,.bool (wPo tt a)] else wIm tt a z) w:=by
 have hf:=R.find id es.toList tt a w hh
 have hg:=wJc tt a 0
 unfold wIm wPo
 simp [Instr.lookup,run_underlying hu,MapKept.run_getObj_map hm,R.chk,hf,Result.andThen,<- hg]
 cases e:wDB tt a 0 <;> simp [hz,Result.andThen]
theorem wQV {mt kt et:TypeId} {m ck:Nat} {es:Array MapEntry} {mk:K->Value} {tt:List (K × Value)} {a:K} {v:Value} (hm:w.heap[m]?=some (.map es ck)) (hu:P.underlying mt=some (.map kt et)) (R:KeyR P kt mk) (hh:MpR es mk id tt) :
  ∃ es' ck',MpR es' mk id (mput tt a v)/\(Instr.mapUpdate mt (.map (some m)) (mk a) v).run P w=.ok () (w.putObj m (.map es' ck')):=by
 have hf:=R.find id es.toList tt a w hh
 cases e:wDB tt a 0 with
 | none =>
  obtain ⟨e1,_⟩:=wGT e v
  refine ⟨es.push { key:=mk a,val:=v,born:=ck },ck + 1,?_,?_⟩
  ·unfold MpR at hh ⊢;rw [e1];simp [hh]
  ·simp [Instr.mapUpdate,run_underlying hu,MapKept.run_getObj_map hm,R.chk,hf,e,Result.andThen,MapKept.run_setObj_map _ hm]
   rfl
 | some p =>
  obtain ⟨q,u⟩:=p
  obtain ⟨_,h2,h3,_⟩:=wGU e v
  rw [Nat.sub_zero] at h2 h3
  have hq:q < tt.length:=(kH.1 h2).1
  have hl:es.size=tt.length:=by have:=congrArg nz hh;simpa using this
  have hkq:((es[q]?).map (·.key)).getD (mk a)=mk a:=by
   have h4:(es.toList.map (fun e=>(e.key,e.val)))[q]?=some (mk a,u):=by rw [hh,nk,h2];rfl
   rw [nk] at h4
   cases h5:es.toList[q]? with
   | none=>rw [h5] at h4;cases h4
   | some e =>
    rw [h5] at h4
    simp only [ko,kh,Prod.mk.injEq] at h4
    have h6:es[q]?=some e:=by simpa using h5
    rw [h6];simp [h4.1]
  refine ⟨es.modify q fun e=>{ e with key:=mk a,val:=v },ck,?_,?_⟩
  ·unfold MpR at hh ⊢
   rw [h3]
   apply kg
   intro n
   have hn:=congrArg (·[n]?) hh
   simp only [nk] at hn ⊢
   rw [kC]
   simp only [Array.toList_modify,List.getElem?_modify]
   by_cases hqn:q=n
   ·subst hqn
    have h5:es.toList[q]?=some (es.toList[q]'(by simpa [hl] using hq)):=ng _
    simp [h5,hq]
   ·simp only [hqn,if_false]
    simpa [hqn] using hn
  ·simp [Instr.mapUpdate,run_underlying hu,MapKept.run_getObj_map hm,R.chk,hf,e,Result.andThen,MapKept.run_setObj_map _ hm,Instr.keyThatStays,hkq,R.same]
   rfl
theorem wQW {mt kt et ty:TypeId} {tys:Array TypeId} {m ck:Nat} {es:Array MapEntry} {mk:K->Value} {tt:List (K × Value)} {a:K} (hty:tys[0]?=some mt) (hm:w.heap[m]?=some (.map es ck)) (hu:P.underlying mt=some (.map kt et)) (R:KeyR P kt mk) (hh:MpR es mk id tt) :
  ∃ es' ck',MpR es' mk id (mdel tt a)/\(Builtin.delete_ tys ty #[.map (some m),mk a]).run P w=.ok (.tuple #[]) (w.putObj m (.map es' ck')):=by
 have hf:=R.find id es.toList tt a w hh
 cases e:wDB tt a 0 with
 | none =>
  obtain ⟨_,e1⟩:=wGT e (.bool true)
  refine ⟨es,ck,by rw [e1];exact hh,?_⟩
  simp [Builtin.delete_,hty,run_underlying hu,MapKept.run_getObj_map hm,R.chk,hf,e,Result.andThen,MapKept.run_setObj_map _ hm]
  rfl
 | some p =>
  obtain ⟨q,u⟩:=p
  obtain ⟨_,h2,_,h3⟩:=wGU e (.bool true)
  rw [Nat.sub_zero] at h2 h3
  refine ⟨es.eraseIdxIfInBounds q,ck,?_,?_⟩
  ·unfold MpR at hh ⊢
   rw [h3,<- wDn,<- hh,wDn]
   simp
  ·simp [Builtin.delete_,hty,run_underlying hu,MapKept.run_getObj_map hm,R.chk,hf,e,Result.andThen,MapKept.run_setObj_map _ hm]
   rfl
def wQX (C:Chk) (P:Program) (μ:Mu) (w:World) (c:Cl) (two:Bool) (k:IntKind) (kt:TypeId) (B:AB) (y:AV) (Y:Value):Prop :=
  ∃ (K:Type) (_:DecidableEq K) (mk:K->Value) (a:K) (es:Array MapEntry) (ck:Nat) (tt:List (K × Value)),Y=mk a/\w.heap[c.1]?=some (.map es ck)/\KeyR P kt mk/\MpR es mk id tt /\
   (∀ q,wGd two k B y=some q->(q=none/\wLS tt a=none) \/ ∃ x v,q=some x/\wLS tt a=some v/\Rv μ x v) /\
   (∀ x v B',wOQ two k B y x=some B'->Rv μ x v->wLa B'/\∀ w' es' ck',w'.heap[c.1]?=some (.map es' ck')->MpR es' mk id (mput tt a v)->AbR C P μ w' c B') /\
   (∀ B',wOR two k B y=some B'->wLa B'/\∀ w' es' ck',w'.heap[c.1]?=some (.map es' ck')->MpR es' mk id (mdel tt a)->AbR C P μ w' c B')
theorem wNX {two:Bool} {k:IntKind} {kt:TypeId} {B:AB} {y:AV} {Y:Value} {c:Cl} (hk:wOW P two k kt=true) (hB:AbR C P μ w c B) (hY:Rv μ y Y) (hr:(wGd two k B y).isSome=true \/ (∃ v,(wOQ two k B y v).isSome=true) \/ (wOR two k B y).isSome=true) :
  wQX C P μ w c two k kt B y Y/\wLa B:=by
 have caseI:two=false->∀ (n:Int) (es:Array MapEntry) (ck:Nat) (tt:List (Int × Value)) (l:List (Int × AV)),y=.int k n->w.heap[c.1]?=some (.map es ck)->MpR es (fun n:Int=>nq k n) id tt->MR μ l tt ->
   (∀ q,wGd two k B y=some q->q=wLV l n)->(∀ x B',wOQ two k B y x=some B'->B'=.mapI k (wMX l n x))->(∀ B',wOR two k B y=some B'->B'=.mapI k (wMZ l n) \/ (B'=.map0/\l=[]))->wQX C P μ w c two k kt B y Y:=by
  intro h2 n es ck tt l hy hm hp hM q1 q2 q3
  subst h2 hy
  have hY:Y=.int k n:=hY
  refine ⟨Int,inferInstance,fun n=>nq k n,n,es,ck,tt,hY,hm,keyI hk,hp,?_,?_,?_⟩
  ·intro q hq
   rw [q1 q hq]
   exact mrI hM n
  ·intro x v B' hB' hv
   have:=q2 x B' hB'
   subst this
   exact ⟨trivial,fun w' es' ck' g1 g2=>⟨es',ck',_,g1,g2,wQR hM n hv⟩⟩
  ·intro B' hB'
   rcases q3 B' hB' with rfl | ⟨rfl,rfl⟩
   ·exact ⟨trivial,fun w' es' ck' g1 g2=>⟨es',ck',_,g1,g2,wQS hM n⟩⟩
   ·refine ⟨trivial,fun w' es' ck' g1 g2=>⟨ck',?_⟩⟩
    cases tt with
    | cons p tt=>have:=hM.1;simp at this
    | nil =>
     have:es'=#[]:=by
      unfold MpR at g2
      simp only [mdel,kK,kX] at g2
      exact nE (by simpa using g2)
     rw [this] at g1;exact g1
 have case2:two=true->∀ (n m:Int) (es:Array MapEntry) (ck:Nat) (tt:List ((Int × Int) × Value)) (l:List ((Int × Int) × AV)),y=.agg [.int k n,.int k m]->w.heap[c.1]?=some (.map es ck)->MpR es (mk2 k) id tt->MR μ l tt ->
   (∀ q,wGd two k B y=some q->q=wLU l n m)->(∀ x B',wOQ two k B y x=some B'->B'=.map2 k (wMW l n m x))->(∀ B',wOR two k B y=some B'->B'=.map2 k (wMY l n m) \/ (B'=.map0/\l=[]))->wQX C P μ w c two k kt B y Y:=by
  intro h2 n m es ck tt l hy hm hp hM q1 q2 q3
  subst h2 hy
  have hY:Y=mk2 k (n,m):=by
   obtain ⟨vs,g1,rfl⟩:=hY
   obtain ⟨v1,ws,g2,g3,rfl⟩:=g1
   obtain ⟨v2,ws2,g4,g5,rfl⟩:=g3
   cases g5
   have g2:v1=.int k n:=g2
   have g4:v2=.int k m:=g4
   subst g2 g4
   rfl
  refine ⟨Int × Int,inferInstance,mk2 k,(n,m),es,ck,tt,hY,hm,wLe hk,hp,?_,?_,?_⟩
  ·intro q hq
   rw [q1 q hq]
   exact mr2 hM n m
  ·intro x v B' hB' hv
   have:=q2 x B' hB'
   subst this
   exact ⟨trivial,fun w' es' ck' g1 g2=>⟨es',ck',_,g1,g2,wQT hM n m hv⟩⟩
  ·intro B' hB'
   rcases q3 B' hB' with rfl | ⟨rfl,rfl⟩
   ·exact ⟨trivial,fun w' es' ck' g1 g2=>⟨es',ck',_,g1,g2,wQU hM n m⟩⟩
   ·refine ⟨trivial,fun w' es' ck' g1 g2=>⟨ck',?_⟩⟩
    cases tt with
    | cons p tt=>have:=hM.1;simp at this
    | nil =>
     have:es'=#[]:=by
      unfold MpR at g2
      simp only [mdel,kK,kX] at g2
      exact nE (by simpa using g2)
     rw [this] at g1;exact g1
 have shape:(∃ n,two=false/\y=.int k n/\(B=.map0 \/ ∃ l,B=.mapI k l)) \/ (∃ n m,two=true/\y=.agg [.int k n,.int k m]/\(B=.map0 \/ ∃ l,B=.map2 k l)):=by
  have fI:∀ {k':IntKind} {b:Bool} {α:Type} {x:Option α},(ifO b x).isSome=true->b=true:=fun {k' b α x} hq=>by cases b <;> first | rfl | cases hq
  rcases hr with hr | ⟨v,hr⟩ | hr
  ·unfold wGd at hr
   split at hr <;> first | (cases hr;done) | skip
   ·have:=wBk (fI (k':=k) hr);subst this;exact .inl ⟨_,rfl,rfl,.inl rfl⟩
   ·have:=fI (k':=k) hr;simp only [hH] at this
    have e1:=wBk this.1;have e2:=wBk this.2;subst e1 e2;exact .inr ⟨_,_,rfl,rfl,.inl rfl⟩
   ·have:=fI (k':=k) hr;simp only [hH] at this
    have e1:=wBk this.1;have e2:=wBk this.2;subst e1 e2;exact .inl ⟨_,rfl,rfl,.inr ⟨_,rfl⟩⟩
   ·have:=fI (k':=k) hr;simp only [hH] at this
    have e1:=wBk this.1;have e2:=wBk this.2.1;have e3:=wBk this.2.2;subst e1 e2 e3;exact .inr ⟨_,_,rfl,rfl,.inr ⟨_,rfl⟩⟩
  ·unfold wOQ at hr
   split at hr <;> first | (cases hr;done) | skip
   ·have:=wBk (fI (k':=k) hr);subst this;exact .inl ⟨_,rfl,rfl,.inl rfl⟩
   ·have:=fI (k':=k) hr;simp only [hH] at this
    have e1:=wBk this.1;have e2:=wBk this.2;subst e1 e2;exact .inr ⟨_,_,rfl,rfl,.inl rfl⟩
   ·have:=fI (k':=k) hr;simp only [hH] at this
    have e1:=wBk this.1;have e2:=wBk this.2;subst e1 e2;exact .inl ⟨_,rfl,rfl,.inr ⟨_,rfl⟩⟩
   ·have:=fI (k':=k) hr;simp only [hH] at this
    have e1:=wBk this.1;have e2:=wBk this.2.1;have e3:=wBk this.2.2;subst e1 e2 e3;exact .inr ⟨_,_,rfl,rfl,.inr ⟨_,rfl⟩⟩
  ·unfold wOR at hr
   split at hr <;> first | (cases hr;done) | skip
   ·have:=wBk (fI (k':=k) hr);subst this;exact .inl ⟨_,rfl,rfl,.inl rfl⟩
   ·have:=fI (k':=k) hr;simp only [hH] at this
    have e1:=wBk this.1;have e2:=wBk this.2;subst e1 e2;exact .inr ⟨_,_,rfl,rfl,.inl rfl⟩
   ·have:=fI (k':=k) hr;simp only [hH] at this
    have e1:=wBk this.1;have e2:=wBk this.2;subst e1 e2;exact .inl ⟨_,rfl,rfl,.inr ⟨_,rfl⟩⟩
   ·have:=fI (k':=k) hr;simp only [hH] at this
    have e1:=wBk this.1;have e2:=wBk this.2.1;have e3:=wBk this.2.2;subst e1 e2 e3;exact .inr ⟨_,_,rfl,rfl,.inr ⟨_,rfl⟩⟩
 have iS:∀ {b:Bool} {α:Type} {x:Option α} {v:α},ifO b x=some v->x=some v:=fun hq=>(wBf hq).2
 rcases shape with ⟨n,rfl,rfl,rfl | ⟨l,rfl⟩⟩ | ⟨n,m,rfl,rfl,rfl | ⟨l,rfl⟩⟩
 ·obtain ⟨ck,hm⟩:=hB
  refine ⟨?_,trivial⟩
  exact caseI rfl n #[] ck [] [] rfl hm rfl ⟨rfl,rfl⟩ (fun q hq=>by simp only [wGd] at hq;cases iS hq;rfl) (fun x B' hq=>by simp only [wOQ] at hq;cases iS hq;rfl) (fun B' hq=>by simp only [wOR] at hq;cases iS hq;exact .inr ⟨rfl,rfl⟩)
 ·obtain ⟨es,ck,tt,hm,hp,hM⟩:=hB
  refine ⟨?_,trivial⟩
  exact caseI rfl n es ck tt l rfl hm hp hM (fun q hq=>by simp only [wGd] at hq;cases iS hq;rfl) (fun x B' hq=>by simp only [wOQ] at hq;cases iS hq;rfl) (fun B' hq=>by simp only [wOR] at hq;cases iS hq;exact .inl rfl)
 ·obtain ⟨ck,hm⟩:=hB
  refine ⟨?_,trivial⟩
  exact case2 rfl n m #[] ck [] [] rfl hm rfl ⟨rfl,rfl⟩ (fun q hq=>by simp only [wGd] at hq;cases iS hq;rfl) (fun x B' hq=>by simp only [wOQ] at hq;cases iS hq;rfl) (fun B' hq=>by simp only [wOR] at hq;cases iS hq;exact .inr ⟨rfl,rfl⟩)
 ·obtain ⟨es,ck,tt,hm,hp,hM⟩:=hB
  refine ⟨?_,trivial⟩
  exact case2 rfl n m es ck tt l rfl hm hp hM (fun q hq=>by simp only [wGd] at hq;cases iS hq;rfl) (fun x B' hq=>by simp only [wOQ] at hq;cases iS hq;rfl) (fun B' hq=>by simp only [wOR] at hq;cases iS hq;exact .inl rfl)
def wRr (P:Program) (two:Bool) (k:IntKind) (ok:Bool) (z:AV) (x y:AOd):Op->Bool
 | .lookup t x' y' ok'=>wDy P t (fun d=>match d with
   | .map kt et=>wOW P two k kt && (match P.info? et with
    | some i=>match i.zero with | some v=>okc z v | none=>false
    | none=>false)
   | _=>false) && ((ok == ok') && (wCD x x' && wCD y y'))
 | _=>false
def lkV (ok:Bool) (z:AV) (q:Option AV):AV:=match ok with
 | true=>.tup [q.getD z,.bool q.isSome]
 | false=>q.getD z
theorem l_lk {two:Bool} {k:IntKind} {ok:Bool} {z:AV} {x y:AOd} {op:Op} (hc:wRr P two k ok z x y op=true):OkL C P op (wOT two k ok z x y):=by
 intro σA h v h' hr
 unfold wRr at hc
 split at hc
 ·rename_i t x' y' ok'
  simp only [hH,beq_iff_eq] at hc
  obtain ⟨c1,rfl,c2,c3⟩:=hc
  obtain ⟨d,d1,d2⟩:=wAe c1
  split at d2 <;> first | (cases d2;done) | skip
  rename_i kt et
  simp only [hH] at d2
  obtain ⟨k1,k2⟩:=d2
  split at k2 <;> first | (cases k2;done) | skip
  rename_i i hi
  split at k2 <;> first | (cases k2;done) | skip
  rename_i zv hz
  unfold wOT at hr
  split at hr <;> first | (cases hr;done) | skip
  rename_i b hx
  split at hr <;> first | (cases hr;done) | skip
  rename_i B hB
  have key:∀ q,wGd two k B (evA σA y)=some q->h'=h->v=lkV ok z q->h'=h/\∀ μ σ w,EnvR μ σA σ->Sim C P μ h w->∃ cv,Rv μ v cv/\∀ (o:Oper),o.op=.lookup t x' y' ok->wFu P σ w o cv:=by
   intro q hq hh hv
   subst hh hv
   refine ⟨rfl,fun μ σ w hE S=>?_⟩
   have g:=wAF c2 hE;rw [hx] at g
   obtain ⟨c,g1,g2⟩:=g
   obtain ⟨c',g3,g4⟩:=S.at_ b B hB
   rw [g1] at g3;cases g3
   obtain ⟨⟨K,_,mk,a,es,ck,tt,e1,e2,e3,e4,e5,_,_⟩,hl⟩:=wNX k1 g4 (wAF c3 hE) (.inl (by rw [hq];rfl))
   have hrun:∀ w',Keep w w' Non->∀ (o:Oper),o.op=.lookup t x' y' ok->Runs P σ w' o (if ok then .tuple #[wIm tt a zv,.bool (wPo tt a)] else wIm tt a zv) w':=by
    intro w' K o ho
    have hm:=(K.block _ (wAV e2) id).trans e2
    have:=wRq (P:=P) (ok:=ok) hm d1 e3 (wDV hi hz) e4 (a:=a)
    exact ⟨by rw [ho];rfl,by simp [execOp,ho,g2,e1,this,Result.andThen]⟩
   refine ⟨_,?_,fun o ho w' K=>hrun w' K o ho⟩
   have hval:Rv μ (q.getD z) (wIm tt a zv)/\q.isSome=wPo tt a:=by
    rcases e5 q hq with ⟨rfl,q2⟩ | ⟨x,v,rfl,q2,q3⟩
    ·unfold wIm wPo;rw [q2];exact ⟨wNE μ k2,rfl⟩
    ·unfold wIm wPo;rw [q2];exact ⟨q3,rfl⟩
   cases ok
   ·exact hval.1
   ·exact ⟨_,wBe hval.1 (wBe (v:=.bool (wPo tt a)) (by rw [<- hval.2];rfl) wGl),rfl⟩
  split at hr
  ·rename_i q hq
   cases hr
   exact key _ hq rfl (by cases ok <;> rfl)
  ·rename_i hq
   cases hr
   exact key _ hq rfl (by cases ok <;> rfl)
  ·cases hr
 ·cases hc
def wKr (P:Program) (two:Bool) (k:IntKind) (x y z:AOd):Op->Bool
 | .mapUpdate t x' y' z' | .insert t x' y' z'=>wDy P t (fun d=>match d with
   | .map kt et=>wOW P two k kt
   | _=>false) && (wCD x x' && (wCD y y' && wCD z z'))
 | _=>false
theorem wNY {two:Bool} {k:IntKind} {x y z:AOd} {op:Op} (hc:wKr P two k x y z op=true):∃ t kt et x' y' z',(op=.mapUpdate t x' y' z' \/ op=.insert t x' y' z')/\P.underlying t=some (.map kt et)/\wOW P two k kt=true/\wCD x x'=true/\wCD y y'=true/\wCD z z'=true:=by
 have key:∀ {t:TypeId} {x' y' z':Operand},(wDy P t (fun d=>match d with | .map kt et=>wOW P two k kt | _=>false) && (wCD x x' && (wCD y y' && wCD z z')))=true->∃ kt et,P.underlying t=some (.map kt et)/\wOW P two k kt=true/\wCD x x'=true/\wCD y y'=true/\wCD z z'=true:=by
  intro t x' y' z' hq
  simp only [hH] at hq
  obtain ⟨d,d1,d2⟩:=wAe hq.1
  split at d2 <;> first | (cases d2;done) | skip
  exact ⟨_,_,d1,d2,hq.2⟩
 unfold wKr at hc
 split at hc
 ·obtain ⟨kt,et,g⟩:=key hc;exact ⟨_,kt,et,_,_,_,.inl rfl,g⟩
 ·obtain ⟨kt,et,g⟩:=key hc;exact ⟨_,kt,et,_,_,_,.inr rfl,g⟩
 ·cases hc
theorem wRs {two:Bool} {k:IntKind} {x y z:AOd} {op:Op} (hc:wKr P two k x y z op=true):OkU C P op (wFm two k x y z):=by
 intro σA h v h' hr μ σ w hE S o ho
 obtain ⟨t,kt,et,x',y',z',hop,d1,k1,c1,c2,c3⟩:=wNY hc
 unfold wFm at hr
 split at hr <;> first | (cases hr;done) | skip
 rename_i b hx
 split at hr <;> first | (cases hr;done) | skip
 rename_i B hB
 split at hr <;> first | (cases hr;done) | skip
 rename_i B' hp
 split at hr <;> first | (cases hr;done) | skip
 rename_i h1' hput
 cases hr
 have g:=wAF c1 hE;rw [hx] at g
 obtain ⟨c,g1,g2⟩:=g
 obtain ⟨c',g3,g4⟩:=S.at_ b B hB
 rw [g1] at g3;cases g3
 obtain ⟨⟨K,_,mk,a,es,ck,tt,e1,e2,e3,e4,_,e6,_⟩,hl⟩:=wNX k1 g4 (wAF c2 hE) (.inr (.inl ⟨_,by rw [hp];rfl⟩))
 obtain ⟨es',ck',r1,r2⟩:=wQV (P:=P) (v:=ev σ z') e2 d1 e3 e4 (a:=a)
 obtain ⟨l1,l2⟩:=e6 _ (ev σ z') B' hp (wAF c3 hE)
 obtain ⟨s1,s2,s3⟩:=S.put hput hB hl g1 (wCF w c.1 (.map es' ck')) (l2 _ es' ck' (wGY _ (wAV e2)) r1)
 refine ⟨μ,_,s2,s1,rfl,s3,by rw [ho];rcases hop with e | e <;> (rw [e];rfl),?_⟩
 rcases hop with e | e <;> rw [e] at ho <;> simp [execOp,ho,g2,e1,r2,Result.andThen]
def wNZ (P:Program) (two:Bool) (k:IntKind) (x y:AOd):Op->Bool
 | .call c=>match c.callee with
  | .builtin b=>(b == .delete) && (match c.args.toList,c.argTypes.toList with
   | [x',y'],t :: _=>wDy P t (fun d=>match d with | .map kt _=>wOW P two k kt | _=>false) && (wCD x x' && wCD y y')
   | _,_=>false)
  | _=>false
 | _=>false
theorem wRt {two:Bool} {k:IntKind} {x y:AOd} {op:Op} (hc:wNZ P two k x y op=true):OkE C P op (wFn two k x y):=by
 intro σA h v h' hr μ σ w hE S o ho
 unfold wNZ at hc
 split at hc <;> first | (cases hc;done) | skip
 rename_i c
 obtain ⟨ce,args,tys⟩:=c
 simp only at hc
 split at hc <;> first | (cases hc;done) | skip
 rename_i b
 simp only [hH,beq_iff_eq] at hc
 obtain ⟨rfl,h2⟩:=hc
 split at h2 <;> first | (cases h2;done) | skip
 rename_i x' y' t ts h3 h4
 simp only [hH] at h2
 obtain ⟨a1,a2,a3⟩:=h2
 obtain ⟨d,d1,d2⟩:=wAe a1
 split at d2 <;> first | (cases d2;done) | skip
 rename_i kt et
 have ea:args=#[x',y']:=nE (by simpa using h3)
 have et':tys[0]?=some t:=by rw [<- kS,h4];rfl
 unfold wFn at hr
 split at hr <;> first | (cases hr;done) | skip
 rename_i b hx
 split at hr <;> first | (cases hr;done) | skip
 rename_i B hB
 split at hr <;> first | (cases hr;done) | skip
 rename_i B' hp
 split at hr <;> first | (cases hr;done) | skip
 rename_i h1' hput
 cases hr
 have g:=wAF a2 hE;rw [hx] at g
 obtain ⟨c,g1,g2⟩:=g
 obtain ⟨c',g3,g4⟩:=S.at_ b B hB
 rw [g1] at g3;cases g3
 obtain ⟨⟨K,_,mk,a,es,ck,tt,e1,e2,e3,e4,_,_,e7⟩,hl⟩:=wNX d2 g4 (wAF a3 hE) (.inr (.inr (by rw [hp];rfl)))
 obtain ⟨es',ck',r1,r2⟩:=wQW (P:=P) (ty:=o.type) et' e2 d1 e3 e4 (a:=a)
 obtain ⟨l1,l2⟩:=e7 B' hp
 obtain ⟨s1,s2,s3⟩:=S.put hput hB hl g1 (wCF w c.1 (.map es' ck')) (l2 _ es' ck' (wGY _ (wAV e2)) r1)
 refine ⟨μ,_,_,s2,s1,wNC μ,s3,by rw [ho];rfl,?_⟩
 simp [execOp,ho,ea,resolve,invoke,builtin,g2,e1,r2,undef,Result.andThen]
def wJF (P:Program) (x:AOd):Op->Bool
 | .call c=>match c.callee with
  | .builtin b=>(b == .len) && (match c.args.toList,c.argTypes.toList with
   | [x'],[t]=>wDy P t (fun d=>match d with | .map _ _=>true | _=>false) && wCD x x'
   | _,_=>false)
  | _=>false
 | _=>false
theorem wRu {x:AOd} {op:Op} (hc:wJF P x op=true):OkL C P op (wEd x):=by
 intro σA h v h' hr
 unfold wJF at hc
 split at hc <;> first | (cases hc;done) | skip
 rename_i c
 obtain ⟨ce,args,tys⟩:=c
 simp only at hc
 split at hc <;> first | (cases hc;done) | skip
 rename_i b
 simp only [hH,beq_iff_eq] at hc
 obtain ⟨rfl,h2⟩:=hc
 split at h2 <;> first | (cases h2;done) | skip
 rename_i x' t h3 h4
 simp only [hH] at h2
 obtain ⟨a1,a2⟩:=h2
 obtain ⟨d,d1,d2⟩:=wAe a1
 split at d2 <;> first | (cases d2;done) | skip
 rename_i kt et
 have ea:args=#[x']:=nE (by simpa using h3)
 have et':tys=#[t]:=nE (by simpa using h4)
 subst ea et'
 unfold wEd at hr
 split at hr
 ·rename_i hx
  cases hr
  refine ⟨rfl,fun μ σ w hE S=>⟨_,rfl,fun o ho w' K=>?_⟩⟩
  have g:=wAF a2 hE;rw [hx] at g
  have g:ev σ x'=.map none:=g
  exact ⟨by rw [ho];rfl,by simp [execOp,ho,resolve,invoke,builtin,Builtin.len_,g,run_underlying d1,goInt,Result.andThen]⟩
 ·rename_i b hx
  split at hr <;> first | (cases hr;done) | skip
  rename_i B hB
  split at hr <;> first | (cases hr;done) | skip
  rename_i n hn
  cases hr
  refine ⟨rfl,fun μ σ w hE S=>⟨_,rfl,fun o ho w' K=>?_⟩⟩
  have g:=wAF a2 hE;rw [hx] at g
  obtain ⟨c,g1,g2⟩:=g
  obtain ⟨c',g3,g4⟩:=S.at_ b B hB
  rw [g1] at g3;cases g3
  have hmap:∃ es ck,w.heap[c.1]?=some (.map es ck)/\es.size=n:=by
   unfold lenB at hn
   split at hn <;> first | (cases hn;done) | skip
   ·cases hn;obtain ⟨ck,q⟩:=g4;exact ⟨_,ck,q,rfl⟩
   ·cases hn
    obtain ⟨es,ck,tt,q1,q2,q3⟩:=g4
    refine ⟨es,ck,q1,?_⟩
    have e1:=congrArg nz q2
    have e2:=congrArg nz q3.1
    simp at e1 e2
    rw [wEJ];omega
   ·cases hn
    obtain ⟨es,ck,tt,q1,q2,q3⟩:=g4
    refine ⟨es,ck,q1,?_⟩
    have e1:=congrArg nz q2
    have e2:=congrArg nz q3.1
    simp at e1 e2
    rw [wEJ];omega
  obtain ⟨es,ck,q1,q2⟩:=hmap
  have hm:=(K.block _ (wAV q1) id).trans q1
  refine ⟨by rw [ho];rfl,?_⟩
  simp [execOp,ho,resolve,invoke,builtin,Builtin.len_,g2,run_underlying d1,MapKept.run_getObj_map hm,goInt,Result.andThen,q2]
 ·cases hr
end
end
end Go.KX
namespace Go.KX
noncomputable section
open Go.RowKit Go.KL
def kdA:AOp->Nat
 | .mv _ | .pick _ _ _ | .nilc _ | .add _ _ | .sub _ _ | .mul _ _ | .quo _ _ | .rem _ _ | .lss _ _ | .leq _ _ | .gtr _ _ | .geq _ _ | .eql _ _ | .neq _ _ | .eqb _ _ _ | .eqn _ _ _ _ | .eqs _ _ _ _
 | .bad | .and _ _ | .shr _ _ | .ixs _ _ | .neg _ | .not _ | .cvt _ _ | .mkf _ _ _ | .slc _ _ _ _ _ | .slcA _ _ _ _ _ | .fad _ _ | .fld _ _ | .fldA _ _ _ | .iad _ _ _ | .iadA _ _ _ _ | .ix _ _ _ | .ixA _ _ _ _ | .ext _ _ | .bld _ _ | .len _ | .cap _ | .min _ _ | .max _ _=>3
 | .ld _ | .ldA _ _ | .lk _ _ _ _ _ _ | .lenM _=>1
 | .st _ _ _ | .mput _ _ _ _ _=>4
 | .call _ _=>5
 | _=>0
def wNa (x:AOd) (l:List AOd):Op->Bool
 | .call c=>match c.callee with
  | .value f=>wCD x f && wJB l c.args.toList
  | _=>false
 | _=>false
def wRK:List UInt8->List Nat->Bool
 | [],[]=>true
 | a :: l,b :: k=>nB a.toNat b && wRK l k
 | _,_=>false
theorem wNb:∀ {l:List UInt8} {k:List Nat},wRK l k=true->l.map UInt8.toNat=k
 | [],[],_=>rfl
 | a :: l,b :: k,h=>by
  simp only [wRK,hH] at h
  rw [nI,nA h.1,wNb h.2]
 | [],_ :: _,h=>by simp [wRK] at h
 | _ :: _,[],h=>by simp [wRK] at h
def wQY (P:Program) (l:List Nat) (y:AOd):Op->Bool
 | .index t (.const (.string s)) y'=>wDy P t (fun d=>match d with | .string=>true | _=>false) && (wRK s.data.toList l && wCD y y')
 | _=>false
def wGt (P:Program) (a:AOp) (op:Op):Bool:=match a with
 | .mv x=>c_mv x op
 | .pick c x y=>wNF c x y op
 | .new T z=>wNS P T z op
 | .box T x=>wNT T x op
 | .ld x=>wRn P x op
 | .ldA n x=>wNR P n x op
 | .st n x y=>c_st P n x y op
 | .nilc x=>wNG x op
 | .add x y=>wCV .add x y op
 | .sub x y=>wCV .sub x y op
 | .mul x y=>wCV .mul x y op
 | .quo x y=>wCV .quo x y op
 | .rem x y=>wCV .rem x y op
 | .lss x y=>wCV .lss x y op
 | .leq x y=>wCV .leq x y op
 | .gtr x y=>wCV .gtr x y op
 | .geq x y=>wCV .geq x y op
 | .eql x y=>wCV .eql x y op
 | .neq x y=>wCV .neq x y op
 | .eqb ne x y=>wQE P ne x y op
 | .eqn k ne x y=>wQF P k ne x y op
 | .eqs ne s x y=>wQG P ne s x y op
 | .neg x=>wPz x op
 | .not x=>wQA x op
 | .cvt k x=>wQB (P:=P) k x op
 | .mkf f fi ca=>wQC f fi ca op
 | .mkm=>wNU op
 | .mks T sz by_ z x y=>wNV P T sz by_ z x y op
 | .slc sz x lo hi mx=>wQL P sz x lo hi mx op
 | .slcA sz n x lo hi=>wNP P sz n x lo hi op
 | .fad off x=>wQH P off x op
 | .fld off x=>wQI P off x op
 | .fldA off n x=>wNL P off n x op
 | .iad sz x y=>wQJ P sz x y op
 | .iadA sz n x y=>wNM P sz n x y op
 | .ix n x y=>c_ix P n x y op
 | .ixA sz n x y=>wQK P sz n x y op
 | .lk two k ok z x y=>wRr P two k ok z x y op
 | .mput two k x y z=>wKr P two k x y z op
 | .mdel two k x y=>wNZ P two k x y op
 | .ext i x=>wQD i x op
 | .bld z ps=>wQM P z ps op
 | .blds T n z ps=>wJE P T n z ps op
 | .len x=>wLd P .len x op
 | .lenM x=>wJF P x op
 | .cap x=>wLd P .cap x op
 | .app T sz by_ x y=>wOk P T sz by_ x y op
 | .cpy sz x y=>wQO P sz x y op
 | .clr z x=>wQP P z x op
 | .min x y=>wRJ .min x y op
 | .max x y=>wRJ .max x y op
 | .call x l=>wNa x l op
 | .bad=>true
 | .and x y=>wCV .and x y op
 | .shr x y=>wCV .shr x y op
 | .ixs l y=>wQY P l y op
 | .apz T sz by_ z x y=>wQQ P T sz by_ z x y op
section
variable {C:Chk} {P:Program} {tb:Tr AF} {ex exY:Run}
theorem p_bad {op:Op}:OkP P op (wRa):=by
 intro σA h v h' hr
 cases hr
theorem p_and {x y:AOd} {op:Op} (hc:wCV .and x y op=true):OkP P op (wMq x y):=by
 intro σA h v h' hr
 obtain ⟨t,x',y',t',rfl,h1,h2⟩:=wFK hc
 obtain ⟨hr2,rfl⟩:=wBl hr
 split at hr2
 ·rename_i k a k' b ha hb
  split at hr2
  ·rename_i hk
   cases hr2
   have hk:=wBk hk
   subst hk
   refine ⟨rfl,fun μ σ hE=>⟨_,rfl,fun o w ho=>?_⟩⟩
   have g1:=wAF h1 hE;rw [ha] at g1
   have g2:=wAF h2 hE;rw [hb] at g2
   have g1:ev σ x'=.int k a:=g1
   have g2:ev σ y'=.int k b:=g2
   exact ⟨by rw [ho];rfl,by simp [execOp,ho,g1,g2,binOp,eqGuard,Op.intBits,andI]⟩
  ·cases hr2
 ·cases hr2
theorem p_shr {x y:AOd} {op:Op} (hc:wCV .shr x y op=true):OkP P op (wMr x y):=by
 intro σA h v h' hr
 obtain ⟨t,x',y',t',rfl,h1,h2⟩:=wFK hc
 obtain ⟨hr2,rfl⟩:=wBl hr
 split at hr2
 ·rename_i k a k' b ha hb
  cases hr2
  refine ⟨rfl,fun μ σ hE=>⟨_,rfl,fun o w ho=>?_⟩⟩
  have g1:=wAF h1 hE;rw [ha] at g1
  have g2:=wAF h2 hE;rw [hb] at g2
  have g1:ev σ x'=.int k a:=g1
  have g2:ev σ y'=.int k' (kO b):=g2
  have hn:¬ (kO b) < 0:=by simp
  exact ⟨by rw [ho];rfl,by simp [execOp,ho,g1,g2,binOp,eqGuard,Op.shift];intro hb0;omega⟩
 ·cases hr2
theorem p_ixs {l:List Nat} {y:AOd} {op:Op} (hc:wQY P l y op=true):OkP P op (wJw l y):=by
 intro σA h v h' hr
 unfold wQY at hc
 split at hc <;> first | (cases hc;done) | skip
 rename_i t s y'
 simp only [hH] at hc
 obtain ⟨c1,c2,c3⟩:=hc
 obtain ⟨d,d1,d2⟩:=wAe c1
 split at d2 <;> first | (cases d2;done) | skip
 have hl:=wNb c2
 unfold wJw at hr
 split at hr
 ·rename_i k i hy
  obtain ⟨hr2,rfl⟩:=wBl hr
  split at hr2
  ·rename_i b hb
   cases hr2
   rw [wFp,<- hl,nk] at hb
   have hi:i < s.data.toList.length:=by
    rcases nf i s.data.toList.length with q | q
    ·exact q
    ·rw [kR q] at hb;cases hb
   have hi2:i < s.size:=by simpa using hi
   rw [ng hi] at hb
   have hb:(s.data.toList[i]).toNat=b:=by simpa using hb
   refine ⟨rfl,fun μ σ hE=>⟨_,rfl,fun o w ho=>?_⟩⟩
   have g:=wAF c3 hE;rw [hy] at g
   have g:ev σ y'=.int k (kO i):=g
   have hx:ev σ (.const (.string s))=.string s:=rfl
   have hrun:=run_index_string (P:=P) w t s k (kO i) d1
   rw [dif_pos ⟨by simp,by simpa using hi2⟩] at hrun
   have hbb:(s[(kO i).toNat]'(by simpa using hi2)).toNat=b:=by rw [<- hb];rfl
   rw [hbb] at hrun
   simp only [nR] at hrun
   exact ⟨by rw [ho];rfl,by simp only [execOp,ho,hx,g];simp [hrun]⟩
  ·cases hr2
 ·cases hr
theorem wHp {a:AOp} {op:Op} (hk:kdA a=3) (hc:wGt P a op=true):OkP P op (opY a tb ex exY):=by
 cases a <;> first
  | (simp [kdA] at hk;done)
  | exact p_bad | exact p_and hc | exact p_shr hc | exact p_ixs hc | exact p_mv hc | exact wRg hc | exact wRh hc | exact p_add hc | exact p_sub hc | exact p_mul hc | exact p_quo hc | exact p_rem hc
  | exact p_lss hc | exact p_leq hc | exact p_gtr hc | exact p_geq hc | exact p_eql hc | exact p_neq hc | exact p_eqb hc | exact p_eqn hc | exact p_eqs hc
  | exact p_neg hc | exact p_not hc | exact p_cvt hc | exact p_mkf hc | exact p_slc hc | exact wRl hc | exact p_fad hc | exact p_fld hc | exact wRj hc
  | exact p_iad hc | exact wRk hc | exact p_ix hc | exact p_ixA hc | exact p_ext hc | exact p_bld hc | exact p_len hc | exact p_cap hc | exact p_min hc | exact p_max hc
theorem wHq {a:AOp} {op:Op} (hk:kdA a=1 \/ kdA a=3) (hc:wGt P a op=true):OkL C P op (opY a tb ex exY):=by
 rcases hk with hk | hk
 ·cases a <;> first
   | (simp [kdA] at hk;done)
   | exact l_ld hc | exact l_ldA hc | exact l_lk hc | exact wRu hc
 ·exact (wHp hk hc).toL
theorem wRv {a:AOp} {op:Op} (hk:kdA a=0 \/ kdA a=1 \/ kdA a=3) (hc:wGt P a op=true):OkE C P op (opY a tb ex exY):=by
 rcases hk with hk | hk
 ·cases a <;> first
   | (simp [kdA] at hk;done)
   | exact e_new hc | exact e_box hc | exact e_mkm hc | exact e_mks hc | exact wRt hc | exact wRo hc | exact e_app hc | exact e_apz hc | exact e_cpy hc | exact e_clr hc
 ·exact (wHq hk hc).toE
theorem wRw {a:AOp} {op:Op} (hk:kdA a=4) (hc:wGt P a op=true):OkU C P op (opY a tb ex exY):=by
 cases a <;> first
  | (simp [kdA] at hk;done)
  | exact u_st hc | exact wRs hc
def wFq (C:Chk) (P:Program) (tb:Tr AF) (ex:Run):Prop:=∀ f args h v h',wIt tb ex f args h=some (v,h') ->
 (∀ (a:Array Value) (w:World),(callFunc (f.nat - 1) a).run P w=.ok (.enter (f.nat - 1) a) w) /\
 ∀ μ w vs,Sim C P μ h w->RvL μ args vs->Gv P (f.nat - 1) vs w fun cv w'=>∃ μ',Ext μ h.fl.nat w μ' w'/\Sim C P μ' h' w'/\Rv μ' v cv/\h'.fl=h.fl
def wEo (C:Chk) (P:Program) (ex:Run):Prop:=∀ b args h v h',wIu ex b args h=some (v,h') ->
 ∀ μ w x c,Sim C P μ h w->RvL μ args x->μ b=some c->Yd P c.1 x w fun t w'=>∃ μ',Ext μ h.fl.nat w μ' w'/\Sim C P μ' h' w'/\v=.bool t/\h'.fl=h.fl
def wGu (P:Program) (N:Nat) (l:List Oper) (a:AO):Bool:=match l[a.ix]? with
 | none=>false
 | some o=>wGt P a.op o.op && ((match a.dst,o.dst with
   | none,none=>true
   | some p,some d=>nB p.nat (d + 1) && nG d N
   | _,_=>false) && ((match a.grd,o.guard with
   | none,none=>true
   | some (p,b),some (j,b')=>(b == b') && (match (l[j]?).bind (·.dst) with | some d=>nB p.nat (d + 1) | none=>false)
   | _,_=>false) && ((match a.kd with
   | 3=>nB (kdA a.op) 3
   | 1=>nB (kdA a.op) 1 || nB (kdA a.op) 3
   | _=>true) && ((!Nat.beq (kdA a.op) 4 || o.dst.isNone) && !Nat.beq a.kd 1005))))
structure AOK (P:Program) (N:Nat) (l:List Oper) (a:AO) (o:Oper):Prop where
 get:l[a.ix]?=some o
 op:wGt P a.op o.op=true
 dst:(a.dst=none/\o.dst=none) \/ ∃ p d,a.dst=some p/\o.dst=some d/\d=p.nat - 1/\d < N
 grd:(a.grd=none/\o.guard=none) \/ ∃ p b j d,a.grd=some (p,b)/\o.guard=some (j,b)/\(l[j]?).bind (·.dst)=some d/\d=p.nat - 1
 k3:a.kd=3->kdA a.op=3
 k1:a.kd=1->kdA a.op=1 \/ kdA a.op=3
 un:kdA a.op=4->o.dst=none
 k5:a.kd ≠ 1005
theorem wCs {N:Nat} {l:List Oper} {a:AO} (hc:wGu P N l a=true):∃ o,AOK P N l a o:=by
 unfold wGu at hc
 split at hc
 ·cases hc
 ·rename_i o ho
  simp only [hH] at hc
  obtain ⟨c1,c2,c3,c4,c5,c6⟩:=hc
  refine ⟨o,ho,c1,?_,?_,?_,?_,?_,?_⟩
  ·split at c2
   ·rename_i h1 h2;exact .inl ⟨h1,h2⟩
   ·rename_i p d h1 h2
    simp only [hH,nD] at c2
    have:=nA c2.1
    exact .inr ⟨p,d,h1,h2,by rw [this];rfl,c2.2⟩
   ·cases c2
  ·split at c3
   ·rename_i h1 h2;exact .inl ⟨h1,h2⟩
   ·rename_i p b j b' h1 h2
    simp only [hH,beq_iff_eq] at c3
    obtain ⟨rfl,c3⟩:=c3
    split at c3
    ·rename_i d hd
     have:=nA c3
     exact .inr ⟨p,b,j,d,h1,h2,hd,by rw [this];rfl⟩
    ·cases c3
   ·cases c3
  ·intro hk;rw [hk] at c4;exact nA c4
  ·intro hk;rw [hk] at c4
   simp only [kP] at c4
   exact c4.imp nA nA
  ·intro hk;rw [hk] at c5
   simpa using c5
  ·intro hk;rw [hk] at c6
   simp at c6
theorem wIS {N:Nat} {l:List Oper} {a:AO} {o:Oper} {μ:Mu} {σA:Tr AV} {σ:Env} (A:AOK P N l a o) (hE:EnvR μ σA σ):wanted l σ o=wCf σA a.grd:=by
 unfold wanted
 rcases A.grd with ⟨h1,h2⟩ | ⟨p,b,j,d,h1,h2,h3,h4⟩
 ·rw [h1,h2];rfl
 ·rw [h1,h2]
  simp only [h3]
  show _=isB b (evA σA (.t p))
  have g:=hE p
  rw [<- h4] at g
  unfold isB
  cases hv:evA σA (.t p) <;> rw [hv] at g <;> simp only [Rv] at g <;>
   first | (rw [g];done) | (obtain ⟨_,_,_,_,_,g⟩:=g;rw [g];done) | (obtain ⟨_,_,_,_,g⟩:=g;rw [g];done) | (obtain ⟨_,_,_,g⟩:=g;rw [g];done) | (obtain ⟨_,_,g⟩:=g;rw [g];done) | (obtain ⟨_,g⟩:=g;rw [g];done) | rw [g]
theorem wDv {N:Nat} {l:List Oper} {a:AO} {o:Oper} {μ:Mu} {σA:Tr AV} {σ:Env} {v:AV} {cv:Value} (A:AOK P N l a o) (hE:EnvR μ σA σ) (hv:Rv μ v cv):EnvR μ (wFw a.dst σA v) (put' σ o cv):=by
 rcases A.dst with ⟨h1,h2⟩ | ⟨p,d,h1,h2,h3,_⟩
 ·rw [h1];unfold put';rw [h2];exact hE
 ·rw [h1];unfold put';rw [h2];subst h3;exact hE.put hv
theorem wHr {N:Nat} {l:List Oper} {a:AO} {o:Oper} (A:AOK P N l a o):∀ d,o.dst=some d->d < N:=by
 intro d hd
 rcases A.dst with ⟨_,h2⟩ | ⟨p,d',_,h2,_,h4⟩
 ·rw [h2] at hd;cases hd
 ·rw [h2] at hd;cases hd;exact h4
theorem wRx (HC:wFq C P tb ex) (HY:wEo C P exY) {N:Nat} {l:List Oper} {a:AO} {o:Oper} {μ:Mu} {σA:Tr AV} {σ:Env} {h h':AH} {v:AV} {w:World} (A:AOK P N l a o) (hw:wanted l σ o=true) (hr:opY a.op tb ex exY σA h=some (v,h')) (hE:EnvR μ σA σ) (S:Sim C P μ h w) :
  Step1 P l o σ w fun cv w'=>∃ μ',Ext μ h.fl.nat w μ' w'/\Sim C P μ' h' w'/\EnvR μ' (wFw a.dst σA v) (put' σ o cv)/\h'.fl=h.fl:=by
 have hop:=A.op
 by_cases k4:kdA a.op=4
 ·obtain ⟨μ',w',h1,h2,rfl,h4,h5⟩:=wRw (C:=C) k4 hop σA h v h' hr μ σ w hE S o rfl
  exact .inl ⟨hw,.inl ⟨A.un k4,w',h5,μ',h1,h2,wDv A (hE.mono h1.mono) (wNC μ'),h4⟩⟩
 ·by_cases k5:kdA a.op=5
  ·cases hq:a.op <;> rw [hq] at k5 <;> first | (simp [kdA] at k5;done) | skip
   rename_i x args
   rw [hq] at hop hr
   have hop:wNa x args o.op=true:=hop
   unfold wNa at hop
   split at hop <;> first | (cases hop;done) | skip
   rename_i c hoc
   obtain ⟨ce,cargs,tys⟩:=c
   simp only at hop
   split at hop <;> first | (cases hop;done) | skip
   rename_i f
   simp only [hH] at hop
   have hx:=wAF hop.1 hE
   have ha:=wGG hop.2 hE
   have hr:wFo x args tb ex exY σA h=some (v,h'):=hr
   unfold wFo at hr
   split at hr
   ·rename_i g fi ca hg
    rw [hg] at hx
    obtain ⟨fv,cv,g1,g2,g3⟩:=hx
    obtain ⟨hcall,hgv⟩:=HC _ _ _ _ _ hr
    have G:=hgv μ w _ S (wDo g1 (wDo ha g2))
    refine .inl ⟨hw,.inr (.inr (.inl ⟨_,_,_,Enters.mk (l:=cargs.toList) hoc g3 hcall rfl (by rw [kG]),G,?_⟩))⟩
    rintro cv' w' ⟨μ',h1,h2,h3,h4⟩
    exact ⟨μ',h1,h2,wDv A (hE.mono h1.mono) h3,h4⟩
   ·rename_i b hb
    rw [hb] at hx
    obtain ⟨c,g1,g2⟩:=hx
    have hy:=HY _ _ _ _ _ hr
    have Y:=hy μ w _ c S ha g1
    have R:=Yd.rounds (σ:=σ) hoc g2 rfl Y
    refine .inl ⟨hw,.inr (.inr (.inr (R.mono ?_)))⟩
    rintro cv w' ⟨t,rfl,μ',h1,h2,rfl,h4⟩
    exact ⟨μ',h1,h2,wDv A (hE.mono h1.mono) rfl,h4⟩
   ·cases hr
  ·have hk:kdA a.op=0 \/ kdA a.op=1 \/ kdA a.op=3:=by
    cases hq:a.op <;> rw [hq] at k4 k5 <;> simp [kdA] at k4 k5 ⊢
   obtain ⟨μ',w',cv,h1,h2,h3,h4,h5⟩:=wRv (C:=C) hk hop σA h v h' hr μ σ w hE S o rfl
   exact .inl ⟨hw,.inr (.inl ⟨cv,w',h5,μ',h1,h2,wDv A (hE.mono h1.mono) h3,h4⟩)⟩
theorem wRy (HC:wFq C P tb ex) (HY:wEo C P exY) {N:Nat} {l:List Oper} {a:AO} {o:Oper} {μ:Mu} {σA:Tr AV} {σ:Env} {h h':AH} {v:AV} {w:World} (A:AOK P N l a o) (hw:wanted l σ o=true) (hr:opK a.kd a.op tb ex exY σA h=some (v,h')) (hE:EnvR μ σA σ) (S:Sim C P μ h w) :
  Step1 P l o σ w fun cv w'=>(a.kd=2->Keep w w' Non)/\∃ μ',Ext μ h.fl.nat w μ' w'/\Sim C P μ' h' w'/\EnvR μ' (wFw a.dst σA v) (put' σ o cv)/\h'.fl=h.fl:=by
 by_cases k2:a.kd=2
 ·have hr:wPP a.op tb ex exY σA h=some (v,h'):=by rw [k2] at hr;exact hr
  unfold wPP at hr
  split at hr
  ·rename_i v0 h0 hq
   cases hr
   refine (wRx HC HY A hw hq hE (S.floor h.nx)).mono ?_
   rintro cv w' ⟨μ',h1,h2,h3,h4⟩
   obtain ⟨g1,g2⟩:=S.non h1 h.fl.nat
   exact ⟨fun _=>g1,μ',g2,h2.floor h.fl,h3,rfl⟩
  ·cases hr
 ·have hr:opY a.op tb ex exY σA h=some (v,h'):=by
   have hb:nB a.kd 2=false:=by
    cases hb:nB a.kd 2 with
    | false=>rfl
    | true=>exact absurd (nA hb) k2
   have:opK a.kd a.op=opY a.op:=by unfold opK;rw [hb]
   rw [this] at hr;exact hr
  exact (wRx HC HY A hw hr hE S).mono fun cv w' hq=>⟨fun e=>absurd e k2,hq⟩
def flK (k:Nat):Bool:=nB k 1 || nB k 3
def wJG:List AO->Sch
 | []=>.nil
 | a :: os=>match flK a.kd with
  | true=>.fl a.ix (wJG os)
  | false=>.fx a.ix (wJG os) .stop
theorem wJH (HC:wFq C P tb ex) (HY:wEo C P exY) {N:Nat} {l:List Oper} {ks:List Nat} {Q:wCp} {D:List Deferred}:∀ (os:List AO) (σA:Tr AV) (h:AH) (σA':Tr AV) (h':AH),wAX tb ex exY os σA h=some (σA',h') ->
  (∀ a ∈ os,wGu P N l a=true/\kOf ks a.ix=a.kd)->∀ (μ:Mu) (σ:Env) (w:World),Sim C P μ h w->EnvR μ σA σ ->
  (∀ μ' w' σ',Ext μ h.fl.nat w μ' w'->Sim C P μ' h' w'->EnvR μ' σA' σ'->h'.fl=h.fl->Q D .normal σ' w')->OKS N P l Q D ks (wJG os) σ w
 | [],σA,h,σA',h',hr,_,μ,σ,w,S,hE,hQ=>by
  rw [wAt] at hr;cases hr
  exact hQ μ w σ (Ext.refl μ _ w) S hE rfl
 | a :: os,σA,h,σA',h',hr,hc,μ,σ,w,S,hE,hQ=>by
  obtain ⟨hc1,hk⟩:=hc a (by simp)
  obtain ⟨o,A⟩:=wCs hc1
  have hc2:∀ b ∈ os,wGu P N l b=true/\kOf ks b.ix=b.kd:=fun b hb=>hc b (by simp [hb])
  rw [wAw] at hr
  have hw:=wIS A hE
  cases hwa:wCf σA a.grd with
  | false =>
   rw [hwa] at hr hw
   simp only at hr
   have IH:=wJH HC HY os _ h σA' h' hr hc2 μ (put' σ o undef) w S (wDv A hE (wNC μ)) hQ
   unfold wJG
   split
   ·exact ⟨o,A.get,wHr A,.inr ⟨hw,IH⟩⟩
   ·exact ⟨⟨o,A.get,wHr A,.inr ⟨hw,KeepD.refl l ks _ w,IH⟩⟩,trivial⟩
  | true =>
   rw [hwa] at hr hw
   simp only at hr
   split at hr
   ·rename_i r hop
    obtain ⟨v,h1⟩:=r
    simp only at hr
    unfold wJG
    split
    ·rename_i hfl
     have hk13:a.kd=1 \/ a.kd=3:=by
      unfold flK at hfl
      simp only [kP] at hfl
      exact hfl.imp nA nA
     have hop:opY a.op tb ex exY σA h=some (v,h1):=by
      rcases hk13 with e | e <;> (rw [e] at hop;exact hop)
     have hL:kdA a.op=1 \/ kdA a.op=3:=by
      rcases hk13 with e | e
      ·exact A.k1 e
      ·exact .inr (A.k3 e)
     obtain ⟨rfl,hh⟩:=wHq (C:=C) hL A.op σA h v h1 hop
     obtain ⟨cv,g1,g2⟩:=hh μ σ w hE S
     refine ⟨o,A.get,wHr A,.inl ⟨hw,?_⟩⟩
     by_cases k3:a.kd=3
     ·obtain ⟨_,hp⟩:=wHp (tb:=tb) (ex:=ex) (exY:=exY) (A.k3 k3) A.op σA h1 v h1 hop
      obtain ⟨cv,g1,g2⟩:=hp μ σ hE
      exact ⟨cv,fun w' _=>g2 o w' rfl,⟨fun _ w'=>g2 o w' rfl,fun _ w' _=>g2 o w' rfl⟩,wJH HC HY os _ h1 σA' h' hr hc2 μ _ w S (wDv A hE g1) hQ⟩
     ·exact ⟨cv,g2 o rfl,⟨fun e=>absurd (hk ▸ e) k3,fun e=>by rw [hk] at e;rcases hk13 with q | q <;> omega⟩,wJH HC HY os _ h1 σA' h' hr hc2 μ _ w S (wDv A hE g1) hQ⟩
    ·refine ⟨⟨o,A.get,wHr A,(wRy HC HY A hw hop hE S).mono ?_⟩,trivial⟩
     rintro cv w1 ⟨q0,μ1,q1,q2,q3,q4⟩
     refine ⟨⟨fun e=>q0 (hk ▸ e),fun e=>absurd (hk ▸ e) A.k5⟩,wJH HC HY os _ h1 σA' h' hr hc2 μ1 _ w1 q2 q3 fun μ' w' σ' r1 r2 r3 r4=>?_⟩
     rw [q4] at r1 r4
     exact hQ μ' w' σ' (q1.trans r1) r2 r3 r4
   ·cases hr
end
end
end Go.KX
namespace Go.KX
open Go.RowKit Go.KL
section
variable {C:Chk} {P:Program} {tb:Tr AF} {ex exY:Run}
def OkA (C:Chk) (P:Program) (op:Op) (f:Tr AV->AH->Option (AV × AH)):Prop :=
 ∀ σA h v h',f σA h=some (v,h')->∃ (B:AB) (vf:Pos->AV),h'=h.push B/\v=vf h.nx/\(∀ h2:AH,f σA h2=some (vf h2.nx,h2.push B))/\wLa B/\∀ μ σ,EnvR μ σA σ->∀ o:Oper,o.op=op ->
  ∃ (ob:Obj) (val:Nat->Value),(∀ w:World,Runs P σ w o (val w.heap.size) (w.alloc ob)) /\
   (∀ μ' (w:World) b,μ.Le μ'->w.heap[b]?=some ob->AbR C P μ' w ⟨b,0,g0⟩ B)/\∀ μ' p b,μ' p=some ⟨b,0,g0⟩->Rv μ' (vf p) (val b)
theorem wLf {α:Type} {b:Bool} {x:Option α} (h:b=true):ifO b x=x:=by subst h;rfl
theorem a_new {T:Nat} {z:List AV} {op:Op} (hc:wNS P T z op=true):OkA C P op (wPt T z):=by
 intro σA h v h' hr
 cases hr
 unfold wNS at hc
 split at hc
 ·simp only [hH] at hc
  have e:=nA hc.1
  subst e
  obtain ⟨i,zv,z1,z2,z3⟩:=wEl hc.2
  refine ⟨.cells T z,fun p=>.ptr p 0,rfl,rfl,fun h2=>rfl,trivial,fun μ σ hE o ho=>?_⟩
  refine ⟨_,fun b=>.pointer (some ⟨b,0,none⟩),fun w=>⟨by rw [ho];rfl,?_⟩,fun μ' w b hm hb=>⟨_,z3 μ',hb⟩,fun μ' p b hp=>⟨_,hp,rfl⟩⟩
  simp [execOp,ho,Instr.alloc,wDV z1 z2,newVar,newRow,newObj,Sem.run]
 ·cases hc
theorem a_box {T:Nat} {x:AOd} {op:Op} (hc:wNT T x op=true):OkA C P op (wLW T x):=by
 intro σA h v h' hr
 cases hr
 unfold wNT at hc
 split at hc
 ·simp only [hH] at hc
  have e:=nA hc.1
  subst e
  refine ⟨.cells T _,fun p=>.ptr p 0,rfl,rfl,fun h2=>rfl,trivial,fun μ σ hE o ho=>?_⟩
  obtain ⟨vs,v1,v2⟩:=wGF (wAF hc.2 hE)
  refine ⟨.cells vs.toArray T,fun b=>.pointer (some ⟨b,0,none⟩),fun w=>⟨by rw [ho];rfl,?_⟩,fun μ' w b hm hb=>⟨vs,v1.mono hm,hb⟩,fun μ' p b hp=>⟨_,hp,rfl⟩⟩
  simp [execOp,ho,Instr.box,newVar,newRow,newObj,v2,Sem.run]
 ·cases hc
theorem a_mkm {op:Op} (hc:wNU op=true):OkA C P op wPu:=by
 intro σA h v h' hr
 cases hr
 unfold wNU at hc
 split at hc
 ·refine ⟨.map0,fun p=>.map p,rfl,rfl,fun h2=>rfl,trivial,fun μ σ hE o ho=>?_⟩
  refine ⟨.map #[] 0,fun b=>.map (some b),fun w=>⟨by rw [ho];rfl,?_⟩,fun μ' w b hm hb=>⟨0,hb⟩,fun μ' p b hp=>⟨_,hp,rfl⟩⟩
  simp [execOp,ho,Instr.makeMap,newObj,Sem.run,Result.andThen]
 ·cases hc
theorem a_mks {T sz by_:Nat} {z:List AV} {x y:AOd} {op:Op} (hc:wNV P T sz by_ z x y op=true):OkA C P op (wGg T sz by_ z x y):=by
 intro σA h v h' hr
 unfold wNV at hc
 split at hc
 ·rename_i t x' y'
  simp only [hH] at hc
  obtain ⟨c1,c2,c3,c4,c5,c6,c7⟩:=hc
  obtain ⟨d,d1,d2⟩:=wAe c1
  split at d2 <;> first | (cases d2;done) | skip
  have e:=nA d2
  subst e
  rename_i e
  obtain ⟨i,i1,i2⟩:=wGH c2
  obtain ⟨i',j1,j2⟩:=wGI c3
  obtain ⟨i'',zv,k1,k2,k3⟩:=wEl c4
  rw [i1] at j1 k1;cases j1;cases k1
  have hz:=nA c5
  unfold wGg at hr
  split at hr
  ·rename_i l c hl hcc
   obtain ⟨hb,hr⟩:=wBf hr
   cases hr
   simp only [hH,nQ] at hb
   obtain ⟨⟨⟨b1,b2⟩,b3⟩,b4⟩:=hb
   refine ⟨.cells e (rep c z),fun p=>.sl p 0 l c,rfl,rfl,fun h2=>(by simp only [wGg,hl,hcc];exact wLf (by simp [b1,b2,b3,b4])),trivial,fun μ σ hE o ho=>?_⟩
   have hx:=wAF c6 hE;rw [wCB hl] at hx
   have hy:=wAF c7 hE;rw [wCB hcc] at hy
   have hx:ev σ x'=.int .i64 (l:Int):=hx
   have hy:ev σ y'=.int .i64 (c:Int):=hy
   have zlen:zv.cells.size=sz:=by rw [<- hz,wEJ,<- wCl (k3 μ)];simp
   have hcells:(madeCells zv.cells (c * sz))=((nP c zv.cells.toList).flatten).toArray:=by
    apply nE
    have:=wEn (zc:=zv.cells) (n:=0) c
    simp only [or_false] at this
    rw [zlen] at this
    show ((nS (c * sz)).map (zv.cells[· % zv.cells.size]!)).toList=_
    rw [zlen,this]
   refine ⟨.cells ((nP c zv.cells.toList).flatten).toArray e,fun b=>.slice (some ⟨b,0,none⟩) l c,fun w=>⟨by rw [ho];rfl,?_⟩,fun μ' w b hm hb=>⟨_,wGm (k3 μ') c,hb⟩,fun μ' p b hp=>⟨_,hp,b1,rfl⟩⟩
   have hrun:=run_makeSlice (P:=P) w t e i zv d1 i1 k2 .i64 .i64 (l:Int) (c:Int) (by omega) (by omega) (by rw [i2,nj];exact b2) (by rw [j2];have hb:=Int.ofNat_le.2 b3;rw [Int.natCast_mul] at hb;exact hb) (by omega)
   simp only [nj,i2] at hrun
   rw [hcells] at hrun
   simp [execOp,ho,hx,hy,hrun,Result.andThen]
  ·cases hr
 ·cases hc
theorem wRz {T n:Nat} {z:List AV} {ps:List (Nat × Nat × AOd)} {op:Op} (hc:wJE P T n z ps op=true):OkA C P op (wEH T n z ps):=by
 intro σA h v h' hr
 unfold wJE at hc
 split at hc
 ·rename_i t m qs
  simp only [hH] at hc
  obtain ⟨c1,c2,c3⟩:=hc
  have e:=nA c1
  subst e
  obtain ⟨d,d1,d2⟩:=wAe c2
  split at d2 <;> first | (cases d2;done) | skip
  have e:=nA d2
  subst e
  rename_i e
  split at c3
  ·rename_i i hi
   simp only [hH,nQ] at c3
   obtain ⟨c3,c4,c5⟩:=c3
   split at c5
   ·rename_i zv hz
    unfold wEH at hr
    split at hr
    ·rename_i r hr3
     cases hr
     refine ⟨.cells e r,fun p=>.sl p 0 m m,rfl,rfl,fun h2=>by simp only [wEH,hr3],trivial,fun μ σ hE o ho=>?_⟩
     obtain ⟨R,r1,r2,r3⟩:=wGr hE hr3 c4 (wFf μ c5)
     have hf:=wDL _ _ _ _ r1
     refine ⟨.cells R.toArray e,fun b=>.slice (some ⟨b,0,none⟩) m m,fun w=>⟨by rw [ho];rfl,?_⟩,fun μ' w b hm hb=>⟨_,r2.mono hm,hb⟩,fun μ' p b hp=>⟨_,hp,nH _,rfl⟩⟩
     have hs:∀ w,(sizeOf e).run P w=.ok i.size w:=fun w=>by simp [sizeOf,typeInfo,hi]
     have hn':¬ m * i.size > 2 ^ 24:=by omega
     have hq:(qs.map fun (p:Nat × Operand)=>(p.1,ev σ p.2)).toList=qs.toList.map fun (p:Nat × Operand)=>(p.1,ev σ p.2):=by simp
     by_cases h0:m * i.size=0
     ·rw [h0] at hf
      simp only [List.range_zero,kK] at hf
      have hr0:(nS 0).map (fun x=>(#[]:Array Value)[x % (#[]:Array Value).size]!)=#[]:=by rw [show (nS 0)=#[] from rfl,Array.map_empty]
      have hn0:¬ (0:Nat) > 2 ^ 24:=by decide
      simp only [execOp,ho,Instr.buildSlice,Sem.run_bind,wAm d1,hs,Result.andThen_ok,h0,if_neg hn0,if_true,Sem.run_pure,hq,hr0,hf]
      simp [newRow,newObj,Sem.run,Result.andThen]
     ·have hzs:(nS (m * i.size)).map (zv.cells[· % zv.cells.size]!)=((kq (m * i.size)).map fun k=>zv.cells[k % zv.cells.size]!).toArray:=by rw [<- ke,List.map_toArray]
      simp only [execOp,ho,Instr.buildSlice,Sem.run_bind,wAm d1,hs,wDV hi hz,Result.andThen_ok,if_neg hn',if_neg h0,Sem.run_pure,hq,hzs,hf]
      simp [newRow,newObj,Sem.run,Result.andThen]
    ·cases hr
   ·cases c5
  ·cases c3
 ·cases hc
def wBh:AOp->List AOd
 | .mv x=>[x]
 | .pick c x y=>[c] ++ [x] ++ [y]
 | .new _ _=>[]
 | .box _ x=>[x]
 | .ld x=>[x]
 | .ldA _ x=>[x]
 | .st _ x y=>[x] ++ [y]
 | .nilc x=>[x]
 | .add x y=>[x] ++ [y]
 | .sub x y=>[x] ++ [y]
 | .mul x y=>[x] ++ [y]
 | .quo x y=>[x] ++ [y]
 | .rem x y=>[x] ++ [y]
 | .lss x y=>[x] ++ [y]
 | .leq x y=>[x] ++ [y]
 | .gtr x y=>[x] ++ [y]
 | .geq x y=>[x] ++ [y]
 | .eql x y=>[x] ++ [y]
 | .neq x y=>[x] ++ [y]
 | .eqb _ x y=>[x] ++ [y]
 | .eqn _ _ x y=>[x] ++ [y]
 | .eqs _ _ x y=>[x] ++ [y]
 | .neg x=>[x]
 | .not x=>[x]
 | .cvt _ x=>[x]
 | .mkf _ fi ca=>fi ++ ca
 | .mkm =>[]
 | .mks _ _ _ _ x y=>[x] ++ [y]
 | .slc _ x lo hi mx=>[x] ++ lo.toList ++ hi.toList ++ mx.toList
 | .slcA _ _ x lo hi=>[x] ++ lo.toList ++ hi.toList
 | .fad _ x=>[x]
 | .fld _ x=>[x]
 | .fldA _ _ x=>[x]
 | .iad _ x y=>[x] ++ [y]
 | .iadA _ _ x y=>[x] ++ [y]
 | .ix _ x y=>[x] ++ [y]
 | .ixA _ _ x y=>[x] ++ [y]
 | .lk _ _ _ _ x y=>[x] ++ [y]
 | .mput _ _ x y z=>[x] ++ [y] ++ [z]
 | .mdel _ _ x y=>[x] ++ [y]
 | .ext _ x=>[x]
 | .bld _ ps=>(ps.map fun q=>q.2.2)
 | .blds _ _ _ ps=>(ps.map fun q=>q.2.2)
 | .len x=>[x]
 | .lenM x=>[x]
 | .cap x=>[x]
 | .app _ _ _ x y=>[x] ++ [y]
 | .cpy _ x y=>[x] ++ [y]
 | .clr _ x=>[x]
 | .min x y=>[x] ++ [y]
 | .max x y=>[x] ++ [y]
 | .and x y=>[x] ++ [y]
 | .shr x y=>[x] ++ [y]
 | .ixs _ y=>[y]
 | .apz _ _ _ _ x y=>[x] ++ [y]
 | .call x l=>[x] ++ l
 | .bad=>[]
theorem wFN {σ1 σ2:Tr AV}:∀ {l:List AOd},(∀ x ∈ l,evA σ1 x=evA σ2 x)->evs σ1 l=evs σ2 l
 | [],_=>rfl
 | x :: l,h=>by
  show evA σ1 x :: evs σ1 l=evA σ2 x :: evs σ2 l
  rw [h x (by simp),wFN fun y hy=>h y (by simp [hy])]
theorem wEp {σ1 σ2:Tr AV}:∀ {ps:List (Nat × Nat × AOd)} {cs:List AV},(∀ q ∈ ps,evA σ1 q.2.2=evA σ2 q.2.2)->wIL σ1 cs ps=wIL σ2 cs ps
 | [],cs,_=>rfl
 | (off,n,x) :: ps,cs,h=>by
  have e:evA σ1 x=evA σ2 x:=h (off,n,x) (by simp)
  simp only [wIL,e]
  cases nB (len (evA σ2 x).cells) n with
  | false=>rfl
  | true =>
   cases wPr cs off (evA σ2 x).cells with
   | none=>rfl
   | some cs'=>exact wEp fun q hq=>h q (by simp [hq])
theorem wEL {σ1 σ2:Tr AV} {o:Option AOd} (h:∀ x ∈ o.toList,evA σ1 x=evA σ2 x):bnd σ1 o=bnd σ2 o:=by
 cases o with
 | none=>rfl
 | some x =>
  have e:=h x (by simp)
  simp only [bnd,e]
theorem wNc {σ1 σ2:Tr AV} (op:AOp) (h:∀ x ∈ wBh op,evA σ1 x=evA σ2 x) (hh:AH):opY op tb ex exY σ1 hh=opY op tb ex exY σ2 hh:=by
 cases op with
 | bld z ps=>exact (show wMn z ps σ1 hh=wMn z ps σ2 hh by simp only [wMn];rw [wEp fun q hq=>h q.2.2 (List.mem_map.2 ⟨q,hq,rfl⟩)])
 | blds T n z ps=>exact (show wEH T n z ps σ1 hh=wEH T n z ps σ2 hh by simp only [wEH];rw [wEp fun q hq=>h q.2.2 (List.mem_map.2 ⟨q,hq,rfl⟩)])
 | mkf f fi ca=>exact (show wLX f fi ca σ1 hh=wLX f fi ca σ2 hh by simp only [wLX];rw [wFN fun x hx=>h x (kV _ hx),wFN fun x hx=>h x (kU _ hx)])
 | call x l=>exact (show wFo x l tb ex exY σ1 hh=wFo x l tb ex exY σ2 hh by simp only [wFo];rw [h x (kV _ (by simp)),wFN fun y hy=>h y (kU _ hy)])
 | slc sz x lo hi mx=>exact (show wJo sz x lo hi mx σ1 hh=wJo sz x lo hi mx σ2 hh by
   simp only [wJo]
   rw [h x (by simp [wBh]),wEL fun y hy=>h y (by simp only [wBh,nc];exact .inl (.inl (.inr hy))),wEL fun y hy=>h y (by simp only [wBh,nc];exact .inl (.inr hy)),wEL fun y hy=>h y (by simp only [wBh,nc];exact .inr hy)])
 | slcA sz n x lo hi=>exact (show wGh sz n x lo hi σ1 hh=wGh sz n x lo hi σ2 hh by
   simp only [wGh]
   rw [h x (by simp [wBh]),wEL fun y hy=>h y (by simp only [wBh,nc];exact .inl (.inr hy)),wEL fun y hy=>h y (by simp only [wBh,nc];exact .inr hy)])
 | mv a_x=>exact (show wRH a_x σ1 hh=wRH a_x σ2 hh by simp only [wRH,h a_x (by simp [wBh])])
 | pick a_c a_x a_y=>exact (show wGe a_c a_x a_y σ1 hh=wGe a_c a_x a_y σ2 hh by simp only [wGe,h a_c (by simp [wBh]),h a_x (by simp [wBh]),h a_y (by simp [wBh])])
 | new a_T a_z=>rfl
 | box a_T a_x=>exact (show wLW a_T a_x σ1 hh=wLW a_T a_x σ2 hh by simp only [wLW,h a_x (by simp [wBh])])
 | ld a_x=>exact (show wOS a_x σ1 hh=wOS a_x σ2 hh by simp only [wOS,h a_x (by simp [wBh])])
 | ldA a_n a_x=>exact (show wHW a_n a_x σ1 hh=wHW a_n a_x σ2 hh by simp only [wHW,h a_x (by simp [wBh])])
 | st a_n a_x a_y=>exact (show wPO a_n a_x a_y σ1 hh=wPO a_n a_x a_y σ2 hh by simp only [wPO,h a_x (by simp [wBh]),h a_y (by simp [wBh])])
 | nilc a_x=>exact (show wGf a_x σ1 hh=wGf a_x σ2 hh by simp only [wGf,h a_x (by simp [wBh])])
 | add a_x a_y=>exact (show wMb a_x a_y σ1 hh=wMb a_x a_y σ2 hh by simp only [wMb,h a_x (by simp [wBh]),h a_y (by simp [wBh])])
 | sub a_x a_y=>exact (show wMc a_x a_y σ1 hh=wMc a_x a_y σ2 hh by simp only [wMc,h a_x (by simp [wBh]),h a_y (by simp [wBh])])
 | mul a_x a_y=>exact (show wMd a_x a_y σ1 hh=wMd a_x a_y σ2 hh by simp only [wMd,h a_x (by simp [wBh]),h a_y (by simp [wBh])])
 | quo a_x a_y=>exact (show wMe a_x a_y σ1 hh=wMe a_x a_y σ2 hh by simp only [wMe,h a_x (by simp [wBh]),h a_y (by simp [wBh])])
 | rem a_x a_y=>exact (show wMf a_x a_y σ1 hh=wMf a_x a_y σ2 hh by simp only [wMf,h a_x (by simp [wBh]),h a_y (by simp [wBh])])
 | lss a_x a_y=>exact (show wMg a_x a_y σ1 hh=wMg a_x a_y σ2 hh by simp only [wMg,h a_x (by simp [wBh]),h a_y (by simp [wBh])])
 | leq a_x a_y=>exact (show wMh a_x a_y σ1 hh=wMh a_x a_y σ2 hh by simp only [wMh,h a_x (by simp [wBh]),h a_y (by simp [wBh])])
 | gtr a_x a_y=>exact (show wMi a_x a_y σ1 hh=wMi a_x a_y σ2 hh by simp only [wMi,h a_x (by simp [wBh]),h a_y (by simp [wBh])])
 | geq a_x a_y=>exact (show wMj a_x a_y σ1 hh=wMj a_x a_y σ2 hh by simp only [wMj,h a_x (by simp [wBh]),h a_y (by simp [wBh])])
 | eql a_x a_y=>exact (show wMk a_x a_y σ1 hh=wMk a_x a_y σ2 hh by simp only [wMk,h a_x (by simp [wBh]),h a_y (by simp [wBh])])
 | neq a_x a_y=>exact (show wMl a_x a_y σ1 hh=wMl a_x a_y σ2 hh by simp only [wMl,h a_x (by simp [wBh]),h a_y (by simp [wBh])])
 | eqb a_ne a_x a_y=>exact (show wJj a_ne a_x a_y σ1 hh=wJj a_ne a_x a_y σ2 hh by simp only [wJj,h a_x (by simp [wBh]),h a_y (by simp [wBh])])
 | eqn a_k a_ne a_x a_y=>exact (show wJk a_k a_ne a_x a_y σ1 hh=wJk a_k a_ne a_x a_y σ2 hh by simp only [wJk,h a_x (by simp [wBh]),h a_y (by simp [wBh])])
 | eqs a_ne a_s a_x a_y=>exact (show wJl a_ne a_s a_x a_y σ1 hh=wJl a_ne a_s a_x a_y σ2 hh by simp only [wJl,h a_x (by simp [wBh]),h a_y (by simp [wBh])])
 | neg a_x=>exact (show wMm a_x σ1 hh=wMm a_x σ2 hh by simp only [wMm,h a_x (by simp [wBh])])
 | not a_x=>exact (show wJm a_x σ1 hh=wJm a_x σ2 hh by simp only [wJm,h a_x (by simp [wBh])])
 | cvt a_k a_x=>exact (show wJn a_k a_x σ1 hh=wJn a_k a_x σ2 hh by simp only [wJn,h a_x (by simp [wBh])])
 | mkm =>rfl
 | mks a_T a_sz a_bytes a_z a_x a_y=>exact (show wGg a_T a_sz a_bytes a_z a_x a_y σ1 hh=wGg a_T a_sz a_bytes a_z a_x a_y σ2 hh by simp only [wGg,h a_x (by simp [wBh]),h a_y (by simp [wBh])])
 | fad a_off a_x=>exact (show wJp a_off a_x σ1 hh=wJp a_off a_x σ2 hh by simp only [wJp,h a_x (by simp [wBh])])
 | fld a_off a_x=>exact (show wJq a_off a_x σ1 hh=wJq a_off a_x σ2 hh by simp only [wJq,h a_x (by simp [wBh])])
 | fldA a_off a_n a_x=>exact (show wGi a_off a_n a_x σ1 hh=wGi a_off a_n a_x σ2 hh by simp only [wGi,h a_x (by simp [wBh])])
 | iad a_sz a_x a_y=>exact (show wJr a_sz a_x a_y σ1 hh=wJr a_sz a_x a_y σ2 hh by simp only [wJr,h a_x (by simp [wBh]),h a_y (by simp [wBh])])
 | iadA a_sz a_n a_x a_y=>exact (show wGj a_sz a_n a_x a_y σ1 hh=wGj a_sz a_n a_x a_y σ2 hh by simp only [wGj,h a_x (by simp [wBh]),h a_y (by simp [wBh])])
 | ix a_n a_x a_y=>exact (show wPv a_n a_x a_y σ1 hh=wPv a_n a_x a_y σ2 hh by simp only [wPv,h a_x (by simp [wBh]),h a_y (by simp [wBh])])
 | ixA a_sz a_n a_x a_y=>exact (show wJs a_sz a_n a_x a_y σ1 hh=wJs a_sz a_n a_x a_y σ2 hh by simp only [wJs,h a_x (by simp [wBh]),h a_y (by simp [wBh])])
 | lk a_two a_k a_ok a_z a_x a_y=>exact (show wOT a_two a_k a_ok a_z a_x a_y σ1 hh=wOT a_two a_k a_ok a_z a_x a_y σ2 hh by simp only [wOT,h a_x (by simp [wBh]),h a_y (by simp [wBh])])
 | mput a_two a_k a_x a_y a_z=>exact (show wFm a_two a_k a_x a_y a_z σ1 hh=wFm a_two a_k a_x a_y a_z σ2 hh by simp only [wFm,h a_x (by simp [wBh]),h a_y (by simp [wBh]),h a_z (by simp [wBh])])
 | mdel a_two a_k a_x a_y=>exact (show wFn a_two a_k a_x a_y σ1 hh=wFn a_two a_k a_x a_y σ2 hh by simp only [wFn,h a_x (by simp [wBh]),h a_y (by simp [wBh])])
 | ext a_i a_x=>exact (show wJt a_i a_x σ1 hh=wJt a_i a_x σ2 hh by simp only [wJt,h a_x (by simp [wBh])])
 | len a_x=>exact (show wJu a_x σ1 hh=wJu a_x σ2 hh by simp only [wJu,h a_x (by simp [wBh])])
 | lenM a_x=>exact (show wEd a_x σ1 hh=wEd a_x σ2 hh by simp only [wEd,h a_x (by simp [wBh])])
 | cap a_x=>exact (show wJv a_x σ1 hh=wJv a_x σ2 hh by simp only [wJv,h a_x (by simp [wBh])])
 | app a_T a_sz a_bytes a_x a_y=>exact (show wIq a_T a_sz a_bytes a_x a_y σ1 hh=wIq a_T a_sz a_bytes a_x a_y σ2 hh by simp only [wIq,h a_x (by simp [wBh]),h a_y (by simp [wBh])])
 | cpy a_sz a_x a_y=>exact (show wIr a_sz a_x a_y σ1 hh=wIr a_sz a_x a_y σ2 hh by simp only [wIr,h a_x (by simp [wBh]),h a_y (by simp [wBh])])
 | clr a_z a_x=>exact (show wIs a_z a_x σ1 hh=wIs a_z a_x σ2 hh by simp only [wIs,h a_x (by simp [wBh])])
 | min a_x a_y=>exact (show wMo a_x a_y σ1 hh=wMo a_x a_y σ2 hh by simp only [wMo,h a_x (by simp [wBh]),h a_y (by simp [wBh])])
 | max a_x a_y=>exact (show wMp a_x a_y σ1 hh=wMp a_x a_y σ2 hh by simp only [wMp,h a_x (by simp [wBh]),h a_y (by simp [wBh])])
 | bad=>rfl
 | and a_x a_y=>exact (show wMq a_x a_y σ1 hh=wMq a_x a_y σ2 hh by simp only [wMq,h a_x (by simp [wBh]),h a_y (by simp [wBh])])
 | ixs a_l a_y=>exact (show wJw a_l a_y σ1 hh=wJw a_l a_y σ2 hh by simp only [wJw,h a_y (by simp [wBh])])
 | apz a_T a_sz a_b a_z a_x a_y=>exact (show wIv a_T a_sz a_b a_z a_x a_y σ1 hh=wIv a_T a_sz a_b a_z a_x a_y σ2 hh by simp only [wIv,h a_x (by simp [wBh]),h a_y (by simp [wBh])])
 | shr a_x a_y=>exact (show wMr a_x a_y σ1 hh=wMr a_x a_y σ2 hh by simp only [wMr,h a_x (by simp [wBh]),h a_y (by simp [wBh])])
variable {r:Option Nat} {N:Nat} {Q:wCp} {D:List Deferred} {l:List Oper}
theorem CK.anyRel {id:Nat} {σ:Env} {w:World} (hm:P.follows .mixedOrders=true) (hpr:∀ i,i < l.length->∀ j ∈ prI l i,j < i) (J:(Nat->Bool)->Env->World->Prop)
  (h0:J (fun _=>false) σ { w with drawn:=w.drawn + 1 })
  (step:∀ S i σ w,i < l.length->S i=false->(∀ j ∈ prI l i,S j=true)->(∀ k,k < l.length->S k=true->∀ j ∈ prI l k,S j=true)->(∀ k,S k=true->k < l.length)->J S σ w ->
   ∃ o,l[i]?=some o/\(∀ d,o.dst=some d->d < N)/\Step1 P l o σ w fun v w'=>J (fun k=>k == i || S k) (put' σ o v) w')
  (fin:∀ S σ w,(∀ i,i < l.length->S i=true)->J S σ w->Q D .normal σ w):CK r N P (.region id l.toArray true) Q D σ w:=by
 intro a ha
 refine wpIn_region_any hm ?_
 have prog:∀ (listed:Array Bool),listed.size=l.length->Region.ready .any l.toArray listed=[]->∀ i,i < l.length->listed.getD i false=true:=by
  intro listed hsz hnil i
  induction i using Nat.strongRecOn with
  | _ i ih =>
   intro hi
   cases hb:listed.getD i false with
   | true=>rfl
   | false =>
    have:i ∈ Region.ready .any l.toArray listed:=(wDG hsz).2 ⟨hi,hb,fun j hj=>ih j (hpr i hi j hj) (Nat.lt_trans (hpr i hi j hj) hi)⟩
    rw [hnil] at this;cases this
 have core:∀ (fuel:Nat) (listed:Array Bool) (σ:Env) (a:Act) (w:World),listed.size=l.length->Rep N D a σ->(∀ k,k < l.length->listed.getD k false=true->∀ j ∈ prI l k,listed.getD j false=true) ->
   J (fun i=>listed.getD i false) σ w->(listed.toList.filter (! ·)).length <= fuel->wpAnyIn (WF r) 0 P .any l.toArray (wIB N Q) fuel listed a w:=by
  intro fuel
  induction fuel with
  | zero =>
   intro listed σ a w hsz hr hdc hJ hf
   have hall:∀ i,i < l.length->listed.getD i false=true:=by
    intro i hi
    cases hb:listed.getD i false with
    | true=>rfl
    | false=>have:=count_set listed i (by omega) hb;omega
   refine ⟨?_,σ,D,hr,fin _ σ w hall hJ⟩
   cases hr:Region.ready .any l.toArray listed with
   | nil=>rfl
   | cons x xs =>
    have hx:x ∈ Region.ready .any l.toArray listed:=by rw [hr];simp
    obtain ⟨h1,h2,_⟩:=(wDG hsz).1 hx
    rw [hall x h1] at h2;cases h2
  | succ fuel ih =>
   intro listed σ a w hsz hr hdc hJ hf
   refine ⟨fun hnil=>⟨σ,D,hr,fin _ σ w (prog listed hsz hnil) hJ⟩,fun i hi=>?_⟩
   obtain ⟨hlt,hun,hpi⟩:=(wDG hsz).1 hi
   have hsz':(listed.setIfInBounds i true).size=l.length:=by simpa using hsz
   have hf':((listed.setIfInBounds i true).toList.filter (! ·)).length <= fuel:=by have:=count_set listed i (by omega) hun;omega
   have hS:∀ k,listed.getD k false=true->k < l.length:=by
    intro k hk
    rcases nf k l.length with h | h
    ·exact h
    ·rw [nY,nl (by omega)] at hk;cases hk
   obtain ⟨o,ho,hN,hst⟩:=step _ i σ w hlt hun hpi hdc hS hJ
   refine wGS ho hr hN hst ?_
   intro v w' a' hr' hJ'
   refine ih _ (KL.put' σ o v) a' w' hsz' hr' ?_ ?_ hf'
   ·intro k hk hkl j hj
    rw [wFD (by omega)] at hkl ⊢
    rcases hkl with rfl | hkl
    ·exact .inr (hpi j hj)
    ·exact .inr (hdc k hk hkl j hj)
   ·have e:(fun k=>(listed.setIfInBounds i true).getD k false)=fun k=>k == i || listed.getD k false:=by
     funext k
     rw [Bool.eq_iff_iff,wFD (by omega),kP,beq_iff_eq]
    rw [e]
    exact hJ'
 have rep:∀ k,(kQ l.toArray.size false).getD k false=false:=by
  intro k
  rw [nY,kL]
  split <;> rfl
 refine core l.toArray.size (kQ l.toArray.size false) σ a _ (by simp) ha ?_ ?_ ?_
 ·intro k hk hkl
  rw [rep k] at hkl
  cases hkl
 ·have e:(fun i=>(kQ l.toArray.size false).getD i false)=fun _=>false:=by
   funext i
   rw [nY,kL]
   split <;> rfl
  rw [e]
  exact h0
 ·exact nX (List.length_filter_le _ _) (by simp)
end
end Go.KX
