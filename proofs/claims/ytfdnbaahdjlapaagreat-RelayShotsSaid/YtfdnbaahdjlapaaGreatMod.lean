/- Models of functions, printed by a program. -/
import Derived.Test.YtfdnbaahdjlapaaGreatVM
namespace Go.Proofs.YtfdnbaahdjlapaaGreat
open Go.KL
structure T_relay_Rules where
  Classes : List Int
  Each : Int
  Laps : Int
  Spare : Int
  Loop : Int
  Unused : Int
deriving DecidableEq, Inhabited, Repr
structure T_relay_limit where
  of : (T_relay_Rules → Option Int)
  lo : Int
  hi : Int

structure T_klisterref08_Rules where
  Classes : List Int
  Each : Int
  Laps : Int
  Spare : Int
  Loop : Int
  Unused : Int
deriving DecidableEq, Inhabited, Repr
structure T_relay_Shooting where
  Spares : Int
  Loops : Int
  Unused : Int
deriving DecidableEq, Inhabited, Repr
structure T_klisterref08_Shooting where
  Spares : Int
  Loops : Int
  Unused : Int
deriving DecidableEq, Inhabited, Repr
def m_klisterlaw08_awake : Option Bool := some true

def m_klisterkit_Clone_int (p0 : List Int) : Option ((List Int)) :=
  (app 8 ([] : List Int) p0).bind fun x4 =>
  some x4

def m_klisterlaw08_CloneRules (p0 : T_relay_Rules) : Option (T_relay_Rules) :=
  (m_klisterkit_Clone_int p0.Classes).bind fun x9 =>
  some (⟨x9, p0.Each, p0.Laps, p0.Spare, p0.Loop, p0.Unused⟩ : T_relay_Rules)

def m_klisterkit_Clone_bool (p0 : List Bool) : Option ((List Bool)) :=
  (app 1 ([] : List Bool) p0).bind fun x4 =>
  some x4

def m_relay_in (p0 : Int) (p1 : Int) (p2 : Int) : Option (Bool) :=
  if p1 ≤ p0 then
    some (decide (p0 ≤ p2))
  else
    some false

def m_relay_each_int_1 (p0 : Int) (p1 : (Int → Option Bool)) : Option (Bool) :=
  (p1 p0).bind fun x1 =>
  some (!x1)

def m_slices_IndexFunc_int_int (p0 : List Int) (p1 : (Int → Option Bool)) : Option (Int) :=
  jn (forR 0 (↑p0.length : Int) (fun k2 _ =>
    (idx p0 (↑k2 : Int)).bind fun x22 =>
    (p1 x22).bind fun x30 =>
    if x30 = true then
      esc (some (↑k2 : Int))
    else
      some (.inl ())) ()) fun _ =>
  some (-1)

def m_slices_ContainsFunc_int_int (p0 : List Int) (p1 : (Int → Option Bool)) : Option (Bool) :=
  (m_slices_IndexFunc_int_int p0 p1).bind fun x1 =>
  some (decide (0 ≤ x1))

def m_relay_each_int (p0 : List Int) (p1 : (Int → Option Bool)) : Option (Bool) :=
  (m_slices_ContainsFunc_int_int p0 (fun x => m_relay_each_int_1 x p1)).bind fun x13 =>
  some (!x13)

def m_relay_classed_1 (p0 : Int) : Option (Bool) :=
  (m_relay_in p0 0 3).bind fun x1 =>
  some x1

def m_relay_classed (p0 : List Int) : Option (Bool) :=
  (m_relay_each_int p0 m_relay_classed_1).bind fun x2 =>
  some x2

def m_relay_limits_1 (p0 : T_relay_Rules) : Option (Int) :=
  some p0.Each

def m_relay_limits_2 (p0 : T_relay_Rules) : Option (Int) :=
  some p0.Laps

def m_relay_limits_3 (p0 : T_relay_Rules) : Option (Int) :=
  some p0.Spare

def m_relay_limits_4 (p0 : T_relay_Rules) : Option (Int) :=
  some p0.Loop

def m_relay_limits_5 (p0 : T_relay_Rules) : Option (Int) :=
  some p0.Unused

def m_relay_limits  : Option ((List T_relay_limit)) :=
  some [(⟨m_relay_limits_1, 1, 4⟩ : T_relay_limit), (⟨m_relay_limits_2, 1, 5⟩ : T_relay_limit), (⟨m_relay_limits_3, 0, 600⟩ : T_relay_limit), (⟨m_relay_limits_4, 0, 600⟩ : T_relay_limit), (⟨m_relay_limits_5, 0, 6000⟩ : T_relay_limit)]

def m_relay_CheckRules_1 (p0 : T_relay_limit) (p1 : T_relay_Rules) : Option (Bool) :=
  (p0.of p1).bind fun x7 =>
  (m_relay_in x7 p0.lo p0.hi).bind fun x17 =>
  some x17

def m_relay_each_relay_limit_1 (p0 : T_relay_limit) (p1 : (T_relay_limit → Option Bool)) : Option (Bool) :=
  (p1 p0).bind fun x5 =>
  some (!x5)

def m_slices_IndexFunc_relay_limit_relay_limit (p0 : List T_relay_limit) (p1 : (T_relay_limit → Option Bool)) : Option (Int) :=
  jn (forR 0 (↑p0.length : Int) (fun k2 _ =>
    (idx p0 (↑k2 : Int)).bind fun x22 =>
    (p1 x22).bind fun x34 =>
    if x34 = true then
      esc (some (↑k2 : Int))
    else
      some (.inl ())) ()) fun _ =>
  some (-1)

def m_slices_ContainsFunc_relay_limit_relay_limit (p0 : List T_relay_limit) (p1 : (T_relay_limit → Option Bool)) : Option (Bool) :=
  (m_slices_IndexFunc_relay_limit_relay_limit p0 p1).bind fun x1 =>
  some (decide (0 ≤ x1))

def m_relay_each_relay_limit (p0 : List T_relay_limit) (p1 : (T_relay_limit → Option Bool)) : Option (Bool) :=
  (m_slices_ContainsFunc_relay_limit_relay_limit p0 (fun x => m_relay_each_relay_limit_1 x p1)).bind fun x13 =>
  some (!x13)

def m_relay_CheckRules (p0 : T_relay_Rules) : Option (Int) :=
  (m_relay_in (↑p0.Classes.length : Int) 1 4).bind fun x10 =>
  if x10 = true then
    (m_relay_classed p0.Classes).bind fun x25 =>
    if x25 = true then
      (m_relay_limits).bind fun x37 =>
      (m_relay_each_relay_limit x37 (fun x => m_relay_CheckRules_1 x p0)).bind fun x64 =>
      if x64 = true then
        some 0
      else
        some 3
    else
      some 3
  else
    some 2

def m_klisterref08_off (p0 : Int) (p1 : Int) (p2 : Int) : Option (Bool) :=
  if p0 < p1 then
    some true
  else
    some (decide (p2 < p0))

def m_klisterref08_bad (p0 : List Int) : Option (Bool) :=
  jn (forR 0 (↑p0.length : Int) (fun k2 _ =>
    (idx p0 (↑k2 : Int)).bind fun x20 =>
    (m_klisterref08_off x20 0 3).bind fun x28 =>
    if x28 = true then
      esc (some true)
    else
      some (.inl ())) ()) fun _ =>
  some false

def m_klisterref08_CheckRules (p0 : T_klisterref08_Rules) : Option (Int) :=
  (m_klisterref08_off (↑p0.Classes.length : Int) 1 4).bind fun x5 =>
  if x5 = true then
    some 2
  else
    (m_klisterref08_bad p0.Classes).bind fun x19 =>
    if x19 = true then
      some 3
    else
      (m_klisterref08_off p0.Each 1 4).bind fun x32 =>
      if x32 = true then
        some 3
      else
        (m_klisterref08_off p0.Laps 1 5).bind fun x45 =>
        if x45 = true then
          some 3
        else
          (m_klisterref08_off p0.Spare 0 600).bind fun x58 =>
          if x58 = true then
            some 3
          else
            (m_klisterref08_off p0.Loop 0 600).bind fun x71 =>
            if x71 = true then
              some 3
            else
              (m_klisterref08_off p0.Unused 0 6000).bind fun x84 =>
              if x84 = true then
                some 3
              else
                some 0

def m_relay_Shot (p0 : List Bool) : Option (T_relay_Shooting × Int) :=
  (m_relay_in (↑p0.length : Int) 5 8).bind fun x5 =>
  if x5 = true then
    jn (forR 0 (↑p0.length : Int) (fun k23 x22 =>
      (idx p0 (↑k23 : Int)).bind fun x45 =>
      if x22 = 0 then
        esc (some ((⟨0, 0, 0⟩ : T_relay_Shooting), 8))
      else
        if x45 = true then
          some (.inl (w64 (x22 - 1)))
        else
          some (.inl x22)) 5) fun y72 =>
    if 0 < y72 then
      some ((⟨w64 ((↑p0.length : Int) - 5), y72, w64 (8 - (↑p0.length : Int))⟩ : T_relay_Shooting), 0)
    else
      some ((⟨w64 ((↑p0.length : Int) - 5), y72, 0⟩ : T_relay_Shooting), 0)
  else
    some ((⟨0, 0, 0⟩ : T_relay_Shooting), 2)

def m_klisterref08_Shot (p0 : List Bool) : Option (T_klisterref08_Shooting × Int) :=
  (m_klisterref08_off (↑p0.length : Int) 5 8).bind fun x5 =>
  if x5 = true then
    some ((⟨0, 0, 0⟩ : T_klisterref08_Shooting), 2)
  else
    jn (forR 0 (↑p0.length : Int) (fun k27 x26 =>
      if x26 = 5 then
        esc (some ((⟨0, 0, 0⟩ : T_klisterref08_Shooting), 8))
      else
        (idx p0 (↑k27 : Int)).bind fun x56 =>
        if x56 = true then
          some (.inl (w64 (x26 + 1)))
        else
          some (.inl x26)) 0) fun y74 =>
    if y74 < 5 then
      some ((⟨w64 ((↑p0.length : Int) - 5), w64 (5 - y74), w64 (8 - (↑p0.length : Int))⟩ : T_klisterref08_Shooting), 0)
    else
      some ((⟨w64 ((↑p0.length : Int) - 5), w64 (5 - y74), 0⟩ : T_klisterref08_Shooting), 0)

def m_klisterkit_Equal_int (p0 : List Int) (p1 : List Int) : Option (Bool) :=
  if (↑p0.length : Int) = (↑p1.length : Int) then
    jn (forR 0 (↑p0.length : Int) (fun k4 _ =>
      (idx p0 (↑k4 : Int)).bind fun x26 =>
      (idx p1 (↑k4 : Int)).bind fun x34 =>
      if x26 = x34 then
        some (.inl ())
      else
        esc (some false)) ()) fun _ =>
    some true
  else
    some false

def m_klisterlaw08_sameRules (p0 : T_relay_Rules) (p1 : T_relay_Rules) : Option (Bool) :=
  (m_klisterkit_Equal_int p0.Classes p1.Classes).bind fun x9 =>
  if x9 = true then
    if p0.Each = p1.Each then
      if p0.Laps = p1.Laps then
        if p0.Spare = p1.Spare then
          if p0.Loop = p1.Loop then
            some (decide (p0.Unused = p1.Unused))
          else
            some false
        else
          some false
      else
        some false
    else
      some false
  else
    some false

def m_klisterkit_Equal_bool (p0 : List Bool) (p1 : List Bool) : Option (Bool) :=
  if (↑p0.length : Int) = (↑p1.length : Int) then
    jn (forR 0 (↑p0.length : Int) (fun k4 _ =>
      (idx p0 (↑k4 : Int)).bind fun x26 =>
      (idx p1 (↑k4 : Int)).bind fun x34 =>
      if (x26 == x34) = true then
        some (.inl ())
      else
        esc (some false)) ()) fun _ =>
    some true
  else
    some false

def m_klisterlaw08_RelayShots (p0 : T_relay_Rules) (p1 : List Bool) : Option (Bool) :=
  if 12 < (↑p1.length : Int) then
    (m_klisterlaw08_awake).bind fun x7 =>
    some x7
  else
    if 12 < (↑p0.Classes.length : Int) then
      (m_klisterlaw08_awake).bind fun x20 =>
      some x20
    else
      (m_klisterlaw08_CloneRules p0).bind fun x31 =>
      (m_klisterkit_Clone_bool p1).bind fun x45 =>
      (m_relay_CheckRules x31).bind fun x72 =>
      (m_klisterlaw08_CloneRules p0).bind fun x86 =>
      (m_klisterref08_CheckRules (⟨x86.Classes, x86.Each, x86.Laps, x86.Spare, x86.Loop, x86.Unused⟩ : T_klisterref08_Rules)).bind fun x104 =>
      if x72 = x104 then
        (m_relay_Shot x45).bind fun (x121, x122) =>
        (m_klisterref08_Shot p1).bind fun (x147, x148) =>
        if x122 = x148 then
          if (⟨x121.Spares, x121.Loops, x121.Unused⟩ : T_klisterref08_Shooting) = x147 then
            (m_klisterlaw08_sameRules x31 p0).bind fun x193 =>
            if x193 = true then
              (m_klisterkit_Equal_bool x45 p1).bind fun x210 =>
              if x210 = true then
                (m_klisterlaw08_awake).bind fun x222 =>
                some x222
              else
                some false
            else
              some false
          else
            some false
        else
          some false
      else
        some false
end Go.Proofs.YtfdnbaahdjlapaaGreat
