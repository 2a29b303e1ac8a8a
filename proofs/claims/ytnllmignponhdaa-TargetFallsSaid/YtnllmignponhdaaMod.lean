/- Models of functions, printed by a program. -/
import Derived.Test.YtnllmignponhdaaVM
namespace Go.Proofs.Ytnllmignponhdaa
open Go.KL
structure T_target_Shot where
  X : Int
  Y : Int
deriving DecidableEq, Inhabited, Repr
structure T_klisterref03_Shot where
  X : Int
  Y : Int
deriving DecidableEq, Inhabited, Repr
def m_klisterlaw03_awake : Option Bool := some true

def m_klisterkit_Clone_target_Shot (p0 : List T_target_Shot) : Option ((List T_target_Shot)) :=
  (app 16 ([] : List T_target_Shot) p0).bind fun x4 =>
  some x4

def m_target_all_target_Shot_1 (p0 : T_target_Shot) (p1 : (T_target_Shot → Option Bool)) : Option (Bool) :=
  (p1 p0).bind fun x5 =>
  some (!x5)

def m_slices_IndexFunc_target_Shot_target_Shot (p0 : List T_target_Shot) (p1 : (T_target_Shot → Option Bool)) : Option (Int) :=
  jn (forR 0 (↑p0.length : Int) (fun k2 _ =>
    (idx p0 (↑k2 : Int)).bind fun x22 =>
    (p1 x22).bind fun x30 =>
    if x30 = true then
      esc (some (↑k2 : Int))
    else
      some (.inl ())) ()) fun _ =>
  some (-1)

def m_slices_ContainsFunc_target_Shot_target_Shot (p0 : List T_target_Shot) (p1 : (T_target_Shot → Option Bool)) : Option (Bool) :=
  (m_slices_IndexFunc_target_Shot_target_Shot p0 p1).bind fun x1 =>
  some (decide (0 ≤ x1))

def m_target_all_target_Shot (p0 : List T_target_Shot) (p1 : (T_target_Shot → Option Bool)) : Option (Bool) :=
  (m_slices_ContainsFunc_target_Shot_target_Shot p0 (fun x => m_target_all_target_Shot_1 x p1)).bind fun x13 =>
  some (!x13)

def m_target_within (p0 : Int) (p1 : Int) (p2 : Int) : Option (Bool) :=
  if p1 ≤ p0 then
    some (decide (p0 ≤ p2))
  else
    some false

def m_target_Falls_1 (p0 : T_target_Shot) : Option (Bool) :=
  (m_target_within p0.X (-20000) 20000).bind fun x5 =>
  if x5 = true then
    (m_target_within p0.Y (-20000) 20000).bind fun x17 =>
    some x17
  else
    some false

def m_target_Falls (p0 : Int) (p1 : List T_target_Shot) : Option ((List Int) × Int) :=
  jn (if p0 = 0 then
    if 8 < (↑p1.length : Int) then
      esc (some ([], 2))
    else
      (m_target_all_target_Shot p1 m_target_Falls_1).bind fun x14 =>
      if x14 = true then
        some (.inl ())
      else
        esc (some ([], 3))
  else
    if p0 = 1 then
      if 8 < (↑p1.length : Int) then
        esc (some ([], 2))
      else
        (m_target_all_target_Shot p1 m_target_Falls_1).bind fun x44 =>
        if x44 = true then
          some (.inl ())
        else
          esc (some ([], 3))
    else
      esc (some ([], 3))) fun _ =>
  (idx ([225, 575] : List Int) p0).bind fun x77 =>
  jn (forR 0 (↑p1.length : Int) (fun k110 (a104, x105, l106) =>
    (idx p1 (↑k110 : Int)).bind fun x135 =>
    if x105 = 5 then
      esc (some ([], 9))
    else
      (forR' 1 (5 + 1) (fun k165 x164 =>
        (chk (1 + ↑k165 : Int) 6).bind fun _ =>
        if (a104.get ((1 + ↑k165 : Int).toNat)) = true then
          some x164
        else
          if (w64 ((w64 ((w64 (x135.X - (w64 (2500 * (w64 ((1 + ↑k165 : Int) - 1)))))) * (w64 (x135.X - (w64 (2500 * (w64 ((1 + ↑k165 : Int) - 1)))))))) + (w64 (x135.Y * x135.Y)))) ≤ (w64 (x77 * x77)) then
            some (1 + ↑k165 : Int)
          else
            some x164) 0).bind fun y170 =>
      if 0 < y170 then
        (chk y170 6).bind fun _ =>
        (app 8 l106 [y170]).bind fun x235 =>
        some (.inl ((a104.set y170.toNat true), w64 (x105 + 1), x235))
      else
        (app 8 l106 [y170]).bind fun x254 =>
        some (.inl (a104, x105, x254))) ((Arr.fill 6 false), 0, [])) fun (y271, y272, y273) =>
  some (y273, 0)

def m_klisterref03_outside (p0 : Int) (p1 : Int) (p2 : Int) : Option (Bool) :=
  if p0 < p1 then
    some true
  else
    some (decide (p2 < p0))

def m_klisterref03_Falls (p0 : Int) (p1 : List T_klisterref03_Shot) : Option ((List Int) × Int) :=
  (m_klisterref03_outside p0 0 1).bind fun x1 =>
  if x1 = true then
    some ([], 3)
  else
    if 8 < (↑p1.length : Int) then
      some ([], 2)
    else
      jn (forR 0 (↑p1.length : Int) (fun k22 _ =>
        (idx p1 (↑k22 : Int)).bind fun x41 =>
        (m_klisterref03_outside x41.X (-20000) 20000).bind fun x50 =>
        if x50 = true then
          esc (some ([], 3))
        else
          (m_klisterref03_outside x41.Y (-20000) 20000).bind fun x73 =>
          if x73 = true then
            esc (some ([], 3))
          else
            some (.inl ())) ()) fun _ =>
      if p0 = 1 then
        jn (forR 0 (↑p1.length : Int) (fun k121 l117 =>
          (forR' 1 (5 + 1) (fun k153 (x151, x152) =>
            (idx p1 (↑k121 : Int)).bind fun x180 =>
            (forR' 0 (↑k121 : Int) (fun k205 (x203, b204) =>
              (chk (↑k205 : Int) l117.length).bind fun _ =>
              if (gd l117 k205) = (1 + ↑k153 : Int) then
                some (w64 (x203 - 1), false)
              else
                some (x203, b204)) (x152, decide ((w64 ((w64 ((w64 (x180.X - (w64 (2500 * (w64 ((1 + ↑k153 : Int) - 1)))))) * (w64 (x180.X - (w64 (2500 * (w64 ((1 + ↑k153 : Int) - 1)))))))) + (w64 (x180.Y * x180.Y)))) ≤ 330625))).bind fun (y210, y211) =>
            if y211 = true then
              some ((1 + ↑k153 : Int), y210)
            else
              some (x151, y210)) (0, 5)).bind fun (y158, y159) =>
          if y159 = 0 then
            esc (some ([], 9))
          else
            (app 8 l117 [y158]).bind fun x298 =>
            some (.inl x298)) []) fun y313 =>
        some (y313, 0)
      else
        jn (forR 0 (↑p1.length : Int) (fun k342 l338 =>
          (forR' 1 (5 + 1) (fun k374 (x372, x373) =>
            (idx p1 (↑k342 : Int)).bind fun x401 =>
            (forR' 0 (↑k342 : Int) (fun k426 (x424, b425) =>
              (chk (↑k426 : Int) l338.length).bind fun _ =>
              if (gd l338 k426) = (1 + ↑k374 : Int) then
                some (w64 (x424 - 1), false)
              else
                some (x424, b425)) (x373, decide ((w64 ((w64 ((w64 (x401.X - (w64 (2500 * (w64 ((1 + ↑k374 : Int) - 1)))))) * (w64 (x401.X - (w64 (2500 * (w64 ((1 + ↑k374 : Int) - 1)))))))) + (w64 (x401.Y * x401.Y)))) ≤ 50625))).bind fun (y431, y432) =>
            if y432 = true then
              some ((1 + ↑k374 : Int), y431)
            else
              some (x372, y431)) (0, 5)).bind fun (y379, y380) =>
          if y380 = 0 then
            esc (some ([], 9))
          else
            (app 8 l338 [y379]).bind fun x519 =>
            some (.inl x519)) []) fun y534 =>
        some (y534, 0)

def m_klisterkit_Equal_int (p0 : List Int) (p1 : List Int) : Option (Bool) :=
  if (↑p0.length : Int) = (↑p1.length : Int) then
    jn (forR 0 (↑p0.length : Int) (fun k4 _ =>
      (idx p0 (↑k4 : Int)).bind fun x26 =>
      (idx p1 (↑k4 : Int)).bind fun x34 =>
      if x26 = x34 then
        some (.inl ())
      else
        esc (some false)) ()) fun _ =>
    some true
  else
    some false

def m_target_Loops (p0 : Int) (p1 : List T_target_Shot) : Option (Int × Int) :=
  (m_target_Falls p0 p1).bind fun (x1, x2) =>
  if x2 = 0 then
    (forR' 0 (↑x1.length : Int) (fun k23 x22 =>
      (chk (↑k23 : Int) x1.length).bind fun _ =>
      if 0 < (gd x1 k23) then
        some (w64 (x22 - 1))
      else
        some x22) 5).bind fun y28 =>
    some (y28, 0)
  else
    some (0, x2)

def m_target_Spares (p0 : Int) (p1 : List T_target_Shot) : Option (Int × Int) :=
  (m_target_Falls p0 p1).bind fun (x1, x2) =>
  if x2 = 0 then
    some (max 0 (w64 ((↑x1.length : Int) - 5)), 0)
  else
    some (0, x2)

def m_klisterkit_Equal_target_Shot (p0 : List T_target_Shot) (p1 : List T_target_Shot) : Option (Bool) :=
  if (↑p0.length : Int) = (↑p1.length : Int) then
    jn (forR 0 (↑p0.length : Int) (fun k4 _ =>
      (idx p0 (↑k4 : Int)).bind fun x26 =>
      (idx p1 (↑k4 : Int)).bind fun x34 =>
      if x26 = x34 then
        some (.inl ())
      else
        esc (some false)) ()) fun _ =>
    some true
  else
    some false

def m_klisterlaw03_TargetFalls (p0 : Int) (p1 : List T_target_Shot) : Option (Bool) :=
  if 12 < (↑p1.length : Int) then
    (m_klisterlaw03_awake).bind fun x3 =>
    some x3
  else
    (m_klisterkit_Clone_target_Shot p1).bind fun x14 =>
    (forR' 0 (↑p1.length : Int) (fun k44 l40 =>
      (idx p1 (↑k44 : Int)).bind fun x70 =>
      (app 16 l40 [(⟨x70.X, x70.Y⟩ : T_klisterref03_Shot)]).bind fun x91 =>
      some x91) []).bind fun y49 =>
    (m_target_Falls p0 x14).bind fun (x126, x127) =>
    (m_klisterref03_Falls p0 y49).bind fun (x145, x146) =>
    if x127 = x146 then
      (m_klisterkit_Equal_int x126 x145).bind fun x172 =>
      if x172 = true then
        if x146 = 0 then
          (forR' 0 (↑x145.length : Int) (fun k196 (x194, x195) =>
            (idx x145 (↑k196 : Int)).bind fun x223 =>
            if 0 < x223 then
              if 4 < (↑k196 : Int) then
                some (w64 (x194 - 1), w64 (x195 + 1))
              else
                some (w64 (x194 - 1), x195)
            else
              if 4 < (↑k196 : Int) then
                some (x194, w64 (x195 + 1))
              else
                some (x194, x195)) (5, 0)).bind fun (y201, y202) =>
          (m_target_Loops p0 x14).bind fun (x274, x275) =>
          (m_target_Spares p0 x14).bind fun (x286, x287) =>
          if x274 = y201 then
            if x275 = x146 then
              if x286 = y202 then
                if x287 = x146 then
                  (m_klisterkit_Equal_target_Shot x14 p1).bind fun x318 =>
                  if x318 = true then
                    (m_klisterlaw03_awake).bind fun x330 =>
                    some x330
                  else
                    some false
                else
                  some false
              else
                some false
            else
              some false
          else
            some false
        else
          (m_target_Loops p0 x14).bind fun (x352, x353) =>
          (m_target_Spares p0 x14).bind fun (x374, x375) =>
          if x352 = 0 then
            if x353 = x146 then
              if x374 = 0 then
                if x375 = x146 then
                  (m_klisterkit_Equal_target_Shot x14 p1).bind fun x405 =>
                  if x405 = true then
                    (m_klisterlaw03_awake).bind fun x417 =>
                    some x417
                  else
                    some false
                else
                  some false
              else
                some false
            else
              some false
          else
            some false
      else
        some false
    else
      some false
end Go.Proofs.Ytnllmignponhdaa
