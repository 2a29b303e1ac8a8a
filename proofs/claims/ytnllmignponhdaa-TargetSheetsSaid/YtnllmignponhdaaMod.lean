/- Models of functions, printed by a program. -/
import Derived.Test.YtnllmignponhdaaVM
namespace Go.Proofs.Ytnllmignponhdaa
open Go.KL
structure T_target_Shot where
  X : Int
  Y : Int
deriving DecidableEq, Inhabited, Repr
structure T_klisterref03_Shot where
  X : Int
  Y : Int
deriving DecidableEq, Inhabited, Repr
structure T_api_Span where
  Lo : Int
  Hi : Int
deriving DecidableEq, Inhabited, Repr
structure T_target_Sheet where
  From : Int
  To : Int
  Loops : T_api_Span
deriving DecidableEq, Inhabited, Repr
structure T_klisterref03_Sheet where
  From : Int
  To : Int
  Loops : T_api_Span
deriving DecidableEq, Inhabited, Repr
structure T_target_Step where
  Kind : Int
  Index : Int
deriving DecidableEq, Inhabited, Repr
structure T_target_link where
  Step : T_target_Step
  from_ : Int
  to_ : Int
  count : (Unit → Option Int)

structure T_klisterkit_Deck where
  bytes : List Int
  next : Int
  state : Int
deriving DecidableEq, Inhabited, Repr
def m_klisterlaw03_awake : Option Bool := some true

def m_klisterkit_Clone_target_Shot (p0 : List T_target_Shot) : Option ((List T_target_Shot)) :=
  (app 16 ([] : List T_target_Shot) p0).bind fun x4 =>
  some x4

def m_target_all_target_Shot_1 (p0 : T_target_Shot) (p1 : (T_target_Shot → Option Bool)) : Option (Bool) :=
  (p1 p0).bind fun x5 =>
  some (!x5)

def m_slices_IndexFunc_target_Shot_target_Shot (p0 : List T_target_Shot) (p1 : (T_target_Shot → Option Bool)) : Option (Int) :=
  jn (forR 0 (↑p0.length : Int) (fun k2 _ =>
    (idx p0 (↑k2 : Int)).bind fun x22 =>
    (p1 x22).bind fun x30 =>
    if x30 = true then
      esc (some (↑k2 : Int))
    else
      some (.inl ())) ()) fun _ =>
  some (-1)

def m_slices_ContainsFunc_target_Shot_target_Shot (p0 : List T_target_Shot) (p1 : (T_target_Shot → Option Bool)) : Option (Bool) :=
  (m_slices_IndexFunc_target_Shot_target_Shot p0 p1).bind fun x1 =>
  some (decide (0 ≤ x1))

def m_target_all_target_Shot (p0 : List T_target_Shot) (p1 : (T_target_Shot → Option Bool)) : Option (Bool) :=
  (m_slices_ContainsFunc_target_Shot_target_Shot p0 (fun x => m_target_all_target_Shot_1 x p1)).bind fun x13 =>
  some (!x13)

def m_target_within (p0 : Int) (p1 : Int) (p2 : Int) : Option (Bool) :=
  if p1 ≤ p0 then
    some (decide (p0 ≤ p2))
  else
    some false

def m_target_Falls_1 (p0 : T_target_Shot) : Option (Bool) :=
  (m_target_within p0.X (-20000) 20000).bind fun x5 =>
  if x5 = true then
    (m_target_within p0.Y (-20000) 20000).bind fun x17 =>
    some x17
  else
    some false

def m_target_Falls (p0 : Int) (p1 : List T_target_Shot) : Option ((List Int) × Int) :=
  jn (if p0 = 0 then
    if 8 < (↑p1.length : Int) then
      esc (some ([], 2))
    else
      (m_target_all_target_Shot p1 m_target_Falls_1).bind fun x14 =>
      if x14 = true then
        some (.inl ())
      else
        esc (some ([], 3))
  else
    if p0 = 1 then
      if 8 < (↑p1.length : Int) then
        esc (some ([], 2))
      else
        (m_target_all_target_Shot p1 m_target_Falls_1).bind fun x44 =>
        if x44 = true then
          some (.inl ())
        else
          esc (some ([], 3))
    else
      esc (some ([], 3))) fun _ =>
  (idx ([225, 575] : List Int) p0).bind fun x77 =>
  jn (forR 0 (↑p1.length : Int) (fun k110 (a104, x105, l106) =>
    (idx p1 (↑k110 : Int)).bind fun x135 =>
    if x105 = 5 then
      esc (some ([], 9))
    else
      (forR' 1 (5 + 1) (fun k165 x164 =>
        (chk (1 + ↑k165 : Int) 6).bind fun _ =>
        if (a104.get ((1 + ↑k165 : Int).toNat)) = true then
          some x164
        else
          if (w64 ((w64 ((w64 (x135.X - (w64 (2500 * (w64 ((1 + ↑k165 : Int) - 1)))))) * (w64 (x135.X - (w64 (2500 * (w64 ((1 + ↑k165 : Int) - 1)))))))) + (w64 (x135.Y * x135.Y)))) ≤ (w64 (x77 * x77)) then
            some (1 + ↑k165 : Int)
          else
            some x164) 0).bind fun y170 =>
      if 0 < y170 then
        (chk y170 6).bind fun _ =>
        (app 8 l106 [y170]).bind fun x235 =>
        some (.inl ((a104.set y170.toNat true), w64 (x105 + 1), x235))
      else
        (app 8 l106 [y170]).bind fun x254 =>
        some (.inl (a104, x105, x254))) ((Arr.fill 6 false), 0, [])) fun (y271, y272, y273) =>
  some (y273, 0)

def m_klisterref03_outside (p0 : Int) (p1 : Int) (p2 : Int) : Option (Bool) :=
  if p0 < p1 then
    some true
  else
    some (decide (p2 < p0))

def m_klisterref03_Falls (p0 : Int) (p1 : List T_klisterref03_Shot) : Option ((List Int) × Int) :=
  (m_klisterref03_outside p0 0 1).bind fun x1 =>
  if x1 = true then
    some ([], 3)
  else
    if 8 < (↑p1.length : Int) then
      some ([], 2)
    else
      jn (forR 0 (↑p1.length : Int) (fun k22 _ =>
        (idx p1 (↑k22 : Int)).bind fun x41 =>
        (m_klisterref03_outside x41.X (-20000) 20000).bind fun x50 =>
        if x50 = true then
          esc (some ([], 3))
        else
          (m_klisterref03_outside x41.Y (-20000) 20000).bind fun x73 =>
          if x73 = true then
            esc (some ([], 3))
          else
            some (.inl ())) ()) fun _ =>
      if p0 = 1 then
        jn (forR 0 (↑p1.length : Int) (fun k121 l117 =>
          (forR' 1 (5 + 1) (fun k153 (x151, x152) =>
            (idx p1 (↑k121 : Int)).bind fun x180 =>
            (forR' 0 (↑k121 : Int) (fun k205 (x203, b204) =>
              (chk (↑k205 : Int) l117.length).bind fun _ =>
              if (gd l117 k205) = (1 + ↑k153 : Int) then
                some (w64 (x203 - 1), false)
              else
                some (x203, b204)) (x152, decide ((w64 ((w64 ((w64 (x180.X - (w64 (2500 * (w64 ((1 + ↑k153 : Int) - 1)))))) * (w64 (x180.X - (w64 (2500 * (w64 ((1 + ↑k153 : Int) - 1)))))))) + (w64 (x180.Y * x180.Y)))) ≤ 330625))).bind fun (y210, y211) =>
            if y211 = true then
              some ((1 + ↑k153 : Int), y210)
            else
              some (x151, y210)) (0, 5)).bind fun (y158, y159) =>
          if y159 = 0 then
            esc (some ([], 9))
          else
            (app 8 l117 [y158]).bind fun x298 =>
            some (.inl x298)) []) fun y313 =>
        some (y313, 0)
      else
        jn (forR 0 (↑p1.length : Int) (fun k342 l338 =>
          (forR' 1 (5 + 1) (fun k374 (x372, x373) =>
            (idx p1 (↑k342 : Int)).bind fun x401 =>
            (forR' 0 (↑k342 : Int) (fun k426 (x424, b425) =>
              (chk (↑k426 : Int) l338.length).bind fun _ =>
              if (gd l338 k426) = (1 + ↑k374 : Int) then
                some (w64 (x424 - 1), false)
              else
                some (x424, b425)) (x373, decide ((w64 ((w64 ((w64 (x401.X - (w64 (2500 * (w64 ((1 + ↑k374 : Int) - 1)))))) * (w64 (x401.X - (w64 (2500 * (w64 ((1 + ↑k374 : Int) - 1)))))))) + (w64 (x401.Y * x401.Y)))) ≤ 50625))).bind fun (y431, y432) =>
            if y432 = true then
              some ((1 + ↑k374 : Int), y431)
            else
              some (x372, y431)) (0, 5)).bind fun (y379, y380) =>
          if y380 = 0 then
            esc (some ([], 9))
          else
            (app 8 l338 [y379]).bind fun x519 =>
            some (.inl x519)) []) fun y534 =>
        some (y534, 0)

def m_klisterkit_Equal_int (p0 : List Int) (p1 : List Int) : Option (Bool) :=
  if (↑p0.length : Int) = (↑p1.length : Int) then
    jn (forR 0 (↑p0.length : Int) (fun k4 _ =>
      (idx p0 (↑k4 : Int)).bind fun x26 =>
      (idx p1 (↑k4 : Int)).bind fun x34 =>
      if x26 = x34 then
        some (.inl ())
      else
        esc (some false)) ()) fun _ =>
    some true
  else
    some false

def m_target_Loops (p0 : Int) (p1 : List T_target_Shot) : Option (Int × Int) :=
  (m_target_Falls p0 p1).bind fun (x1, x2) =>
  if x2 = 0 then
    (forR' 0 (↑x1.length : Int) (fun k23 x22 =>
      (chk (↑k23 : Int) x1.length).bind fun _ =>
      if 0 < (gd x1 k23) then
        some (w64 (x22 - 1))
      else
        some x22) 5).bind fun y28 =>
    some (y28, 0)
  else
    some (0, x2)

def m_target_Spares (p0 : Int) (p1 : List T_target_Shot) : Option (Int × Int) :=
  (m_target_Falls p0 p1).bind fun (x1, x2) =>
  if x2 = 0 then
    some (max 0 (w64 ((↑x1.length : Int) - 5)), 0)
  else
    some (0, x2)

def m_klisterkit_Equal_target_Shot (p0 : List T_target_Shot) (p1 : List T_target_Shot) : Option (Bool) :=
  if (↑p0.length : Int) = (↑p1.length : Int) then
    jn (forR 0 (↑p0.length : Int) (fun k4 _ =>
      (idx p0 (↑k4 : Int)).bind fun x26 =>
      (idx p1 (↑k4 : Int)).bind fun x34 =>
      if x26 = x34 then
        some (.inl ())
      else
        esc (some false)) ()) fun _ =>
    some true
  else
    some false

def m_klisterlaw03_TargetFalls (p0 : Int) (p1 : List T_target_Shot) : Option (Bool) :=
  if 12 < (↑p1.length : Int) then
    (m_klisterlaw03_awake).bind fun x3 =>
    some x3
  else
    (m_klisterkit_Clone_target_Shot p1).bind fun x14 =>
    (forR' 0 (↑p1.length : Int) (fun k44 l40 =>
      (idx p1 (↑k44 : Int)).bind fun x70 =>
      (app 16 l40 [(⟨x70.X, x70.Y⟩ : T_klisterref03_Shot)]).bind fun x91 =>
      some x91) []).bind fun y49 =>
    (m_target_Falls p0 x14).bind fun (x126, x127) =>
    (m_klisterref03_Falls p0 y49).bind fun (x145, x146) =>
    if x127 = x146 then
      (m_klisterkit_Equal_int x126 x145).bind fun x172 =>
      if x172 = true then
        if x146 = 0 then
          (forR' 0 (↑x145.length : Int) (fun k196 (x194, x195) =>
            (idx x145 (↑k196 : Int)).bind fun x223 =>
            if 0 < x223 then
              if 4 < (↑k196 : Int) then
                some (w64 (x194 - 1), w64 (x195 + 1))
              else
                some (w64 (x194 - 1), x195)
            else
              if 4 < (↑k196 : Int) then
                some (x194, w64 (x195 + 1))
              else
                some (x194, x195)) (5, 0)).bind fun (y201, y202) =>
          (m_target_Loops p0 x14).bind fun (x274, x275) =>
          (m_target_Spares p0 x14).bind fun (x286, x287) =>
          if x274 = y201 then
            if x275 = x146 then
              if x286 = y202 then
                if x287 = x146 then
                  (m_klisterkit_Equal_target_Shot x14 p1).bind fun x318 =>
                  if x318 = true then
                    (m_klisterlaw03_awake).bind fun x330 =>
                    some x330
                  else
                    some false
                else
                  some false
              else
                some false
            else
              some false
          else
            some false
        else
          (m_target_Loops p0 x14).bind fun (x352, x353) =>
          (m_target_Spares p0 x14).bind fun (x374, x375) =>
          if x352 = 0 then
            if x353 = x146 then
              if x374 = 0 then
                if x375 = x146 then
                  (m_klisterkit_Equal_target_Shot x14 p1).bind fun x405 =>
                  if x405 = true then
                    (m_klisterlaw03_awake).bind fun x417 =>
                    some x417
                  else
                    some false
                else
                  some false
              else
                some false
            else
              some false
          else
            some false
      else
        some false
    else
      some false

def m_klisterkit_Clone_target_Sheet (p0 : List T_target_Sheet) : Option ((List T_target_Sheet)) :=
  (app 32 ([] : List T_target_Sheet) p0).bind fun x4 =>
  some x4

def m_klisterlaw03_Sheets (p0 : List T_target_Sheet) : Option ((List T_klisterref03_Sheet)) :=
  (forR' 0 (↑p0.length : Int) (fun k18 l14 =>
    (idx p0 (↑k18 : Int)).bind fun x41 =>
    (app 32 l14 [(⟨x41.From, x41.To, x41.Loops⟩ : T_klisterref03_Sheet)]).bind fun x61 =>
    some x61) []).bind fun y23 =>
  some y23

def m_klisterref03_CheckSheets (p0 : Int) (p1 : List T_klisterref03_Sheet) : Option (Int) :=
  if p0 < 1 then
    some 2
  else
    if 8 < p0 then
      some 2
    else
      if 20 < (↑p1.length : Int) then
        some 2
      else
        jn (forR 0 (↑p1.length : Int) (fun k11 _ =>
          (idx p1 (↑k11 : Int)).bind fun x32 =>
          if x32.From < 0 then
            esc (some 1)
          else
            if p0 ≤ x32.To then
              esc (some 1)
            else
              if x32.To < x32.From then
                esc (some 1)
              else
                some (.inl ())) ()) fun _ =>
        jn (forR 0 (↑p1.length : Int) (fun k82 _ =>
          (idx p1 (↑k82 : Int)).bind fun x102 =>
          if x102.Loops.Lo < 0 then
            esc (some 3)
          else
            if 72 < x102.Loops.Hi then
              esc (some 3)
            else
              if x102.Loops.Hi < x102.Loops.Lo then
                esc (some 3)
              else
                some (.inl ())) ()) fun _ =>
        some 0

def m_target_CheckSheets_1 (p0 : T_target_Sheet) (p1 : Int) : Option (Bool) :=
  (m_target_within p0.From 0 p0.To).bind fun x5 =>
  if x5 = true then
    some (decide (p0.To < p1))
  else
    some false

def m_target_all_target_Sheet_1 (p0 : T_target_Sheet) (p1 : (T_target_Sheet → Option Bool)) : Option (Bool) :=
  (p1 p0).bind fun x5 =>
  some (!x5)

def m_slices_IndexFunc_target_Sheet_target_Sheet (p0 : List T_target_Sheet) (p1 : (T_target_Sheet → Option Bool)) : Option (Int) :=
  jn (forR 0 (↑p0.length : Int) (fun k2 _ =>
    (idx p0 (↑k2 : Int)).bind fun x22 =>
    (p1 x22).bind fun x30 =>
    if x30 = true then
      esc (some (↑k2 : Int))
    else
      some (.inl ())) ()) fun _ =>
  some (-1)

def m_slices_ContainsFunc_target_Sheet_target_Sheet (p0 : List T_target_Sheet) (p1 : (T_target_Sheet → Option Bool)) : Option (Bool) :=
  (m_slices_IndexFunc_target_Sheet_target_Sheet p0 p1).bind fun x1 =>
  some (decide (0 ≤ x1))

def m_target_all_target_Sheet (p0 : List T_target_Sheet) (p1 : (T_target_Sheet → Option Bool)) : Option (Bool) :=
  (m_slices_ContainsFunc_target_Sheet_target_Sheet p0 (fun x => m_target_all_target_Sheet_1 x p1)).bind fun x13 =>
  some (!x13)

def m_target_CheckSheets_2 (p0 : T_target_Sheet) : Option (Bool) :=
  (m_target_within p0.Loops.Lo 0 p0.Loops.Hi).bind fun x5 =>
  if x5 = true then
    some (decide (p0.Loops.Hi ≤ 72))
  else
    some false

def m_target_CheckSheets (p0 : Int) (p1 : List T_target_Sheet) : Option (Int) :=
  (m_target_within p0 1 8).bind fun x10 =>
  if x10 = true then
    if 20 < (↑p1.length : Int) then
      some 2
    else
      (m_target_all_target_Sheet p1 (fun x => m_target_CheckSheets_1 x p0)).bind fun x29 =>
      if x29 = true then
        (m_target_all_target_Sheet p1 m_target_CheckSheets_2).bind fun x43 =>
        if x43 = true then
          some 0
        else
          some 3
      else
        some 1
  else
    some 2

def m_target_links_1_1 (p0 : Int) : Option (Int) :=
  some p0

def m_target_links_1 (p0 : Int) : Option ((Unit → Option Int)) :=
  some (fun _ => m_target_links_1_1 p0)

def m_target_links (p0 : Int) (p1 : List T_target_Sheet) (p2 : List Int) : Option ((List T_target_link)) :=
  (forR' 0 (↑p1.length : Int) (fun k22 l17 =>
    (idx p1 (↑k22 : Int)).bind fun x49 =>
    (m_target_links_1 x49.Loops.Hi).bind fun x66 =>
    (m_target_links_1 (w64 (-x49.Loops.Lo))).bind fun x81 =>
    (app 40 l17 [(⟨(⟨0, (↑k22 : Int)⟩ : T_target_Step), x49.From, w64 (x49.To + 1), x66⟩ : T_target_link), (⟨(⟨1, (↑k22 : Int)⟩ : T_target_Step), w64 (x49.To + 1), x49.From, x81⟩ : T_target_link)]).bind fun x103 =>
    some x103) []).bind fun y27 =>
  (forR' 0 p0 (fun k159 l155 =>
    (m_target_links_1 9).bind fun x182 =>
    (m_target_links_1 0).bind fun x197 =>
    (app 40 l155 [(⟨(⟨2, (↑k159 : Int)⟩ : T_target_Step), (↑k159 : Int), (↑(k159 + 1) : Int), x182⟩ : T_target_link), (⟨(⟨3, (↑k159 : Int)⟩ : T_target_Step), (↑(k159 + 1) : Int), (↑k159 : Int), x197⟩ : T_target_link)]).bind fun x219 =>
    some x219) y27).bind fun y164 =>
  (forR' 0 (↑p2.length : Int) (fun k273 l269 =>
    (idx p2 (↑k273 : Int)).bind fun x296 =>
    (m_target_links_1 (w64 (-x296))).bind fun x306 =>
    (app 40 l269 [(⟨(⟨4, (↑k273 : Int)⟩ : T_target_Step), (↑(k273 + 1) : Int), (↑k273 : Int), x306⟩ : T_target_link)]).bind fun x327 =>
    some x327) y164).bind fun y278 =>
  some y278

def m_target_distances (p0 : Int) (p1 : List T_target_link) : Option ((Arr Int 81) × Bool) :=
  (forR' 0 9 (fun k17 a16 =>
    (forR' 0 9 (fun k45 a44 =>
      if (↑k17 : Int) = (↑k45 : Int) then
        some a44
      else
        (chk (↑k17 : Int) 9).bind fun _ =>
        (chk (↑k45 : Int) 9).bind fun _ =>
        some (a44.set (k17 * 9 + k45) 1048576)) a16).bind fun y50 =>
    some y50) (Arr.fill 81 0)).bind fun y22 =>
  (forR' 0 (↑p1.length : Int) (fun k117 a116 =>
    (idx p1 (↑k117 : Int)).bind fun x140 =>
    (chk x140.from_ 9).bind fun _ =>
    (chk x140.to_ 9).bind fun _ =>
    (x140.count ()).bind fun x171 =>
    some (a116.set (x140.from_.toNat * 9 + x140.to_.toNat) (min (a116.get (x140.from_.toNat * 9 + x140.to_.toNat)) x171))) y22).bind fun y122 =>
  (forR' 0 (w64 (p0 + 1)) (fun k206 a205 =>
    (forR' 0 (w64 (p0 + 1)) (fun k234 a233 =>
      (forR' 0 (w64 (p0 + 1)) (fun k265 a264 =>
        (chk (↑k234 : Int) 9).bind fun _ =>
        (chk (↑k265 : Int) 9).bind fun _ =>
        (chk (↑k206 : Int) 9).bind fun _ =>
        some (a264.set (k234 * 9 + k265) (min (a264.get (k234 * 9 + k265)) (w64 ((a264.get (k234 * 9 + k206)) + (a264.get (k206 * 9 + k265))))))) a233).bind fun y270 =>
      some y270) a205).bind fun y239 =>
    some y239) y122).bind fun y211 =>
  jn (forR 0 (w64 (p0 + 1)) (fun k360 _ =>
    (chk (↑k360 : Int) 9).bind fun _ =>
    if (y211.get (k360 * 9 + k360)) < 0 then
      esc (some (y211, false))
    else
      some (.inl ())) ()) fun _ =>
  some (y211, true)

def m_target_counted (p0 : Int) (p1 : List T_target_Sheet) : Option ((Arr Int 81) × Int) :=
  (m_target_CheckSheets p0 p1).bind fun x6 =>
  if x6 = 0 then
    (m_target_links p0 p1 []).bind fun x19 =>
    (m_target_distances p0 x19).bind fun (x39, x40) =>
    if x40 = true then
      some (x39, 0)
    else
      some (x39, 7)
  else
    some ((Arr.fill 81 0), x6)

def m_target_Between (p0 : Int) (p1 : List T_target_Sheet) (p2 : Int) (p3 : Int) : Option (T_api_Span × Int) :=
  (m_target_counted p0 p1).bind fun (x5, x6) =>
  (if x6 = 0 then
    some true
  else
    some (decide (x6 = 7))).bind fun b24 =>
  if b24 = true then
    ((m_target_within p2 0 p3).bind fun x51 =>
    if x51 = true then
      some (decide (p0 ≤ p3))
    else
      some true).bind fun b47 =>
    if b47 = true then
      some ((⟨0, 0⟩ : T_api_Span), 1)
    else
      if x6 = 0 then
        (chk (w64 (p3 + 1)) 9).bind fun _ =>
        (chk p2 9).bind fun _ =>
        some ((⟨w64 (-(x5.get ((w64 (p3 + 1)).toNat * 9 + p2.toNat))), (x5.get (p2.toNat * 9 + (w64 (p3 + 1)).toNat))⟩ : T_api_Span), 0)
      else
        some ((⟨0, 0⟩ : T_api_Span), x6)
  else
    if x6 = 0 then
      (chk (w64 (p3 + 1)) 9).bind fun _ =>
      (chk p2 9).bind fun _ =>
      some ((⟨w64 (-(x5.get ((w64 (p3 + 1)).toNat * 9 + p2.toNat))), (x5.get (p2.toNat * 9 + (w64 (p3 + 1)).toNat))⟩ : T_api_Span), 0)
    else
      some ((⟨0, 0⟩ : T_api_Span), x6)

def m_klisterref03_Truths (p0 : Int) (p1 : List T_klisterref03_Sheet) : Option ((List (List Int))) :=
  (forR' 0 p0 (fun k7 x6 =>
    some (w64 (10 * x6))) 1).bind fun y12 =>
  (forR' 0 y12 (fun k62 l57 =>
    (forR' 0 p0 (fun k108 (l103, x107) =>
      (rem x107 10).bind fun x136 =>
      (app 8 l103 [x136]).bind fun x144 =>
      (quo x107 10).bind fun x152 =>
      some (x144, x152)) ([], (↑k62 : Int))).bind fun (y113, y114) =>
    iter (fun (b186, x187) =>
      if x187 < (↑p1.length : Int) then
        if b186 = true then
          (idx p1 x187).bind fun x210 =>
          iter (fun (x227, x228) =>
            if x228 ≤ x210.To then
              (chk x228 y113.length).bind fun _ =>
              some (.inl (w64 (x227 + (gd y113 x228.toNat)), w64 (x228 + 1)))
            else
              esc ((m_klisterref03_outside x227 x210.Loops.Lo x210.Loops.Hi).bind fun x276 =>
              some (.inl (!x276, w64 (x187 + 1))))) big (0, x210.From)
        else
          esc (some l57)
      else
        esc (if b186 = true then
          (app 24 l57 [y113]).bind fun x315 =>
          some x315
        else
          some l57)) big (true, 0)) []).bind fun y67 =>
  some y67

def m_klisterref03_Between (p0 : Int) (p1 : List T_klisterref03_Sheet) (p2 : Int) (p3 : Int) : Option (T_api_Span × Int) :=
  (m_klisterref03_CheckSheets p0 p1).bind fun x5 =>
  if x5 = 0 then
    if p2 < 0 then
      some ((⟨0, 0⟩ : T_api_Span), 1)
    else
      if p0 ≤ p3 then
        some ((⟨0, 0⟩ : T_api_Span), 1)
      else
        if p3 < p2 then
          some ((⟨0, 0⟩ : T_api_Span), 1)
        else
          (m_klisterref03_Truths p0 p1).bind fun x36 =>
          if (↑x36.length : Int) = 0 then
            some ((⟨0, 0⟩ : T_api_Span), 7)
          else
            (forR' 0 (↑x36.length : Int) (fun k82 (x80, x81) =>
              iter (fun (x112, x113) =>
                if x113 ≤ p3 then
                  (idx x36 (↑k82 : Int)).bind fun x134 =>
                  (idx x134 x113).bind fun x148 =>
                  some (.inl (w64 (x112 + x148), w64 (x113 + 1)))
                else
                  esc (some (min x80 x112, max x81 x112))) big (0, p2)) (100, 0)).bind fun (y87, y88) =>
            some ((⟨y87, y88⟩ : T_api_Span), 0)
  else
    some ((⟨0, 0⟩ : T_api_Span), x5)

def m_target_Skied (p0 : Int) (p1 : List T_target_Sheet) : Option ((List T_api_Span) × Int) :=
  (m_target_counted p0 p1).bind fun (x1, x2) =>
  if x2 = 0 then
    (forR' 0 p0 (fun k39 l35 =>
      (chk (↑(k39 + 1) : Int) 9).bind fun _ =>
      (chk (↑k39 : Int) 9).bind fun _ =>
      (app 16 l35 [(⟨w64 (-(x1.get ((k39 + 1) * 9 + k39))), (x1.get (k39 * 9 + (k39 + 1)))⟩ : T_api_Span)]).bind fun x75 =>
      some x75) []).bind fun y44 =>
    some (y44, 0)
  else
    some ([], x2)

def m_klisterkit_Equal_target_Sheet (p0 : List T_target_Sheet) (p1 : List T_target_Sheet) : Option (Bool) :=
  if (↑p0.length : Int) = (↑p1.length : Int) then
    jn (forR 0 (↑p0.length : Int) (fun k4 _ =>
      (idx p0 (↑k4 : Int)).bind fun x26 =>
      (idx p1 (↑k4 : Int)).bind fun x34 =>
      if x26 = x34 then
        some (.inl ())
      else
        esc (some false)) ()) fun _ =>
    some true
  else
    some false

def m_klisterlaw03_TargetSheets (p0 : Int) (p1 : List T_target_Sheet) (p2 : Int) (p3 : Int) : Option (Bool) :=
  (if 3 < p0 then
    if p0 ≤ 8 then
      some true
    else
      some (decide (25 < (↑p1.length : Int)))
  else
    some (decide (25 < (↑p1.length : Int)))).bind fun b1 =>
  if b1 = true then
    (m_klisterlaw03_awake).bind fun x26 =>
    some x26
  else
    (m_klisterkit_Clone_target_Sheet p1).bind fun x38 =>
    (m_klisterlaw03_Sheets p1).bind fun x52 =>
    (m_klisterref03_CheckSheets p0 x52).bind fun x70 =>
    (m_target_CheckSheets p0 x38).bind fun x85 =>
    if x85 = x70 then
      (m_target_Between p0 x38 p2 p3).bind fun (x98, x99) =>
      (m_klisterref03_Between p0 x52 p2 p3).bind fun (x120, x121) =>
      if x98 = x120 then
        if x99 = x121 then
          (m_target_Skied p0 x38).bind fun (x152, x153) =>
          if x70 = 0 then
            jn (forR 0 p0 (fun k170 _ =>
              (m_klisterref03_Between p0 x52 (↑k170 : Int) (↑k170 : Int)).bind fun (x197, x198) =>
              if x153 = x198 then
                if x153 = 0 then
                  if (↑x152.length : Int) = p0 then
                    (chk (↑k170 : Int) x152.length).bind fun _ =>
                    if (gd x152 k170) = x197 then
                      some (.inl ())
                    else
                      esc (some false)
                  else
                    esc (some false)
                else
                  some (.inl ())
              else
                esc (some false)) ()) fun _ =>
            if x153 = 0 then
              (m_klisterkit_Equal_target_Sheet x38 p1).bind fun x272 =>
              if x272 = true then
                (m_klisterlaw03_awake).bind fun x284 =>
                some x284
              else
                some false
            else
              if (↑x152.length : Int) = 0 then
                (m_klisterkit_Equal_target_Sheet x38 p1).bind fun x309 =>
                if x309 = true then
                  (m_klisterlaw03_awake).bind fun x321 =>
                  some x321
                else
                  some false
              else
                some false
          else
            if x153 = x70 then
              if (↑x152.length : Int) = 0 then
                (m_klisterkit_Equal_target_Sheet x38 p1).bind fun x347 =>
                if x347 = true then
                  (m_klisterlaw03_awake).bind fun x359 =>
                  some x359
                else
                  some false
              else
                some false
            else
              some false
        else
          some false
      else
        some false
    else
      some false

def m_klisterkit_Of (p0 : List Int) : Option (T_klisterkit_Deck) :=
  some (⟨p0, 0, 17⟩ : T_klisterkit_Deck)

def m_klisterkit_Deck_Draw (p0 : T_klisterkit_Deck) (p1 : Int) : Option (Int × T_klisterkit_Deck) :=
  if p1 ≤ 1 then
    some (0, p0)
  else
    if (↑p0.bytes.length : Int) = 0 then
      some (0, p0)
    else
      (rem p0.next (↑p0.bytes.length : Int)).bind fun x10 =>
      (idx p0.bytes x10).bind fun x13 =>
      (quo p0.next (↑p0.bytes.length : Int)).bind fun x20 =>
      (rem (wu32 ((wu32 ((wu32 ((wu32 (p0.state * 45)) + (wu32 x13))) + (wu32 (77 * (wu32 x20))))) + 1)) 65519).bind fun x32 =>
      if (wu32 x20) = 0 then
        if p1 ≤ 256 then
          (rem (w64 (wu32 x13)) p1).bind fun x42 =>
          some (x42, (⟨p0.bytes, w64 (p0.next + 1), x32⟩ : T_klisterkit_Deck))
        else
          (rem (w64 (wu32 ((wu32 (x32 * 256)) + (wu32 x13)))) p1).bind fun x46 =>
          some (x46, (⟨p0.bytes, w64 (p0.next + 1), x32⟩ : T_klisterkit_Deck))
      else
        (rem (w64 (wu32 ((wu32 (x32 * 256)) + (wu32 x13)))) p1).bind fun x50 =>
        some (x50, (⟨p0.bytes, w64 (p0.next + 1), x32⟩ : T_klisterkit_Deck))

def m_klisterkit_Deck_Between (p0 : T_klisterkit_Deck) (p1 : Int) (p2 : Int) : Option (Int × T_klisterkit_Deck) :=
  (m_klisterkit_Deck_Draw p0 (w64 ((w64 (p2 - p1)) + 1))).bind fun (x2, x3) =>
  some (w64 (p1 + x2), x3)

def m_klisterlaw03_span (p0 : Int) (p1 : Int) : Option (T_api_Span) :=
  some (⟨p0, p1⟩ : T_api_Span)

def m_klisterlaw03_Counted (p0 : T_klisterkit_Deck) (p1 : Int) (p2 : Int) : Option ((List Int) × (List T_target_Sheet) × T_klisterkit_Deck) :=
  (m_klisterkit_Deck_Between p0 1 p1).bind fun (x2, x3) =>
  (forR' 0 x2 (fun k53 (l44, x47, x48, l49) =>
    (m_klisterkit_Deck_Draw (⟨l44, x47, x48⟩ : T_klisterkit_Deck) 6).bind fun (x81, x82) =>
    (app 8 l49 [x81]).bind fun x100 =>
    some (x82.bytes, x82.next, x82.state, x100)) (x3.bytes, x3.next, x3.state, [])).bind fun (y58, y59, y60, y61) =>
  (m_klisterkit_Deck_Draw (⟨y58, y59, y60⟩ : T_klisterkit_Deck) 9).bind fun (x141, x142) =>
  (forR' 0 x141 (fun k203 (l194, x197, x198, l199) =>
    (m_klisterkit_Deck_Draw (⟨l194, x197, x198⟩ : T_klisterkit_Deck) (↑y61.length : Int)).bind fun (x233, x234) =>
    (m_klisterkit_Deck_Between x234 x233 (w64 ((↑y61.length : Int) - 1))).bind fun (x247, x248) =>
    (cut y61 x233 (w64 (x247 + 1))).bind fun x268 =>
    (forR' 0 (↑x268.length : Int) (fun k289 x288 =>
      (idx x268 (↑k289 : Int)).bind fun x317 =>
      some (w64 (x288 + x317))) 0).bind fun y294 =>
    (m_klisterkit_Deck_Draw x248 (w64 (p2 + 1))).bind fun (x346, x347) =>
    (m_klisterkit_Deck_Draw x347 (w64 (p2 + 1))).bind fun (x361, x362) =>
    (m_klisterlaw03_span (max 0 (w64 (y294 - x346))) (min 72 (w64 (y294 + x361)))).bind fun x375 =>
    (app 32 l199 [(⟨x233, x247, x375⟩ : T_target_Sheet)]).bind fun x393 =>
    some (x362.bytes, x362.next, x362.state, x393)) (x142.bytes, x142.next, x142.state, [])).bind fun (y208, y209, y210, y211) =>
  some (y61, y211, (⟨y208, y209, y210⟩ : T_klisterkit_Deck))

def m_klisterkit_Clone_int (p0 : List Int) : Option ((List Int)) :=
  (app 8 ([] : List Int) p0).bind fun x4 =>
  some x4

def m_slices_Reverse_int_int (p0 : List Int) : Option ((List Int)) :=
  iter (fun (l11, x12, x13) =>
    if x12 < x13 then
      (chk x13 l11.length).bind fun _ =>
      (chk x12 l11.length).bind fun _ =>
      (chk x13 (List.set l11 x12.toNat (gd l11 x13.toNat)).length).bind fun _ =>
      some (.inl ((List.set (List.set l11 x12.toNat (gd l11 x13.toNat)) x13.toNat (gd l11 x12.toNat)), w64 (x12 + 1), w64 (x13 - 1)))
    else
      esc (some l11)) big (p0, 0, w64 ((↑p0.length : Int) - 1))

def m_klisterlaw03_wide (p0 : T_api_Span) (p1 : T_api_Span) : Option (Bool) :=
  if p0.Lo ≤ p1.Lo then
    some (decide (p1.Hi ≤ p0.Hi))
  else
    some false

def m_target_all_int_1 (p0 : Int) (p1 : (Int → Option Bool)) : Option (Bool) :=
  (p1 p0).bind fun x1 =>
  some (!x1)

def m_slices_IndexFunc_int_int (p0 : List Int) (p1 : (Int → Option Bool)) : Option (Int) :=
  jn (forR 0 (↑p0.length : Int) (fun k2 _ =>
    (idx p0 (↑k2 : Int)).bind fun x22 =>
    (p1 x22).bind fun x30 =>
    if x30 = true then
      esc (some (↑k2 : Int))
    else
      some (.inl ())) ()) fun _ =>
  some (-1)

def m_slices_ContainsFunc_int_int (p0 : List Int) (p1 : (Int → Option Bool)) : Option (Bool) :=
  (m_slices_IndexFunc_int_int p0 p1).bind fun x1 =>
  some (decide (0 ≤ x1))

def m_target_all_int (p0 : List Int) (p1 : (Int → Option Bool)) : Option (Bool) :=
  (m_slices_ContainsFunc_int_int p0 (fun x => m_target_all_int_1 x p1)).bind fun x13 =>
  some (!x13)

def m_target_due_1 (p0 : Int) : Option (Bool) :=
  (m_target_within p0 0 5).bind fun x1 =>
  some x1

def m_target_due (p0 : List Int) (p1 : List T_target_Sheet) : Option (Int) :=
  (m_target_within (↑p0.length : Int) 1 8).bind fun x1 =>
  if x1 = true then
    (m_target_all_int p0 m_target_due_1).bind fun x15 =>
    if x15 = true then
      (m_target_CheckSheets (↑p0.length : Int) p1).bind fun x29 =>
      some x29
    else
      some 3
  else
    some 2

def m_target_Few (p0 : List Int) (p1 : List T_target_Sheet) : Option (Bool × Int) :=
  (m_target_due p0 p1).bind fun x1 =>
  if x1 = 0 then
    (m_target_links (↑p0.length : Int) p1 p0).bind fun x15 =>
    (m_target_distances (↑p0.length : Int) x15).bind fun (x35, x36) =>
    some (!x36, 0)
  else
    some (false, x1)

def m_klisterlaw03_TargetWider (p0 : List Int) (p1 : List Int) : Option (Bool) :=
  (m_klisterkit_Of p0).bind fun x1 =>
  (m_klisterlaw03_Counted x1 7 2).bind fun (x16, x17, x18) =>
  (m_klisterkit_Of p1).bind fun x39 =>
  (m_klisterkit_Clone_target_Sheet x17).bind fun x59 =>
  (forR' 0 (↑x17.length : Int) (fun k113 (l103, x106, x107, l108, l109) =>
    (idx x17 (↑k113 : Int)).bind fun x149 =>
    ((m_klisterkit_Deck_Draw (⟨l103, x106, x107⟩ : T_klisterkit_Deck) 3).bind fun (x174, x175) =>
    (m_klisterkit_Deck_Draw x175 3).bind fun (x189, x190) =>
    (m_klisterlaw03_span (max 0 (w64 (x149.Loops.Lo - x174))) (min 72 (w64 (x149.Loops.Hi + x189)))).bind fun x203 =>
    (chk (↑k113 : Int) l108.length).bind fun _ =>
    some (x190.bytes, x190.next, x190.state, (List.set l108 k113 (⟨(gd l108 k113).From, (gd l108 k113).To, x203⟩ : T_target_Sheet)))).bind fun (l165, x168, x169, l170) =>
    (app 32 l109 [(⟨w64 ((w64 ((↑x16.length : Int) - 1)) - x149.To), w64 ((w64 ((↑x16.length : Int) - 1)) - x149.From), x149.Loops⟩ : T_target_Sheet)]).bind fun x698 =>
    some (l165, x168, x169, l170, x698)) (x39.bytes, x39.next, x39.state, x59, [])).bind fun (y118, y119, y120, y121, y122) =>
  (forR' 0 (↑x16.length : Int) (fun k783 (l774, x777, x778, l779) =>
    (m_klisterkit_Deck_Draw (⟨l774, x777, x778⟩ : T_klisterkit_Deck) 6).bind fun (x814, x815) =>
    (app 8 l779 [x814]).bind fun x833 =>
    some (x815.bytes, x815.next, x815.state, x833)) (y118, y119, y120, [])).bind fun (y788, y789, y790, y791) =>
  (m_klisterkit_Clone_int y791).bind fun x882 =>
  (m_slices_Reverse_int_int x882).bind fun x895 =>
  (m_target_Skied (↑x16.length : Int) x17).bind fun (x912, x913) =>
  (m_target_Skied (↑x16.length : Int) y121).bind fun (x931, x932) =>
  (m_target_Skied (↑x16.length : Int) y122).bind fun (x950, x951) =>
  if x913 = 0 then
    if x932 = 0 then
      if x951 = 0 then
        if (↑x912.length : Int) = (↑x16.length : Int) then
          if (↑x931.length : Int) = (↑x16.length : Int) then
            if (↑x950.length : Int) = (↑x16.length : Int) then
              jn (forR 0 (↑x16.length : Int) (fun k992 _ =>
                (chk (↑k992 : Int) x931.length).bind fun _ =>
                (chk (↑k992 : Int) x912.length).bind fun _ =>
                (m_klisterlaw03_wide (gd x931 k992) (gd x912 k992)).bind fun x1031 =>
                if x1031 = true then
                  (chk (w64 ((w64 ((↑x16.length : Int) - 1)) - (↑k992 : Int))) x950.length).bind fun _ =>
                  if (gd x950 (w64 ((w64 ((↑x16.length : Int) - 1)) - (↑k992 : Int))).toNat) = (gd x912 k992) then
                    some (.inl ())
                  else
                    esc (some false)
                else
                  esc (some false)) ()) fun _ =>
              if 0 < (↑x17.length : Int) then
                (cut x17 1 (↑(x17.length) : Int)).bind fun x1080 =>
                (m_target_Skied (↑x16.length : Int) x1080).bind fun (x1098, x1099) =>
                if x1099 = 0 then
                  if (↑x1098.length : Int) = (↑x16.length : Int) then
                    jn (forR 0 (↑x16.length : Int) (fun k1118 _ =>
                      (chk (↑k1118 : Int) x1098.length).bind fun _ =>
                      (chk (↑k1118 : Int) x912.length).bind fun _ =>
                      (m_klisterlaw03_wide (gd x1098 k1118) (gd x912 k1118)).bind fun x1155 =>
                      if x1155 = true then
                        some (.inl ())
                      else
                        esc (some false)) ()) fun _ =>
                    (m_target_Few y791 x17).bind fun (x1200, x1201) =>
                    (m_target_Few y791 y121).bind fun (x1219, x1220) =>
                    (m_target_Few x895 y122).bind fun (x1242, x1243) =>
                    if x1201 = 0 then
                      if x1220 = 0 then
                        if x1243 = 0 then
                          if x1200 = true then
                            if (x1200 == x1242) = true then
                              (m_klisterlaw03_awake).bind fun x1271 =>
                              some x1271
                            else
                              some false
                          else
                            if x1219 = true then
                              some false
                            else
                              if (x1200 == x1242) = true then
                                (m_klisterlaw03_awake).bind fun x1288 =>
                                some x1288
                              else
                                some false
                        else
                          some false
                      else
                        some false
                    else
                      some false
                  else
                    some false
                else
                  some false
              else
                (m_target_Few y791 x17).bind fun (x1319, x1320) =>
                (m_target_Few y791 y121).bind fun (x1336, x1337) =>
                (m_target_Few x895 y122).bind fun (x1357, x1358) =>
                if x1320 = 0 then
                  if x1337 = 0 then
                    if x1358 = 0 then
                      if x1319 = true then
                        if (x1319 == x1357) = true then
                          (m_klisterlaw03_awake).bind fun x1386 =>
                          some x1386
                        else
                          some false
                      else
                        if x1336 = true then
                          some false
                        else
                          if (x1319 == x1357) = true then
                            (m_klisterlaw03_awake).bind fun x1403 =>
                            some x1403
                          else
                            some false
                    else
                      some false
                  else
                    some false
                else
                  some false
            else
              some false
          else
            some false
        else
          some false
      else
        some false
    else
      some false
  else
    some false
end Go.Proofs.Ytnllmignponhdaa
