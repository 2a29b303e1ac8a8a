/- Models of functions, printed by a program. -/
import Derived.Test.YtfdnbaahdjlapaaGreatVM
namespace Go.Proofs.YtfdnbaahdjlapaaGreat
open Go.KL
structure T_api_Span where
  Lo : Int
  Hi : Int
deriving DecidableEq, Inhabited, Repr
def m_klisterlaw08_awake : Option Bool := some true

def m_klisterkit_Clone_api_Span (p0 : List T_api_Span) : Option ((List T_api_Span)) :=
  (app 16 ([] : List T_api_Span) p0).bind fun x4 =>
  some x4

def m_relay_each_api_Span_1 (p0 : T_api_Span) (p1 : (T_api_Span → Option Bool)) : Option (Bool) :=
  (p1 p0).bind fun x5 =>
  some (!x5)

def m_slices_IndexFunc_api_Span_api_Span (p0 : List T_api_Span) (p1 : (T_api_Span → Option Bool)) : Option (Int) :=
  jn (forR 0 (↑p0.length : Int) (fun k2 _ =>
    (idx p0 (↑k2 : Int)).bind fun x22 =>
    (p1 x22).bind fun x30 =>
    if x30 = true then
      esc (some (↑k2 : Int))
    else
      some (.inl ())) ()) fun _ =>
  some (-1)

def m_slices_ContainsFunc_api_Span_api_Span (p0 : List T_api_Span) (p1 : (T_api_Span → Option Bool)) : Option (Bool) :=
  (m_slices_IndexFunc_api_Span_api_Span p0 p1).bind fun x1 =>
  some (decide (0 ≤ x1))

def m_relay_each_api_Span (p0 : List T_api_Span) (p1 : (T_api_Span → Option Bool)) : Option (Bool) :=
  (m_slices_ContainsFunc_api_Span_api_Span p0 (fun x => m_relay_each_api_Span_1 x p1)).bind fun x13 =>
  some (!x13)

def m_relay_Chances_1 (p0 : T_api_Span) : Option (Bool) :=
  some (decide (p0.Lo ≤ p0.Hi))

def m_relay_Chances (p0 : List T_api_Span) : Option ((List T_api_Span) × Int) :=
  if 40 < (↑p0.length : Int) then
    some ([], 2)
  else
    (m_relay_each_api_Span p0 m_relay_Chances_1).bind fun x7 =>
    if x7 = true then
      (forR' 0 (↑p0.length : Int) (fun k36 l32 =>
        (idx p0 (↑k36 : Int)).bind fun x60 =>
        (forR' 0 (↑p0.length : Int) (fun k93 (x91, x92) =>
          (idx p0 (↑k93 : Int)).bind fun x122 =>
          if (↑k93 : Int) = (↑k36 : Int) then
            some (x91, x92)
          else
            if x122.Hi < x60.Lo then
              if x122.Lo < x60.Hi then
                some (w64 (x91 + 1), w64 (x92 + 1))
              else
                some (w64 (x91 + 1), x92)
            else
              if x122.Lo < x60.Hi then
                some (x91, w64 (x92 + 1))
              else
                some (x91, x92)) (1, 1)).bind fun (y98, y99) =>
        (app 16 l32 [(⟨y98, y99⟩ : T_api_Span)]).bind fun x193 =>
        some x193) []).bind fun y41 =>
      some (y41, 0)
    else
      some ([], 3)

def m_klisterref08_Chances (p0 : List T_api_Span) : Option ((List T_api_Span) × Int) :=
  if 40 < (↑p0.length : Int) then
    some ([], 2)
  else
    jn (forR 0 (↑p0.length : Int) (fun k7 _ =>
      (idx p0 (↑k7 : Int)).bind fun x27 =>
      if x27.Hi < x27.Lo then
        esc (some ([], 3))
      else
        some (.inl ())) ()) fun _ =>
    (forR' 0 (↑p0.length : Int) (fun k74 l70 =>
      (forR' 0 (↑p0.length : Int) (fun k106 (x104, x105) =>
        ((if (↑k106 : Int) = (↑k74 : Int) then
          some false
        else
          (idx p0 (↑k106 : Int)).bind fun x145 =>
          (idx p0 (↑k74 : Int)).bind fun x155 =>
          some (decide (x145.Hi < x155.Lo))).bind fun b135 =>
        if b135 = true then
          if (↑k106 : Int) = (↑k74 : Int) then
            some (w64 (x104 + 1), x105)
          else
            (idx p0 (↑k106 : Int)).bind fun x184 =>
            (idx p0 (↑k74 : Int)).bind fun x195 =>
            if x184.Lo < x195.Hi then
              some (w64 (x104 + 1), w64 (x105 + 1))
            else
              some (w64 (x104 + 1), x105)
        else
          if (↑k106 : Int) = (↑k74 : Int) then
            some (x104, x105)
          else
            (idx p0 (↑k106 : Int)).bind fun x217 =>
            (idx p0 (↑k74 : Int)).bind fun x228 =>
            if x217.Lo < x228.Hi then
              some (x104, w64 (x105 + 1))
            else
              some (x104, x105)).bind fun (x130, x131) =>
        some (x130, x131)) (0, 0)).bind fun (y111, y112) =>
      (app 16 l70 [(⟨w64 (1 + y111), w64 (1 + y112)⟩ : T_api_Span)]).bind fun x275 =>
      some x275) []).bind fun y79 =>
    some (y79, 0)

def m_klisterkit_Equal_api_Span (p0 : List T_api_Span) (p1 : List T_api_Span) : Option (Bool) :=
  if (↑p0.length : Int) = (↑p1.length : Int) then
    jn (forR 0 (↑p0.length : Int) (fun k4 _ =>
      (idx p0 (↑k4 : Int)).bind fun x26 =>
      (idx p1 (↑k4 : Int)).bind fun x34 =>
      if x26 = x34 then
        some (.inl ())
      else
        esc (some false)) ()) fun _ =>
    some true
  else
    some false

def m_klisterlaw08_RelayChances (p0 : List T_api_Span) : Option (Bool) :=
  if 44 < (↑p0.length : Int) then
    (m_klisterlaw08_awake).bind fun x3 =>
    some x3
  else
    (m_klisterkit_Clone_api_Span p0).bind fun x14 =>
    (m_relay_Chances x14).bind fun (x32, x33) =>
    (m_klisterref08_Chances p0).bind fun (x49, x50) =>
    if x33 = x50 then
      (m_klisterkit_Equal_api_Span x32 x49).bind fun x76 =>
      if x76 = true then
        (m_klisterkit_Equal_api_Span x14 p0).bind fun x97 =>
        if x97 = true then
          (m_klisterlaw08_awake).bind fun x109 =>
          some x109
        else
          some false
      else
        some false
    else
      some false
end Go.Proofs.YtfdnbaahdjlapaaGreat
