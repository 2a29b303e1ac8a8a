/- Models of functions, printed by a program. -/
import Derived.Test.YtfdnbaahdjlapaaGreatVM
namespace Go.Proofs.YtfdnbaahdjlapaaGreat
open Go.KL
structure T_klisterkit_Deck where
  bytes : List Int
  next : Int
  state : Int
deriving DecidableEq, Inhabited, Repr
structure T_api_Span where
  Lo : Int
  Hi : Int
deriving DecidableEq, Inhabited, Repr
def m_klisterkit_Of (p0 : List Int) : Option (T_klisterkit_Deck) :=
  some (⟨p0, 0, 17⟩ : T_klisterkit_Deck)

def m_klisterkit_Deck_Draw (p0 : T_klisterkit_Deck) (p1 : Int) : Option (Int × T_klisterkit_Deck) :=
  if p1 ≤ 1 then
    some (0, p0)
  else
    if (↑p0.bytes.length : Int) = 0 then
      some (0, p0)
    else
      (rem p0.next (↑p0.bytes.length : Int)).bind fun x10 =>
      (idx p0.bytes x10).bind fun x13 =>
      (quo p0.next (↑p0.bytes.length : Int)).bind fun x20 =>
      (rem (wu32 ((wu32 ((wu32 ((wu32 (p0.state * 45)) + (wu32 x13))) + (wu32 (77 * (wu32 x20))))) + 1)) 65519).bind fun x32 =>
      if (wu32 x20) = 0 then
        if p1 ≤ 256 then
          (rem (w64 (wu32 x13)) p1).bind fun x42 =>
          some (x42, (⟨p0.bytes, w64 (p0.next + 1), x32⟩ : T_klisterkit_Deck))
        else
          (rem (w64 (wu32 ((wu32 (x32 * 256)) + (wu32 x13)))) p1).bind fun x46 =>
          some (x46, (⟨p0.bytes, w64 (p0.next + 1), x32⟩ : T_klisterkit_Deck))
      else
        (rem (w64 (wu32 ((wu32 (x32 * 256)) + (wu32 x13)))) p1).bind fun x50 =>
        some (x50, (⟨p0.bytes, w64 (p0.next + 1), x32⟩ : T_klisterkit_Deck))

def m_relay_each_api_Span_1 (p0 : T_api_Span) (p1 : (T_api_Span → Option Bool)) : Option (Bool) :=
  (p1 p0).bind fun x5 =>
  some (!x5)

def m_slices_IndexFunc_api_Span_api_Span (p0 : List T_api_Span) (p1 : (T_api_Span → Option Bool)) : Option (Int) :=
  jn (forR 0 (↑p0.length : Int) (fun k2 _ =>
    (idx p0 (↑k2 : Int)).bind fun x22 =>
    (p1 x22).bind fun x30 =>
    if x30 = true then
      esc (some (↑k2 : Int))
    else
      some (.inl ())) ()) fun _ =>
  some (-1)

def m_slices_ContainsFunc_api_Span_api_Span (p0 : List T_api_Span) (p1 : (T_api_Span → Option Bool)) : Option (Bool) :=
  (m_slices_IndexFunc_api_Span_api_Span p0 p1).bind fun x1 =>
  some (decide (0 ≤ x1))

def m_relay_each_api_Span (p0 : List T_api_Span) (p1 : (T_api_Span → Option Bool)) : Option (Bool) :=
  (m_slices_ContainsFunc_api_Span_api_Span p0 (fun x => m_relay_each_api_Span_1 x p1)).bind fun x13 =>
  some (!x13)

def m_relay_Chances_1 (p0 : T_api_Span) : Option (Bool) :=
  some (decide (p0.Lo ≤ p0.Hi))

def m_relay_Chances (p0 : List T_api_Span) : Option ((List T_api_Span) × Int) :=
  if 40 < (↑p0.length : Int) then
    some ([], 2)
  else
    (m_relay_each_api_Span p0 m_relay_Chances_1).bind fun x7 =>
    if x7 = true then
      (forR' 0 (↑p0.length : Int) (fun k36 l32 =>
        (idx p0 (↑k36 : Int)).bind fun x60 =>
        (forR' 0 (↑p0.length : Int) (fun k93 (x91, x92) =>
          (idx p0 (↑k93 : Int)).bind fun x122 =>
          if (↑k93 : Int) = (↑k36 : Int) then
            some (x91, x92)
          else
            if x122.Hi < x60.Lo then
              if x122.Lo < x60.Hi then
                some (w64 (x91 + 1), w64 (x92 + 1))
              else
                some (w64 (x91 + 1), x92)
            else
              if x122.Lo < x60.Hi then
                some (x91, w64 (x92 + 1))
              else
                some (x91, x92)) (1, 1)).bind fun (y98, y99) =>
        (app 16 l32 [(⟨y98, y99⟩ : T_api_Span)]).bind fun x193 =>
        some x193) []).bind fun y41 =>
      some (y41, 0)
    else
      some ([], 3)

def m_klisterlaw08_RelayChanced_1 (p0 : Int) (p1 : List Int) : Option (Int) :=
  (forR' 0 (↑p1.length : Int) (fun k7 x6 =>
    (idx p1 (↑k7 : Int)).bind fun x30 =>
    (idx p1 p0).bind fun x38 =>
    if x30 < x38 then
      some (w64 (x6 + 1))
    else
      some x6) 1).bind fun y12 =>
  some y12

def m_klisterkit_Deck_Between (p0 : T_klisterkit_Deck) (p1 : Int) (p2 : Int) : Option (Int × T_klisterkit_Deck) :=
  (m_klisterkit_Deck_Draw p0 (w64 ((w64 (p2 - p1)) + 1))).bind fun (x2, x3) =>
  some (w64 (p1 + x2), x3)

def m_klisterlaw08_within (p0 : Int) (p1 : T_api_Span) : Option (Bool) :=
  if p1.Lo ≤ p0 then
    some (decide (p0 ≤ p1.Hi))
  else
    some false

def m_klisterlaw08_awake : Option Bool := some true

def m_klisterlaw08_RelayChanced (p0 : List Int) (p1 : List Int) : Option (Bool) :=
  (m_klisterkit_Of p0).bind fun x1 =>
  (m_klisterkit_Of p1).bind fun x17 =>
  (m_klisterkit_Deck_Draw x1 13).bind fun (x33, x34) =>
  (forR' 0 x33 (fun k85 (l76, x79, x80, l81) =>
    (m_klisterkit_Deck_Draw (⟨l76, x79, x80⟩ : T_klisterkit_Deck) 60).bind fun (x113, x114) =>
    (m_klisterkit_Deck_Draw x114 25).bind fun (x127, x128) =>
    (app 16 l81 [(⟨x113, w64 (x113 + x127)⟩ : T_api_Span)]).bind fun x146 =>
    some (x128.bytes, x128.next, x128.state, x146)) (x34.bytes, x34.next, x34.state, [])).bind fun (y90, y91, y92, y93) =>
  (m_relay_Chances y93).bind fun (x192, x193) =>
  if x193 = 0 then
    if (↑x192.length : Int) = (↑y93.length : Int) then
      (forR' 0 (↑y93.length : Int) (fun k247 (l238, x241, x242, l243) =>
        (idx y93 (↑k247 : Int)).bind fun x282 =>
        (m_klisterkit_Deck_Between (⟨l238, x241, x242⟩ : T_klisterkit_Deck) x282.Lo x282.Hi).bind fun (x298, x299) =>
        (app 8 l243 [x298]).bind fun x318 =>
        some (x299.bytes, x299.next, x299.state, x318)) (x17.bytes, x17.next, x17.state, [])).bind fun (y252, y253, y254, y255) =>
      jn (forR 0 (↑y93.length : Int) (fun k370 _ =>
        (forR' 0 (↑y93.length : Int) (fun k424 (l416, l420) =>
          (idx y93 (↑k424 : Int)).bind fun x458 =>
          ((app 8 l416 [x458.Hi]).bind fun x491 =>
          (app 8 l420 [x458.Lo]).bind fun x504 =>
          some (x491, x504)).bind fun (l477, l480) =>
          if (↑k424 : Int) = (↑k370 : Int) then
            (chk (↑k424 : Int) l477.length).bind fun _ =>
            (chk (↑k424 : Int) l480.length).bind fun _ =>
            some ((List.set l477 k424 x458.Lo), (List.set l480 k424 x458.Hi))
          else
            some (l477, l480)) ([], [])).bind fun (y429, y430) =>
        (chk (↑k370 : Int) x192.length).bind fun _ =>
        (m_klisterlaw08_RelayChanced_1 (↑k370 : Int) y429).bind fun x780 =>
        if x780 = ((gd x192 k370).Lo) then
          (m_klisterlaw08_RelayChanced_1 (↑k370 : Int) y430).bind fun x798 =>
          if x798 = ((gd x192 k370).Hi) then
            (m_klisterlaw08_RelayChanced_1 (↑k370 : Int) y255).bind fun x817 =>
            (m_klisterlaw08_within x817 (gd x192 k370)).bind fun x827 =>
            if x827 = true then
              some (.inl ())
            else
              esc (some false)
          else
            esc (some false)
        else
          esc (some false)) ()) fun _ =>
      (m_klisterlaw08_awake).bind fun x865 =>
      some x865
    else
      some false
  else
    some false
end Go.Proofs.YtfdnbaahdjlapaaGreat
