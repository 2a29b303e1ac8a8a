/- Models of functions, printed by a program. -/
import Derived.Test.YtjfffcjjlnmneaaGreatVM
namespace Go.Proofs.YtjfffcjjlnmneaaGreat
open Go.KL
structure T_klisterkit_Deck where
  bytes : List Int
  next : Int
  state : Int
deriving DecidableEq, Inhabited, Repr
structure T_target_Shot where
  X : Int
  Y : Int
deriving DecidableEq, Inhabited, Repr
structure T_relay_Shooting where
  Spares : Int
  Loops : Int
  Unused : Int
deriving DecidableEq, Inhabited, Repr
def m_klisterkit_Of (p0 : List Int) : Option (T_klisterkit_Deck) :=
  some (⟨p0, 0, 17⟩ : T_klisterkit_Deck)

def m_klisterkit_Deck_Draw (p0 : T_klisterkit_Deck) (p1 : Int) : Option (Int × T_klisterkit_Deck) :=
  if p1 ≤ 1 then
    some (0, p0)
  else
    if (↑p0.bytes.length : Int) = 0 then
      some (0, p0)
    else
      (rem p0.next (↑p0.bytes.length : Int)).bind fun x10 =>
      (idx p0.bytes x10).bind fun x13 =>
      (quo p0.next (↑p0.bytes.length : Int)).bind fun x20 =>
      (rem (wu32 ((wu32 ((wu32 ((wu32 (p0.state * 45)) + (wu32 x13))) + (wu32 (77 * (wu32 x20))))) + 1)) 65519).bind fun x32 =>
      if (wu32 x20) = 0 then
        if p1 ≤ 256 then
          (rem (w64 (wu32 x13)) p1).bind fun x42 =>
          some (x42, (⟨p0.bytes, w64 (p0.next + 1), x32⟩ : T_klisterkit_Deck))
        else
          (rem (w64 (wu32 ((wu32 (x32 * 256)) + (wu32 x13)))) p1).bind fun x46 =>
          some (x46, (⟨p0.bytes, w64 (p0.next + 1), x32⟩ : T_klisterkit_Deck))
      else
        (rem (w64 (wu32 ((wu32 (x32 * 256)) + (wu32 x13)))) p1).bind fun x50 =>
        some (x50, (⟨p0.bytes, w64 (p0.next + 1), x32⟩ : T_klisterkit_Deck))

def m_klisterkit_Deck_Between (p0 : T_klisterkit_Deck) (p1 : Int) (p2 : Int) : Option (Int × T_klisterkit_Deck) :=
  (m_klisterkit_Deck_Draw p0 (w64 ((w64 (p2 - p1)) + 1))).bind fun (x2, x3) =>
  some (w64 (p1 + x2), x3)

def m_klisterkit_Clone_target_Shot (p0 : List T_target_Shot) : Option ((List T_target_Shot)) :=
  (app 16 ([] : List T_target_Shot) p0).bind fun x4 =>
  some x4

def m_target_all_target_Shot_1 (p0 : T_target_Shot) (p1 : (T_target_Shot → Option Bool)) : Option (Bool) :=
  (p1 p0).bind fun x5 =>
  some (!x5)

def m_slices_IndexFunc_target_Shot_target_Shot (p0 : List T_target_Shot) (p1 : (T_target_Shot → Option Bool)) : Option (Int) :=
  jn (forR 0 (↑p0.length : Int) (fun k2 _ =>
    (idx p0 (↑k2 : Int)).bind fun x22 =>
    (p1 x22).bind fun x30 =>
    if x30 = true then
      esc (some (↑k2 : Int))
    else
      some (.inl ())) ()) fun _ =>
  some (-1)

def m_slices_ContainsFunc_target_Shot_target_Shot (p0 : List T_target_Shot) (p1 : (T_target_Shot → Option Bool)) : Option (Bool) :=
  (m_slices_IndexFunc_target_Shot_target_Shot p0 p1).bind fun x1 =>
  some (decide (0 ≤ x1))

def m_target_all_target_Shot (p0 : List T_target_Shot) (p1 : (T_target_Shot → Option Bool)) : Option (Bool) :=
  (m_slices_ContainsFunc_target_Shot_target_Shot p0 (fun x => m_target_all_target_Shot_1 x p1)).bind fun x13 =>
  some (!x13)

def m_target_within (p0 : Int) (p1 : Int) (p2 : Int) : Option (Bool) :=
  if p1 ≤ p0 then
    some (decide (p0 ≤ p2))
  else
    some false

def m_target_Falls_1 (p0 : T_target_Shot) : Option (Bool) :=
  (m_target_within p0.X (-20000) 20000).bind fun x5 =>
  if x5 = true then
    (m_target_within p0.Y (-20000) 20000).bind fun x17 =>
    some x17
  else
    some false

def m_target_Falls (p0 : Int) (p1 : List T_target_Shot) : Option ((List Int) × Int) :=
  jn (if p0 = 0 then
    if 8 < (↑p1.length : Int) then
      esc (some ([], 2))
    else
      (m_target_all_target_Shot p1 m_target_Falls_1).bind fun x14 =>
      if x14 = true then
        some (.inl ())
      else
        esc (some ([], 3))
  else
    if p0 = 1 then
      if 8 < (↑p1.length : Int) then
        esc (some ([], 2))
      else
        (m_target_all_target_Shot p1 m_target_Falls_1).bind fun x44 =>
        if x44 = true then
          some (.inl ())
        else
          esc (some ([], 3))
    else
      esc (some ([], 3))) fun _ =>
  (idx ([225, 575] : List Int) p0).bind fun x77 =>
  jn (forR 0 (↑p1.length : Int) (fun k110 (a104, x105, l106) =>
    (idx p1 (↑k110 : Int)).bind fun x135 =>
    if x105 = 5 then
      esc (some ([], 9))
    else
      (forR' 1 (5 + 1) (fun k165 x164 =>
        (chk (1 + ↑k165 : Int) 6).bind fun _ =>
        if (a104.get ((1 + ↑k165 : Int).toNat)) = true then
          some x164
        else
          if (w64 ((w64 ((w64 (x135.X - (w64 (2500 * (w64 ((1 + ↑k165 : Int) - 1)))))) * (w64 (x135.X - (w64 (2500 * (w64 ((1 + ↑k165 : Int) - 1)))))))) + (w64 (x135.Y * x135.Y)))) ≤ (w64 (x77 * x77)) then
            some (1 + ↑k165 : Int)
          else
            some x164) 0).bind fun y170 =>
      if 0 < y170 then
        (chk y170 6).bind fun _ =>
        (app 8 l106 [y170]).bind fun x235 =>
        some (.inl ((a104.set y170.toNat true), w64 (x105 + 1), x235))
      else
        (app 8 l106 [y170]).bind fun x254 =>
        some (.inl (a104, x105, x254))) ((Arr.fill 6 false), 0, [])) fun (y271, y272, y273) =>
  some (y273, 0)

def m_target_Loops (p0 : Int) (p1 : List T_target_Shot) : Option (Int × Int) :=
  (m_target_Falls p0 p1).bind fun (x1, x2) =>
  if x2 = 0 then
    (forR' 0 (↑x1.length : Int) (fun k23 x22 =>
      (chk (↑k23 : Int) x1.length).bind fun _ =>
      if 0 < (gd x1 k23) then
        some (w64 (x22 - 1))
      else
        some x22) 5).bind fun y28 =>
    some (y28, 0)
  else
    some (0, x2)

def m_target_Spares (p0 : Int) (p1 : List T_target_Shot) : Option (Int × Int) :=
  (m_target_Falls p0 p1).bind fun (x1, x2) =>
  if x2 = 0 then
    some (max 0 (w64 ((↑x1.length : Int) - 5)), 0)
  else
    some (0, x2)

def m_relay_in (p0 : Int) (p1 : Int) (p2 : Int) : Option (Bool) :=
  if p1 ≤ p0 then
    some (decide (p0 ≤ p2))
  else
    some false

def m_relay_Shot (p0 : List Bool) : Option (T_relay_Shooting × Int) :=
  (m_relay_in (↑p0.length : Int) 5 8).bind fun x5 =>
  if x5 = true then
    jn (forR 0 (↑p0.length : Int) (fun k23 x22 =>
      (idx p0 (↑k23 : Int)).bind fun x45 =>
      if x22 = 0 then
        esc (some ((⟨0, 0, 0⟩ : T_relay_Shooting), 8))
      else
        if x45 = true then
          some (.inl (w64 (x22 - 1)))
        else
          some (.inl x22)) 5) fun y72 =>
    if 0 < y72 then
      some ((⟨w64 ((↑p0.length : Int) - 5), y72, w64 (8 - (↑p0.length : Int))⟩ : T_relay_Shooting), 0)
    else
      some ((⟨w64 ((↑p0.length : Int) - 5), y72, 0⟩ : T_relay_Shooting), 0)
  else
    some ((⟨0, 0, 0⟩ : T_relay_Shooting), 2)

def m_klisterlaw08_awake : Option Bool := some true

def m_klisterlaw08_RelayTargets (p0 : List Int) : Option (Bool) :=
  (m_klisterkit_Of p0).bind fun x1 =>
  (m_klisterkit_Deck_Draw x1 2).bind fun (x16, x17) =>
  (m_klisterkit_Deck_Between x17 5 8).bind fun (x30, x31) =>
  jn (forR 0 x30 (fun k78 (l70, x73, x74, l75) =>
    (m_klisterkit_Deck_Draw (⟨l70, x73, x74⟩ : T_klisterkit_Deck) 5).bind fun (x101, x102) =>
    (m_klisterkit_Deck_Between x102 (-300) 300).bind fun (x115, x116) =>
    (m_klisterkit_Deck_Between x116 (-300) 300).bind fun (x158, x159) =>
    ((m_klisterkit_Clone_target_Shot l75).bind fun x185 =>
    (app 16 x185 [(⟨w64 ((w64 (2500 * x101)) + x158), x115⟩ : T_target_Shot)]).bind fun x203 =>
    some x203).bind fun l176 =>
    (m_target_Falls x16 l176).bind fun (x285, x286) =>
    if x286 = 0 then
      some (.inl (x159.bytes, x159.next, x159.state, l176))
    else
      esc ((m_target_Falls x16 l75).bind fun (x323, x324) =>
      (m_target_Loops x16 l75).bind fun (x338, x339) =>
      (m_target_Spares x16 l75).bind fun (x350, x351) =>
      if x324 = 0 then
        if x339 = 0 then
          if x351 = 0 then
            if (↑x323.length : Int) = (↑l75.length : Int) then
              if (↑l75.length : Int) < 5 then
                some false
              else
                (forR' 0 (↑x323.length : Int) (fun k398 l394 =>
                  (chk (↑k398 : Int) x323.length).bind fun _ =>
                  (app 1 l394 [decide (0 < (gd x323 k398))]).bind fun x434 =>
                  some x434) []).bind fun y403 =>
                (m_relay_Shot y403).bind fun (x469, x470) =>
                if x470 = 0 then
                  if x469.Loops = x338 then
                    if x469.Spares = x350 then
                      if 0 < x338 then
                        if ((decide (0 < x469.Unused)) == (decide ((↑l75.length : Int) < 8))) = true then
                          (m_klisterlaw08_awake).bind fun x497 =>
                          some x497
                        else
                          some false
                      else
                        if ((decide (0 < x469.Unused)) == false) = true then
                          (m_klisterlaw08_awake).bind fun x511 =>
                          some x511
                        else
                          some false
                    else
                      some false
                  else
                    some false
                else
                  some false
            else
              some false
          else
            some false
        else
          some false
      else
        some false)) (x31.bytes, x31.next, x31.state, [])) fun (y533, y534, y535, y536) =>
  (m_target_Falls x16 y536).bind fun (x552, x553) =>
  (m_target_Loops x16 y536).bind fun (x567, x568) =>
  (m_target_Spares x16 y536).bind fun (x579, x580) =>
  if x553 = 0 then
    if x568 = 0 then
      if x580 = 0 then
        if (↑x552.length : Int) = (↑y536.length : Int) then
          if (↑y536.length : Int) < 5 then
            some false
          else
            (forR' 0 (↑x552.length : Int) (fun k627 l623 =>
              (chk (↑k627 : Int) x552.length).bind fun _ =>
              (app 1 l623 [decide (0 < (gd x552 k627))]).bind fun x663 =>
              some x663) []).bind fun y632 =>
            (m_relay_Shot y632).bind fun (x698, x699) =>
            if x699 = 0 then
              if x698.Loops = x567 then
                if x698.Spares = x579 then
                  if 0 < x567 then
                    if ((decide (0 < x698.Unused)) == (decide ((↑y536.length : Int) < 8))) = true then
                      (m_klisterlaw08_awake).bind fun x726 =>
                      some x726
                    else
                      some false
                  else
                    if ((decide (0 < x698.Unused)) == false) = true then
                      (m_klisterlaw08_awake).bind fun x740 =>
                      some x740
                    else
                      some false
                else
                  some false
              else
                some false
            else
              some false
        else
          some false
      else
        some false
    else
      some false
  else
    some false
end Go.Proofs.YtjfffcjjlnmneaaGreat
