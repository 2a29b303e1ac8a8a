/- Models of functions, printed by a program. -/
import Derived.Test.YtnllmignponhdaaVM
namespace Go.Proofs.Ytnllmignponhdaa
open Go.KL
structure T_klisterkit_Deck where
  bytes : List Int
  next : Int
  state : Int
deriving DecidableEq, Inhabited, Repr
structure T_api_Span where
  Lo : Int
  Hi : Int
deriving DecidableEq, Inhabited, Repr
structure T_target_Sheet where
  From : Int
  To : Int
  Loops : T_api_Span
deriving DecidableEq, Inhabited, Repr
structure T_target_Step where
  Kind : Int
  Index : Int
deriving DecidableEq, Inhabited, Repr
structure T_target_link where
  Step : T_target_Step
  from_ : Int
  to_ : Int
  count : (Unit → Option Int)

def m_klisterkit_Of (p0 : List Int) : Option (T_klisterkit_Deck) :=
  some (⟨p0, 0, 17⟩ : T_klisterkit_Deck)

def m_klisterkit_Deck_Draw (p0 : T_klisterkit_Deck) (p1 : Int) : Option (Int × T_klisterkit_Deck) :=
  if p1 ≤ 1 then
    some (0, p0)
  else
    if (↑p0.bytes.length : Int) = 0 then
      some (0, p0)
    else
      (rem p0.next (↑p0.bytes.length : Int)).bind fun x10 =>
      (idx p0.bytes x10).bind fun x13 =>
      (quo p0.next (↑p0.bytes.length : Int)).bind fun x20 =>
      (rem (wu32 ((wu32 ((wu32 ((wu32 (p0.state * 45)) + (wu32 x13))) + (wu32 (77 * (wu32 x20))))) + 1)) 65519).bind fun x32 =>
      if (wu32 x20) = 0 then
        if p1 ≤ 256 then
          (rem (w64 (wu32 x13)) p1).bind fun x42 =>
          some (x42, (⟨p0.bytes, w64 (p0.next + 1), x32⟩ : T_klisterkit_Deck))
        else
          (rem (w64 (wu32 ((wu32 (x32 * 256)) + (wu32 x13)))) p1).bind fun x46 =>
          some (x46, (⟨p0.bytes, w64 (p0.next + 1), x32⟩ : T_klisterkit_Deck))
      else
        (rem (w64 (wu32 ((wu32 (x32 * 256)) + (wu32 x13)))) p1).bind fun x50 =>
        some (x50, (⟨p0.bytes, w64 (p0.next + 1), x32⟩ : T_klisterkit_Deck))

def m_klisterkit_Deck_Between (p0 : T_klisterkit_Deck) (p1 : Int) (p2 : Int) : Option (Int × T_klisterkit_Deck) :=
  (m_klisterkit_Deck_Draw p0 (w64 ((w64 (p2 - p1)) + 1))).bind fun (x2, x3) =>
  some (w64 (p1 + x2), x3)

def m_klisterlaw03_span (p0 : Int) (p1 : Int) : Option (T_api_Span) :=
  some (⟨p0, p1⟩ : T_api_Span)

def m_klisterlaw03_Counted (p0 : T_klisterkit_Deck) (p1 : Int) (p2 : Int) : Option ((List Int) × (List T_target_Sheet) × T_klisterkit_Deck) :=
  (m_klisterkit_Deck_Between p0 1 p1).bind fun (x2, x3) =>
  (forR' 0 x2 (fun k53 (l44, x47, x48, l49) =>
    (m_klisterkit_Deck_Draw (⟨l44, x47, x48⟩ : T_klisterkit_Deck) 6).bind fun (x81, x82) =>
    (app 8 l49 [x81]).bind fun x100 =>
    some (x82.bytes, x82.next, x82.state, x100)) (x3.bytes, x3.next, x3.state, [])).bind fun (y58, y59, y60, y61) =>
  (m_klisterkit_Deck_Draw (⟨y58, y59, y60⟩ : T_klisterkit_Deck) 9).bind fun (x141, x142) =>
  (forR' 0 x141 (fun k203 (l194, x197, x198, l199) =>
    (m_klisterkit_Deck_Draw (⟨l194, x197, x198⟩ : T_klisterkit_Deck) (↑y61.length : Int)).bind fun (x233, x234) =>
    (m_klisterkit_Deck_Between x234 x233 (w64 ((↑y61.length : Int) - 1))).bind fun (x247, x248) =>
    (cut y61 x233 (w64 (x247 + 1))).bind fun x268 =>
    (forR' 0 (↑x268.length : Int) (fun k289 x288 =>
      (idx x268 (↑k289 : Int)).bind fun x317 =>
      some (w64 (x288 + x317))) 0).bind fun y294 =>
    (m_klisterkit_Deck_Draw x248 (w64 (p2 + 1))).bind fun (x346, x347) =>
    (m_klisterkit_Deck_Draw x347 (w64 (p2 + 1))).bind fun (x361, x362) =>
    (m_klisterlaw03_span (max 0 (w64 (y294 - x346))) (min 72 (w64 (y294 + x361)))).bind fun x375 =>
    (app 32 l199 [(⟨x233, x247, x375⟩ : T_target_Sheet)]).bind fun x393 =>
    some (x362.bytes, x362.next, x362.state, x393)) (x142.bytes, x142.next, x142.state, [])).bind fun (y208, y209, y210, y211) =>
  some (y61, y211, (⟨y208, y209, y210⟩ : T_klisterkit_Deck))

def m_klisterkit_Clone_target_Sheet (p0 : List T_target_Sheet) : Option ((List T_target_Sheet)) :=
  (app 32 ([] : List T_target_Sheet) p0).bind fun x4 =>
  some x4

def m_klisterkit_Clone_int (p0 : List Int) : Option ((List Int)) :=
  (app 8 ([] : List Int) p0).bind fun x4 =>
  some x4

def m_slices_Reverse_int_int (p0 : List Int) : Option ((List Int)) :=
  iter (fun (l11, x12, x13) =>
    if x12 < x13 then
      (chk x13 l11.length).bind fun _ =>
      (chk x12 l11.length).bind fun _ =>
      (chk x13 (List.set l11 x12.toNat (gd l11 x13.toNat)).length).bind fun _ =>
      some (.inl ((List.set (List.set l11 x12.toNat (gd l11 x13.toNat)) x13.toNat (gd l11 x12.toNat)), w64 (x12 + 1), w64 (x13 - 1)))
    else
      esc (some l11)) big (p0, 0, w64 ((↑p0.length : Int) - 1))

def m_target_within (p0 : Int) (p1 : Int) (p2 : Int) : Option (Bool) :=
  if p1 ≤ p0 then
    some (decide (p0 ≤ p2))
  else
    some false

def m_target_CheckSheets_1 (p0 : T_target_Sheet) (p1 : Int) : Option (Bool) :=
  (m_target_within p0.From 0 p0.To).bind fun x5 =>
  if x5 = true then
    some (decide (p0.To < p1))
  else
    some false

def m_target_all_target_Sheet_1 (p0 : T_target_Sheet) (p1 : (T_target_Sheet → Option Bool)) : Option (Bool) :=
  (p1 p0).bind fun x5 =>
  some (!x5)

def m_slices_IndexFunc_target_Sheet_target_Sheet (p0 : List T_target_Sheet) (p1 : (T_target_Sheet → Option Bool)) : Option (Int) :=
  jn (forR 0 (↑p0.length : Int) (fun k2 _ =>
    (idx p0 (↑k2 : Int)).bind fun x22 =>
    (p1 x22).bind fun x30 =>
    if x30 = true then
      esc (some (↑k2 : Int))
    else
      some (.inl ())) ()) fun _ =>
  some (-1)

def m_slices_ContainsFunc_target_Sheet_target_Sheet (p0 : List T_target_Sheet) (p1 : (T_target_Sheet → Option Bool)) : Option (Bool) :=
  (m_slices_IndexFunc_target_Sheet_target_Sheet p0 p1).bind fun x1 =>
  some (decide (0 ≤ x1))

def m_target_all_target_Sheet (p0 : List T_target_Sheet) (p1 : (T_target_Sheet → Option Bool)) : Option (Bool) :=
  (m_slices_ContainsFunc_target_Sheet_target_Sheet p0 (fun x => m_target_all_target_Sheet_1 x p1)).bind fun x13 =>
  some (!x13)

def m_target_CheckSheets_2 (p0 : T_target_Sheet) : Option (Bool) :=
  (m_target_within p0.Loops.Lo 0 p0.Loops.Hi).bind fun x5 =>
  if x5 = true then
    some (decide (p0.Loops.Hi ≤ 72))
  else
    some false

def m_target_CheckSheets (p0 : Int) (p1 : List T_target_Sheet) : Option (Int) :=
  (m_target_within p0 1 8).bind fun x10 =>
  if x10 = true then
    if 20 < (↑p1.length : Int) then
      some 2
    else
      (m_target_all_target_Sheet p1 (fun x => m_target_CheckSheets_1 x p0)).bind fun x29 =>
      if x29 = true then
        (m_target_all_target_Sheet p1 m_target_CheckSheets_2).bind fun x43 =>
        if x43 = true then
          some 0
        else
          some 3
      else
        some 1
  else
    some 2

def m_target_links_1_1 (p0 : Int) : Option (Int) :=
  some p0

def m_target_links_1 (p0 : Int) : Option ((Unit → Option Int)) :=
  some (fun _ => m_target_links_1_1 p0)

def m_target_links (p0 : Int) (p1 : List T_target_Sheet) (p2 : List Int) : Option ((List T_target_link)) :=
  (forR' 0 (↑p1.length : Int) (fun k22 l17 =>
    (idx p1 (↑k22 : Int)).bind fun x49 =>
    (m_target_links_1 x49.Loops.Hi).bind fun x66 =>
    (m_target_links_1 (w64 (-x49.Loops.Lo))).bind fun x81 =>
    (app 40 l17 [(⟨(⟨0, (↑k22 : Int)⟩ : T_target_Step), x49.From, w64 (x49.To + 1), x66⟩ : T_target_link), (⟨(⟨1, (↑k22 : Int)⟩ : T_target_Step), w64 (x49.To + 1), x49.From, x81⟩ : T_target_link)]).bind fun x103 =>
    some x103) []).bind fun y27 =>
  (forR' 0 p0 (fun k159 l155 =>
    (m_target_links_1 9).bind fun x182 =>
    (m_target_links_1 0).bind fun x197 =>
    (app 40 l155 [(⟨(⟨2, (↑k159 : Int)⟩ : T_target_Step), (↑k159 : Int), (↑(k159 + 1) : Int), x182⟩ : T_target_link), (⟨(⟨3, (↑k159 : Int)⟩ : T_target_Step), (↑(k159 + 1) : Int), (↑k159 : Int), x197⟩ : T_target_link)]).bind fun x219 =>
    some x219) y27).bind fun y164 =>
  (forR' 0 (↑p2.length : Int) (fun k273 l269 =>
    (idx p2 (↑k273 : Int)).bind fun x296 =>
    (m_target_links_1 (w64 (-x296))).bind fun x306 =>
    (app 40 l269 [(⟨(⟨4, (↑k273 : Int)⟩ : T_target_Step), (↑(k273 + 1) : Int), (↑k273 : Int), x306⟩ : T_target_link)]).bind fun x327 =>
    some x327) y164).bind fun y278 =>
  some y278

def m_target_distances (p0 : Int) (p1 : List T_target_link) : Option ((Arr Int 81) × Bool) :=
  (forR' 0 9 (fun k17 a16 =>
    (forR' 0 9 (fun k45 a44 =>
      if (↑k17 : Int) = (↑k45 : Int) then
        some a44
      else
        (chk (↑k17 : Int) 9).bind fun _ =>
        (chk (↑k45 : Int) 9).bind fun _ =>
        some (a44.set (k17 * 9 + k45) 1048576)) a16).bind fun y50 =>
    some y50) (Arr.fill 81 0)).bind fun y22 =>
  (forR' 0 (↑p1.length : Int) (fun k117 a116 =>
    (idx p1 (↑k117 : Int)).bind fun x140 =>
    (chk x140.from_ 9).bind fun _ =>
    (chk x140.to_ 9).bind fun _ =>
    (x140.count ()).bind fun x171 =>
    some (a116.set (x140.from_.toNat * 9 + x140.to_.toNat) (min (a116.get (x140.from_.toNat * 9 + x140.to_.toNat)) x171))) y22).bind fun y122 =>
  (forR' 0 (w64 (p0 + 1)) (fun k206 a205 =>
    (forR' 0 (w64 (p0 + 1)) (fun k234 a233 =>
      (forR' 0 (w64 (p0 + 1)) (fun k265 a264 =>
        (chk (↑k234 : Int) 9).bind fun _ =>
        (chk (↑k265 : Int) 9).bind fun _ =>
        (chk (↑k206 : Int) 9).bind fun _ =>
        some (a264.set (k234 * 9 + k265) (min (a264.get (k234 * 9 + k265)) (w64 ((a264.get (k234 * 9 + k206)) + (a264.get (k206 * 9 + k265))))))) a233).bind fun y270 =>
      some y270) a205).bind fun y239 =>
    some y239) y122).bind fun y211 =>
  jn (forR 0 (w64 (p0 + 1)) (fun k360 _ =>
    (chk (↑k360 : Int) 9).bind fun _ =>
    if (y211.get (k360 * 9 + k360)) < 0 then
      esc (some (y211, false))
    else
      some (.inl ())) ()) fun _ =>
  some (y211, true)

def m_target_counted (p0 : Int) (p1 : List T_target_Sheet) : Option ((Arr Int 81) × Int) :=
  (m_target_CheckSheets p0 p1).bind fun x6 =>
  if x6 = 0 then
    (m_target_links p0 p1 []).bind fun x19 =>
    (m_target_distances p0 x19).bind fun (x39, x40) =>
    if x40 = true then
      some (x39, 0)
    else
      some (x39, 7)
  else
    some ((Arr.fill 81 0), x6)

def m_target_Skied (p0 : Int) (p1 : List T_target_Sheet) : Option ((List T_api_Span) × Int) :=
  (m_target_counted p0 p1).bind fun (x1, x2) =>
  if x2 = 0 then
    (forR' 0 p0 (fun k39 l35 =>
      (chk (↑(k39 + 1) : Int) 9).bind fun _ =>
      (chk (↑k39 : Int) 9).bind fun _ =>
      (app 16 l35 [(⟨w64 (-(x1.get ((k39 + 1) * 9 + k39))), (x1.get (k39 * 9 + (k39 + 1)))⟩ : T_api_Span)]).bind fun x75 =>
      some x75) []).bind fun y44 =>
    some (y44, 0)
  else
    some ([], x2)

def m_klisterlaw03_wide (p0 : T_api_Span) (p1 : T_api_Span) : Option (Bool) :=
  if p0.Lo ≤ p1.Lo then
    some (decide (p1.Hi ≤ p0.Hi))
  else
    some false

def m_target_all_int_1 (p0 : Int) (p1 : (Int → Option Bool)) : Option (Bool) :=
  (p1 p0).bind fun x1 =>
  some (!x1)

def m_slices_IndexFunc_int_int (p0 : List Int) (p1 : (Int → Option Bool)) : Option (Int) :=
  jn (forR 0 (↑p0.length : Int) (fun k2 _ =>
    (idx p0 (↑k2 : Int)).bind fun x22 =>
    (p1 x22).bind fun x30 =>
    if x30 = true then
      esc (some (↑k2 : Int))
    else
      some (.inl ())) ()) fun _ =>
  some (-1)

def m_slices_ContainsFunc_int_int (p0 : List Int) (p1 : (Int → Option Bool)) : Option (Bool) :=
  (m_slices_IndexFunc_int_int p0 p1).bind fun x1 =>
  some (decide (0 ≤ x1))

def m_target_all_int (p0 : List Int) (p1 : (Int → Option Bool)) : Option (Bool) :=
  (m_slices_ContainsFunc_int_int p0 (fun x => m_target_all_int_1 x p1)).bind fun x13 =>
  some (!x13)

def m_target_due_1 (p0 : Int) : Option (Bool) :=
  (m_target_within p0 0 5).bind fun x1 =>
  some x1

def m_target_due (p0 : List Int) (p1 : List T_target_Sheet) : Option (Int) :=
  (m_target_within (↑p0.length : Int) 1 8).bind fun x1 =>
  if x1 = true then
    (m_target_all_int p0 m_target_due_1).bind fun x15 =>
    if x15 = true then
      (m_target_CheckSheets (↑p0.length : Int) p1).bind fun x29 =>
      some x29
    else
      some 3
  else
    some 2

def m_target_Few (p0 : List Int) (p1 : List T_target_Sheet) : Option (Bool × Int) :=
  (m_target_due p0 p1).bind fun x1 =>
  if x1 = 0 then
    (m_target_links (↑p0.length : Int) p1 p0).bind fun x15 =>
    (m_target_distances (↑p0.length : Int) x15).bind fun (x35, x36) =>
    some (!x36, 0)
  else
    some (false, x1)

def m_klisterlaw03_awake : Option Bool := some true

def m_klisterlaw03_TargetWider (p0 : List Int) (p1 : List Int) : Option (Bool) :=
  (m_klisterkit_Of p0).bind fun x1 =>
  (m_klisterlaw03_Counted x1 7 2).bind fun (x16, x17, x18) =>
  (m_klisterkit_Of p1).bind fun x39 =>
  (m_klisterkit_Clone_target_Sheet x17).bind fun x59 =>
  (forR' 0 (↑x17.length : Int) (fun k113 (l103, x106, x107, l108, l109) =>
    (idx x17 (↑k113 : Int)).bind fun x149 =>
    ((m_klisterkit_Deck_Draw (⟨l103, x106, x107⟩ : T_klisterkit_Deck) 3).bind fun (x174, x175) =>
    (m_klisterkit_Deck_Draw x175 3).bind fun (x189, x190) =>
    (m_klisterlaw03_span (max 0 (w64 (x149.Loops.Lo - x174))) (min 72 (w64 (x149.Loops.Hi + x189)))).bind fun x203 =>
    (chk (↑k113 : Int) l108.length).bind fun _ =>
    some (x190.bytes, x190.next, x190.state, (List.set l108 k113 (⟨(gd l108 k113).From, (gd l108 k113).To, x203⟩ : T_target_Sheet)))).bind fun (l165, x168, x169, l170) =>
    (app 32 l109 [(⟨w64 ((w64 ((↑x16.length : Int) - 1)) - x149.To), w64 ((w64 ((↑x16.length : Int) - 1)) - x149.From), x149.Loops⟩ : T_target_Sheet)]).bind fun x698 =>
    some (l165, x168, x169, l170, x698)) (x39.bytes, x39.next, x39.state, x59, [])).bind fun (y118, y119, y120, y121, y122) =>
  (forR' 0 (↑x16.length : Int) (fun k783 (l774, x777, x778, l779) =>
    (m_klisterkit_Deck_Draw (⟨l774, x777, x778⟩ : T_klisterkit_Deck) 6).bind fun (x814, x815) =>
    (app 8 l779 [x814]).bind fun x833 =>
    some (x815.bytes, x815.next, x815.state, x833)) (y118, y119, y120, [])).bind fun (y788, y789, y790, y791) =>
  (m_klisterkit_Clone_int y791).bind fun x882 =>
  (m_slices_Reverse_int_int x882).bind fun x895 =>
  (m_target_Skied (↑x16.length : Int) x17).bind fun (x912, x913) =>
  (m_target_Skied (↑x16.length : Int) y121).bind fun (x931, x932) =>
  (m_target_Skied (↑x16.length : Int) y122).bind fun (x950, x951) =>
  if x913 = 0 then
    if x932 = 0 then
      if x951 = 0 then
        if (↑x912.length : Int) = (↑x16.length : Int) then
          if (↑x931.length : Int) = (↑x16.length : Int) then
            if (↑x950.length : Int) = (↑x16.length : Int) then
              jn (forR 0 (↑x16.length : Int) (fun k992 _ =>
                (chk (↑k992 : Int) x931.length).bind fun _ =>
                (chk (↑k992 : Int) x912.length).bind fun _ =>
                (m_klisterlaw03_wide (gd x931 k992) (gd x912 k992)).bind fun x1031 =>
                if x1031 = true then
                  (chk (w64 ((w64 ((↑x16.length : Int) - 1)) - (↑k992 : Int))) x950.length).bind fun _ =>
                  if (gd x950 (w64 ((w64 ((↑x16.length : Int) - 1)) - (↑k992 : Int))).toNat) = (gd x912 k992) then
                    some (.inl ())
                  else
                    esc (some false)
                else
                  esc (some false)) ()) fun _ =>
              if 0 < (↑x17.length : Int) then
                (cut x17 1 (↑(x17.length) : Int)).bind fun x1080 =>
                (m_target_Skied (↑x16.length : Int) x1080).bind fun (x1098, x1099) =>
                if x1099 = 0 then
                  if (↑x1098.length : Int) = (↑x16.length : Int) then
                    jn (forR 0 (↑x16.length : Int) (fun k1118 _ =>
                      (chk (↑k1118 : Int) x1098.length).bind fun _ =>
                      (chk (↑k1118 : Int) x912.length).bind fun _ =>
                      (m_klisterlaw03_wide (gd x1098 k1118) (gd x912 k1118)).bind fun x1155 =>
                      if x1155 = true then
                        some (.inl ())
                      else
                        esc (some false)) ()) fun _ =>
                    (m_target_Few y791 x17).bind fun (x1200, x1201) =>
                    (m_target_Few y791 y121).bind fun (x1219, x1220) =>
                    (m_target_Few x895 y122).bind fun (x1242, x1243) =>
                    if x1201 = 0 then
                      if x1220 = 0 then
                        if x1243 = 0 then
                          if x1200 = true then
                            if (x1200 == x1242) = true then
                              (m_klisterlaw03_awake).bind fun x1271 =>
                              some x1271
                            else
                              some false
                          else
                            if x1219 = true then
                              some false
                            else
                              if (x1200 == x1242) = true then
                                (m_klisterlaw03_awake).bind fun x1288 =>
                                some x1288
                              else
                                some false
                        else
                          some false
                      else
                        some false
                    else
                      some false
                  else
                    some false
                else
                  some false
              else
                (m_target_Few y791 x17).bind fun (x1319, x1320) =>
                (m_target_Few y791 y121).bind fun (x1336, x1337) =>
                (m_target_Few x895 y122).bind fun (x1357, x1358) =>
                if x1320 = 0 then
                  if x1337 = 0 then
                    if x1358 = 0 then
                      if x1319 = true then
                        if (x1319 == x1357) = true then
                          (m_klisterlaw03_awake).bind fun x1386 =>
                          some x1386
                        else
                          some false
                      else
                        if x1336 = true then
                          some false
                        else
                          if (x1319 == x1357) = true then
                            (m_klisterlaw03_awake).bind fun x1403 =>
                            some x1403
                          else
                            some false
                    else
                      some false
                  else
                    some false
                else
                  some false
            else
              some false
          else
            some false
        else
          some false
      else
        some false
    else
      some false
  else
    some false
end Go.Proofs.Ytnllmignponhdaa
