/- Models of functions, printed by a program. -/
import Derived.Test.YtaoaelhmiggepaaVN
namespace Go.Proofs.Ytaoaelhmiggepaa
open Go.KL
structure T_klisterkit_Deck where
  bytes : List Int
  next : Int
  state : Int
deriving DecidableEq, Inhabited, Repr
structure T_api_Span where
  Lo : Int
  Hi : Int
deriving DecidableEq, Inhabited, Repr
structure T_target_Sheet where
  From : Int
  To : Int
  Loops : T_api_Span
deriving DecidableEq, Inhabited, Repr
structure T_target_Step where
  Kind : Int
  Index : Int
deriving DecidableEq, Inhabited, Repr
structure T_target_link where
  Step : T_target_Step
  from_ : Int
  to_ : Int
  count : (Unit → Option Int)

def m_klisterkit_Of (p0 : List Int) : Option (T_klisterkit_Deck) :=
  some (⟨p0, 0, 17⟩ : T_klisterkit_Deck)

def m_klisterkit_Deck_Draw (p0 : T_klisterkit_Deck) (p1 : Int) : Option (Int × T_klisterkit_Deck) :=
  if p1 ≤ 1 then
    some (0, p0)
  else
    if (↑p0.bytes.length : Int) = 0 then
      some (0, p0)
    else
      (rem p0.next (↑p0.bytes.length : Int)).bind fun x10 =>
      (idx p0.bytes x10).bind fun x13 =>
      (quo p0.next (↑p0.bytes.length : Int)).bind fun x20 =>
      (rem (wu32 ((wu32 ((wu32 ((wu32 (p0.state * 45)) + (wu32 x13))) + (wu32 (77 * (wu32 x20))))) + 1)) 65519).bind fun x32 =>
      if (wu32 x20) = 0 then
        if p1 ≤ 256 then
          (rem (w64 (wu32 x13)) p1).bind fun x42 =>
          some (x42, (⟨p0.bytes, w64 (p0.next + 1), x32⟩ : T_klisterkit_Deck))
        else
          (rem (w64 (wu32 ((wu32 (x32 * 256)) + (wu32 x13)))) p1).bind fun x46 =>
          some (x46, (⟨p0.bytes, w64 (p0.next + 1), x32⟩ : T_klisterkit_Deck))
      else
        (rem (w64 (wu32 ((wu32 (x32 * 256)) + (wu32 x13)))) p1).bind fun x50 =>
        some (x50, (⟨p0.bytes, w64 (p0.next + 1), x32⟩ : T_klisterkit_Deck))

def m_klisterkit_Deck_Between (p0 : T_klisterkit_Deck) (p1 : Int) (p2 : Int) : Option (Int × T_klisterkit_Deck) :=
  (m_klisterkit_Deck_Draw p0 (w64 ((w64 (p2 - p1)) + 1))).bind fun (x2, x3) =>
  some (w64 (p1 + x2), x3)

def m_klisterlaw03_span (p0 : Int) (p1 : Int) : Option (T_api_Span) :=
  some (⟨p0, p1⟩ : T_api_Span)

def m_klisterlaw03_Counted (p0 : T_klisterkit_Deck) (p1 : Int) (p2 : Int) : Option ((List Int) × (List T_target_Sheet) × T_klisterkit_Deck) :=
  (m_klisterkit_Deck_Between p0 1 p1).bind fun (x2, x3) =>
  (forR' 0 x2 (fun k53 (l44, x47, x48, l49) =>
    (m_klisterkit_Deck_Draw (⟨l44, x47, x48⟩ : T_klisterkit_Deck) 6).bind fun (x81, x82) =>
    (app 8 l49 [x81]).bind fun x100 =>
    some (x82.bytes, x82.next, x82.state, x100)) (x3.bytes, x3.next, x3.state, [])).bind fun (y58, y59, y60, y61) =>
  (m_klisterkit_Deck_Draw (⟨y58, y59, y60⟩ : T_klisterkit_Deck) 9).bind fun (x141, x142) =>
  (forR' 0 x141 (fun k203 (l194, x197, x198, l199) =>
    (m_klisterkit_Deck_Draw (⟨l194, x197, x198⟩ : T_klisterkit_Deck) (↑y61.length : Int)).bind fun (x233, x234) =>
    (m_klisterkit_Deck_Between x234 x233 (w64 ((↑y61.length : Int) - 1))).bind fun (x247, x248) =>
    (cut y61 x233 (w64 (x247 + 1))).bind fun x268 =>
    (forR' 0 (↑x268.length : Int) (fun k289 x288 =>
      (idx x268 (↑k289 : Int)).bind fun x317 =>
      some (w64 (x288 + x317))) 0).bind fun y294 =>
    (m_klisterkit_Deck_Draw x248 (w64 (p2 + 1))).bind fun (x346, x347) =>
    (m_klisterkit_Deck_Draw x347 (w64 (p2 + 1))).bind fun (x361, x362) =>
    (m_klisterlaw03_span (max 0 (w64 (y294 - x346))) (min 72 (w64 (y294 + x361)))).bind fun x375 =>
    (app 32 l199 [(⟨x233, x247, x375⟩ : T_target_Sheet)]).bind fun x393 =>
    some (x362.bytes, x362.next, x362.state, x393)) (x142.bytes, x142.next, x142.state, [])).bind fun (y208, y209, y210, y211) =>
  some (y61, y211, (⟨y208, y209, y210⟩ : T_klisterkit_Deck))

def m_target_within (p0 : Int) (p1 : Int) (p2 : Int) : Option (Bool) :=
  if p1 ≤ p0 then
    some (decide (p0 ≤ p2))
  else
    some false

def m_target_all_int_1 (p0 : Int) (p1 : (Int → Option Bool)) : Option (Bool) :=
  (p1 p0).bind fun x1 =>
  some (!x1)

def m_slices_IndexFunc_int_int (p0 : List Int) (p1 : (Int → Option Bool)) : Option (Int) :=
  jn (forR 0 (↑p0.length : Int) (fun k2 _ =>
    (idx p0 (↑k2 : Int)).bind fun x22 =>
    (p1 x22).bind fun x30 =>
    if x30 = true then
      esc (some (↑k2 : Int))
    else
      some (.inl ())) ()) fun _ =>
  some (-1)

def m_slices_ContainsFunc_int_int (p0 : List Int) (p1 : (Int → Option Bool)) : Option (Bool) :=
  (m_slices_IndexFunc_int_int p0 p1).bind fun x1 =>
  some (decide (0 ≤ x1))

def m_target_all_int (p0 : List Int) (p1 : (Int → Option Bool)) : Option (Bool) :=
  (m_slices_ContainsFunc_int_int p0 (fun x => m_target_all_int_1 x p1)).bind fun x13 =>
  some (!x13)

def m_target_due_1 (p0 : Int) : Option (Bool) :=
  (m_target_within p0 0 5).bind fun x1 =>
  some x1

def m_target_CheckSheets_1 (p0 : T_target_Sheet) (p1 : Int) : Option (Bool) :=
  (m_target_within p0.From 0 p0.To).bind fun x5 =>
  if x5 = true then
    some (decide (p0.To < p1))
  else
    some false

def m_target_all_target_Sheet_1 (p0 : T_target_Sheet) (p1 : (T_target_Sheet → Option Bool)) : Option (Bool) :=
  (p1 p0).bind fun x5 =>
  some (!x5)

def m_slices_IndexFunc_target_Sheet_target_Sheet (p0 : List T_target_Sheet) (p1 : (T_target_Sheet → Option Bool)) : Option (Int) :=
  jn (forR 0 (↑p0.length : Int) (fun k2 _ =>
    (idx p0 (↑k2 : Int)).bind fun x22 =>
    (p1 x22).bind fun x30 =>
    if x30 = true then
      esc (some (↑k2 : Int))
    else
      some (.inl ())) ()) fun _ =>
  some (-1)

def m_slices_ContainsFunc_target_Sheet_target_Sheet (p0 : List T_target_Sheet) (p1 : (T_target_Sheet → Option Bool)) : Option (Bool) :=
  (m_slices_IndexFunc_target_Sheet_target_Sheet p0 p1).bind fun x1 =>
  some (decide (0 ≤ x1))

def m_target_all_target_Sheet (p0 : List T_target_Sheet) (p1 : (T_target_Sheet → Option Bool)) : Option (Bool) :=
  (m_slices_ContainsFunc_target_Sheet_target_Sheet p0 (fun x => m_target_all_target_Sheet_1 x p1)).bind fun x13 =>
  some (!x13)

def m_target_CheckSheets_2 (p0 : T_target_Sheet) : Option (Bool) :=
  (m_target_within p0.Loops.Lo 0 p0.Loops.Hi).bind fun x5 =>
  if x5 = true then
    some (decide (p0.Loops.Hi ≤ 72))
  else
    some false

def m_target_CheckSheets (p0 : Int) (p1 : List T_target_Sheet) : Option (Int) :=
  (m_target_within p0 1 8).bind fun x10 =>
  if x10 = true then
    if 20 < (↑p1.length : Int) then
      some 2
    else
      (m_target_all_target_Sheet p1 (fun x => m_target_CheckSheets_1 x p0)).bind fun x29 =>
      if x29 = true then
        (m_target_all_target_Sheet p1 m_target_CheckSheets_2).bind fun x43 =>
        if x43 = true then
          some 0
        else
          some 3
      else
        some 1
  else
    some 2

def m_target_due (p0 : List Int) (p1 : List T_target_Sheet) : Option (Int) :=
  (m_target_within (↑p0.length : Int) 1 8).bind fun x1 =>
  if x1 = true then
    (m_target_all_int p0 m_target_due_1).bind fun x15 =>
    if x15 = true then
      (m_target_CheckSheets (↑p0.length : Int) p1).bind fun x29 =>
      some x29
    else
      some 3
  else
    some 2

def m_target_links_1_1 (p0 : Int) : Option (Int) :=
  some p0

def m_target_links_1 (p0 : Int) : Option ((Unit → Option Int)) :=
  some (fun _ => m_target_links_1_1 p0)

def m_target_links (p0 : Int) (p1 : List T_target_Sheet) (p2 : List Int) : Option ((List T_target_link)) :=
  (forR' 0 (↑p1.length : Int) (fun k22 l17 =>
    (idx p1 (↑k22 : Int)).bind fun x49 =>
    (m_target_links_1 x49.Loops.Hi).bind fun x66 =>
    (m_target_links_1 (w64 (-x49.Loops.Lo))).bind fun x81 =>
    (app 40 l17 [(⟨(⟨0, (↑k22 : Int)⟩ : T_target_Step), x49.From, w64 (x49.To + 1), x66⟩ : T_target_link), (⟨(⟨1, (↑k22 : Int)⟩ : T_target_Step), w64 (x49.To + 1), x49.From, x81⟩ : T_target_link)]).bind fun x103 =>
    some x103) []).bind fun y27 =>
  (forR' 0 p0 (fun k159 l155 =>
    (m_target_links_1 9).bind fun x182 =>
    (m_target_links_1 0).bind fun x197 =>
    (app 40 l155 [(⟨(⟨2, (↑k159 : Int)⟩ : T_target_Step), (↑k159 : Int), (↑(k159 + 1) : Int), x182⟩ : T_target_link), (⟨(⟨3, (↑k159 : Int)⟩ : T_target_Step), (↑(k159 + 1) : Int), (↑k159 : Int), x197⟩ : T_target_link)]).bind fun x219 =>
    some x219) y27).bind fun y164 =>
  (forR' 0 (↑p2.length : Int) (fun k273 l269 =>
    (idx p2 (↑k273 : Int)).bind fun x296 =>
    (m_target_links_1 (w64 (-x296))).bind fun x306 =>
    (app 40 l269 [(⟨(⟨4, (↑k273 : Int)⟩ : T_target_Step), (↑(k273 + 1) : Int), (↑k273 : Int), x306⟩ : T_target_link)]).bind fun x327 =>
    some x327) y164).bind fun y278 =>
  some y278

def m_target_distances (p0 : Int) (p1 : List T_target_link) : Option ((Arr Int 81) × Bool) :=
  (forR' 0 9 (fun k17 a16 =>
    (forR' 0 9 (fun k45 a44 =>
      if (↑k17 : Int) = (↑k45 : Int) then
        some a44
      else
        (chk (↑k17 : Int) 9).bind fun _ =>
        (chk (↑k45 : Int) 9).bind fun _ =>
        some (a44.set (k17 * 9 + k45) 1048576)) a16).bind fun y50 =>
    some y50) (Arr.fill 81 0)).bind fun y22 =>
  (forR' 0 (↑p1.length : Int) (fun k117 a116 =>
    (idx p1 (↑k117 : Int)).bind fun x140 =>
    (chk x140.from_ 9).bind fun _ =>
    (chk x140.to_ 9).bind fun _ =>
    (x140.count ()).bind fun x171 =>
    some (a116.set (x140.from_.toNat * 9 + x140.to_.toNat) (min (a116.get (x140.from_.toNat * 9 + x140.to_.toNat)) x171))) y22).bind fun y122 =>
  (forR' 0 (w64 (p0 + 1)) (fun k206 a205 =>
    (forR' 0 (w64 (p0 + 1)) (fun k234 a233 =>
      (forR' 0 (w64 (p0 + 1)) (fun k265 a264 =>
        (chk (↑k234 : Int) 9).bind fun _ =>
        (chk (↑k265 : Int) 9).bind fun _ =>
        (chk (↑k206 : Int) 9).bind fun _ =>
        some (a264.set (k234 * 9 + k265) (min (a264.get (k234 * 9 + k265)) (w64 ((a264.get (k234 * 9 + k206)) + (a264.get (k206 * 9 + k265))))))) a233).bind fun y270 =>
      some y270) a205).bind fun y239 =>
    some y239) y122).bind fun y211 =>
  jn (forR 0 (w64 (p0 + 1)) (fun k360 _ =>
    (chk (↑k360 : Int) 9).bind fun _ =>
    if (y211.get (k360 * 9 + k360)) < 0 then
      esc (some (y211, false))
    else
      some (.inl ())) ()) fun _ =>
  some (y211, true)

def m_target_Few (p0 : List Int) (p1 : List T_target_Sheet) : Option (Bool × Int) :=
  (m_target_due p0 p1).bind fun x1 =>
  if x1 = 0 then
    (m_target_links (↑p0.length : Int) p1 p0).bind fun x15 =>
    (m_target_distances (↑p0.length : Int) x15).bind fun (x35, x36) =>
    some (!x36, 0)
  else
    some (false, x1)

def m_target_RoundShows_1 (p0 : T_target_link) (p1 : T_target_Step) : Option (Bool) :=
  some (decide (p0.Step = p1))

def m_slices_IndexFunc_target_link_target_link (p0 : List T_target_link) (p1 : (T_target_link → Option Bool)) : Option (Int) :=
  jn (forR 0 (↑p0.length : Int) (fun k2 _ =>
    (idx p0 (↑k2 : Int)).bind fun x22 =>
    (p1 x22).bind fun x34 =>
    if x34 = true then
      esc (some (↑k2 : Int))
    else
      some (.inl ())) ()) fun _ =>
  some (-1)

def m_target_RoundShows (p0 : List Int) (p1 : List T_target_Sheet) (p2 : List T_target_Step) : Option (Int × Int) :=
  (m_target_due p0 p1).bind fun x1 =>
  if x1 = 0 then
    (m_target_within (↑p2.length : Int) 1 40).bind fun x13 =>
    if x13 = true then
      (m_target_links (↑p0.length : Int) p1 p0).bind fun x29 =>
      jn (forR 0 (↑p2.length : Int) (fun k71 l66 =>
        (idx p2 (↑k71 : Int)).bind fun x95 =>
        (m_slices_IndexFunc_target_link_target_link x29 (fun x => m_target_RoundShows_1 x x95)).bind fun x122 =>
        if x122 < 0 then
          esc (some (0, 1))
        else
          (idx x29 x122).bind fun x138 =>
          (app 40 l66 [x138]).bind fun x156 =>
          some (.inl x156)) []) fun y176 =>
      jn (forR 0 (↑y176.length : Int) (fun k202 x201 =>
        (idx y176 (↑k202 : Int)).bind fun x223 =>
        (rem (↑(k202 + 1) : Int) (↑y176.length : Int)).bind fun x248 =>
        (idx y176 x248).bind fun x251 =>
        if x223.to_ = x251.from_ then
          (x223.count ()).bind fun x264 =>
          some (.inl (w64 (x201 + x264)))
        else
          esc (some (0, 8))) 0) fun y283 =>
      if 0 ≤ y283 then
        some (0, 8)
      else
        some (y283, 0)
    else
      some (0, 2)
  else
    some (0, x1)

def m_slices_Reverse_target_Step_target_Step (p0 : List T_target_Step) : Option ((List T_target_Step)) :=
  iter (fun (l11, x12, x13) =>
    if x12 < x13 then
      (chk x13 l11.length).bind fun _ =>
      (chk x12 l11.length).bind fun _ =>
      (chk x13 (List.set l11 x12.toNat (gd l11 x13.toNat)).length).bind fun _ =>
      some (.inl ((List.set (List.set l11 x12.toNat (gd l11 x13.toNat)) x13.toNat (gd l11 x12.toNat)), w64 (x12 + 1), w64 (x13 - 1)))
    else
      esc (some l11)) big (p0, 0, w64 ((↑p0.length : Int) - 1))

def m_target_round (p0 : Int) (p1 : List T_target_link) : Option ((List T_target_Step)) :=
  jn (forR 0 (w64 (p0 + 2)) (fun k25 (a22, a23, x24) =>
    (forR' 0 (↑p1.length : Int) (fun k62 (a59, a60, x61) =>
      ((idx p1 (↑k62 : Int)).bind fun x97 =>
      (chk x97.from_ 9).bind fun _ =>
      (chk x97.to_ 9).bind fun _ =>
      (x97.count ()).bind fun x129 =>
      if (w64 ((a60.get x97.from_.toNat) + x129)) < (a60.get x97.to_.toNat) then
        (x97.count ()).bind fun x142 =>
        some ((a59.set x97.to_.toNat (↑k62 : Int)), (a60.set x97.to_.toNat (w64 ((a60.get x97.from_.toNat) + x142))), x97.to_)
      else
        some (a59, a60, x61)).bind fun (a91, a92, x93) =>
      some (a91, a92, x93)) (a22, a23, -1)).bind fun (y67, y68, y69) =>
    if y69 < 0 then
      esc (some [])
    else
      some (.inl (y67, y68, y69))) ((Arr.fill 9 0), (Arr.fill 9 0), -1)) fun (y416, y417, y418) =>
  if y418 < 0 then
    some []
  else
    (forR' 0 (w64 (p0 + 1)) (fun k441 x440 =>
      (chk x440 9).bind fun _ =>
      (idx p1 (y416.get x440.toNat)).bind fun x466 =>
      some x466.from_) y418).bind fun y446 =>
    (iter (fun (l513, x517) =>
      (chk x517 9).bind fun _ =>
      (idx p1 (y416.get x517.toNat)).bind fun x538 =>
      (app 16 l513 [x538.Step]).bind fun x568 =>
      if x538.from_ = y446 then
        esc (some x568)
      else
        some (.inl (x568, x538.from_))) big ([], y446)).bind fun l493 =>
    (m_slices_Reverse_target_Step_target_Step l493).bind fun x595 =>
    (chkne x595).bind fun x607 =>
    some x595

def m_target_Round (p0 : List Int) (p1 : List T_target_Sheet) : Option ((List T_target_Step) × Int) :=
  (m_target_due p0 p1).bind fun x1 =>
  if x1 = 0 then
    (m_target_links (↑p0.length : Int) p1 []).bind fun x14 =>
    (m_target_round (↑p0.length : Int) x14).bind fun x34 =>
    if x34 = [] then
      (m_target_links (↑p0.length : Int) p1 p0).bind fun x58 =>
      (m_target_round (↑p0.length : Int) x58).bind fun x78 =>
      if x78 = [] then
        some ([], 6)
      else
        some (x78, 0)
    else
      some (x34, 0)
  else
    some ([], x1)

def m_klisterlaw03_awake : Option Bool := some true

def m_klisterlaw03_TargetMissed (p0 : List Int) (p1 : List Int) (p2 : Int) (p3 : Int) : Option (Bool) :=
  (m_klisterkit_Of p0).bind fun x1 =>
  (m_klisterlaw03_Counted x1 8 2).bind fun (x16, x17, x18) =>
  (m_klisterkit_Of p1).bind fun x39 =>
  (forR' 0 (↑x16.length : Int) (fun k91 (l82, x85, x86, l87) =>
    (m_klisterkit_Deck_Draw (⟨l82, x85, x86⟩ : T_klisterkit_Deck) 6).bind fun (x123, x124) =>
    (app 8 l87 [x123]).bind fun x142 =>
    some (x124.bytes, x124.next, x124.state, x142)) (x39.bytes, x39.next, x39.state, [])).bind fun (y96, y97, y98, y99) =>
  (m_target_Few y99 x17).bind fun (x200, x201) =>
  if x201 = 0 then
    jn (forR 0 6 (fun k243 (l238, x241, x242) =>
      (m_klisterkit_Deck_Between (⟨l238, x241, x242⟩ : T_klisterkit_Deck) 1 4).bind fun (x270, x271) =>
      (forR' 0 x270 (fun k321 (l312, x315, x316, l317) =>
        (m_klisterkit_Deck_Draw (⟨l312, x315, x316⟩ : T_klisterkit_Deck) 5).bind fun (x356, x357) =>
        (m_klisterkit_Deck_Draw x357 (↑x16.length : Int)).bind fun (x377, x378) =>
        (if x356 = 0 then
          some true
        else
          some (decide (x356 = 1))).bind fun b395 =>
        if b395 = true then
          (m_klisterkit_Deck_Draw x378 (↑x17.length : Int)).bind fun (x426, x427) =>
          if (↑x17.length : Int) = 0 then
            (app 16 l317 [(⟨4, 0⟩ : T_target_Step)]).bind fun x453 =>
            some (x427.bytes, x427.next, x427.state, x453)
          else
            (app 16 l317 [(⟨x356, x426⟩ : T_target_Step)]).bind fun x475 =>
            some (x427.bytes, x427.next, x427.state, x475)
        else
          (app 16 l317 [(⟨x356, x377⟩ : T_target_Step)]).bind fun x497 =>
          some (x378.bytes, x378.next, x378.state, x497)) (x271.bytes, x271.next, x271.state, [])).bind fun (y326, y327, y328, y329) =>
      (m_target_RoundShows y99 x17 y329).bind fun (x567, x568) =>
      if x568 = 0 then
        if x200 = true then
          if 0 ≤ x567 then
            esc (some false)
          else
            some (.inl (y326, y327, y328))
        else
          esc (some false)
      else
        if x568 = 8 then
          some (.inl (y326, y327, y328))
        else
          esc (some false)) (y96, y97, y98)) fun (y627, y628, y629) =>
    (rem (w64 p2) (↑x16.length : Int)).bind fun x646 =>
    (rem (w64 p3) (w64 ((↑x16.length : Int) - x646))).bind fun x649 =>
    iter (fun (x661, x662, x663) =>
      if x663 ≤ (w64 (x646 + x649)) then
        (idx x16 x663).bind fun x686 =>
        (chk x663 y99.length).bind fun _ =>
        some (.inl (w64 (x661 + x686), w64 (x662 + (gd y99 x663.toNat)), w64 (x663 + 1)))
      else
        esc ((m_klisterlaw03_span x661 x661).bind fun x710 =>
        (app 32 x17 [(⟨x646, w64 (x646 + x649), x710⟩ : T_target_Sheet)]).bind fun x725 =>
        (m_target_Few y99 x725).bind fun (x746, x747) =>
        (m_target_Round y99 x725).bind fun (x776, x777) =>
        (if x747 = 0 then
          if x661 < x662 then
            if x746 = true then
              if (x746 == (decide (x777 = 0))) = true then
                some false
              else
                some true
            else
              some true
          else
            if (x746 == (decide (x777 = 0))) = true then
              if x746 = true then
                some false
              else
                some (decide (¬ (x777 = 6)))
            else
              some true
        else
          some true).bind fun b790 =>
        if b790 = true then
          some false
        else
          if x746 = true then
            (m_target_RoundShows y99 x725 x776).bind fun (x858, x859) =>
            if x859 = 0 then
              if 0 ≤ x858 then
                some false
              else
                (forR' 0 (↑x16.length : Int) (fun k899 (l894, b898) =>
                  (idx x16 (↑k899 : Int)).bind fun x925 =>
                  (m_klisterlaw03_span x925 x925).bind fun x945 =>
                  (app 32 l894 [(⟨(↑k899 : Int), (↑k899 : Int), x945⟩ : T_target_Sheet)]).bind fun x960 =>
                  if b898 = true then
                    some (x960, true)
                  else
                    (idx y99 (↑k899 : Int)).bind fun x975 =>
                    some (x960, decide (x925 < x975))) ([], false)).bind fun (y904, y905) =>
                (m_target_Few y99 y904).bind fun (x1021, x1022) =>
                if x1022 = 0 then
                  if (x1021 == y905) = true then
                    (m_klisterlaw03_awake).bind fun x1040 =>
                    some x1040
                  else
                    some false
                else
                  some false
            else
              some false
          else
            (forR' 0 (↑x16.length : Int) (fun k1075 (l1070, b1074) =>
              (idx x16 (↑k1075 : Int)).bind fun x1101 =>
              (m_klisterlaw03_span x1101 x1101).bind fun x1120 =>
              (app 32 l1070 [(⟨(↑k1075 : Int), (↑k1075 : Int), x1120⟩ : T_target_Sheet)]).bind fun x1135 =>
              if b1074 = true then
                some (x1135, true)
              else
                (idx y99 (↑k1075 : Int)).bind fun x1150 =>
                some (x1135, decide (x1101 < x1150))) ([], false)).bind fun (y1080, y1081) =>
            (m_target_Few y99 y1080).bind fun (x1194, x1195) =>
            if x1195 = 0 then
              if (x1194 == y1081) = true then
                (m_klisterlaw03_awake).bind fun x1213 =>
                some x1213
              else
                some false
            else
              some false)) big (0, 0, x646)
  else
    some false
end Go.Proofs.Ytaoaelhmiggepaa
