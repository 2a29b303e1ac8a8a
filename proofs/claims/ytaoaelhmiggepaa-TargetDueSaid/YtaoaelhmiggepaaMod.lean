/- Models of functions, printed by a program. -/
import Derived.Test.YtaoaelhmiggepaaVN
namespace Go.Proofs.Ytaoaelhmiggepaa
open Go.KL
structure T_api_Span where
  Lo : Int
  Hi : Int
deriving DecidableEq, Inhabited, Repr
structure T_target_Sheet where
  From : Int
  To : Int
  Loops : T_api_Span
deriving DecidableEq, Inhabited, Repr
structure T_target_Step where
  Kind : Int
  Index : Int
deriving DecidableEq, Inhabited, Repr
structure T_klisterref03_Sheet where
  From : Int
  To : Int
  Loops : T_api_Span
deriving DecidableEq, Inhabited, Repr
structure T_target_link where
  Step : T_target_Step
  from_ : Int
  to_ : Int
  count : (Unit → Option Int)

structure T_klisterref03_Step where
  Kind : Int
  Index : Int
deriving DecidableEq, Inhabited, Repr
def m_klisterlaw03_awake : Option Bool := some true

def m_klisterkit_Clone_int (p0 : List Int) : Option ((List Int)) :=
  (app 8 ([] : List Int) p0).bind fun x4 =>
  some x4

def m_klisterkit_Clone_target_Sheet (p0 : List T_target_Sheet) : Option ((List T_target_Sheet)) :=
  (app 32 ([] : List T_target_Sheet) p0).bind fun x4 =>
  some x4

def m_klisterkit_Clone_target_Step (p0 : List T_target_Step) : Option ((List T_target_Step)) :=
  (app 16 ([] : List T_target_Step) p0).bind fun x4 =>
  some x4

def m_klisterlaw03_Sheets (p0 : List T_target_Sheet) : Option ((List T_klisterref03_Sheet)) :=
  (forR' 0 (↑p0.length : Int) (fun k18 l14 =>
    (idx p0 (↑k18 : Int)).bind fun x41 =>
    (app 32 l14 [(⟨x41.From, x41.To, x41.Loops⟩ : T_klisterref03_Sheet)]).bind fun x61 =>
    some x61) []).bind fun y23 =>
  some y23

def m_target_within (p0 : Int) (p1 : Int) (p2 : Int) : Option (Bool) :=
  if p1 ≤ p0 then
    some (decide (p0 ≤ p2))
  else
    some false

def m_target_all_int_1 (p0 : Int) (p1 : (Int → Option Bool)) : Option (Bool) :=
  (p1 p0).bind fun x1 =>
  some (!x1)

def m_slices_IndexFunc_int_int (p0 : List Int) (p1 : (Int → Option Bool)) : Option (Int) :=
  jn (forR 0 (↑p0.length : Int) (fun k2 _ =>
    (idx p0 (↑k2 : Int)).bind fun x22 =>
    (p1 x22).bind fun x30 =>
    if x30 = true then
      esc (some (↑k2 : Int))
    else
      some (.inl ())) ()) fun _ =>
  some (-1)

def m_slices_ContainsFunc_int_int (p0 : List Int) (p1 : (Int → Option Bool)) : Option (Bool) :=
  (m_slices_IndexFunc_int_int p0 p1).bind fun x1 =>
  some (decide (0 ≤ x1))

def m_target_all_int (p0 : List Int) (p1 : (Int → Option Bool)) : Option (Bool) :=
  (m_slices_ContainsFunc_int_int p0 (fun x => m_target_all_int_1 x p1)).bind fun x13 =>
  some (!x13)

def m_target_due_1 (p0 : Int) : Option (Bool) :=
  (m_target_within p0 0 5).bind fun x1 =>
  some x1

def m_target_CheckSheets_1 (p0 : T_target_Sheet) (p1 : Int) : Option (Bool) :=
  (m_target_within p0.From 0 p0.To).bind fun x5 =>
  if x5 = true then
    some (decide (p0.To < p1))
  else
    some false

def m_target_all_target_Sheet_1 (p0 : T_target_Sheet) (p1 : (T_target_Sheet → Option Bool)) : Option (Bool) :=
  (p1 p0).bind fun x5 =>
  some (!x5)

def m_slices_IndexFunc_target_Sheet_target_Sheet (p0 : List T_target_Sheet) (p1 : (T_target_Sheet → Option Bool)) : Option (Int) :=
  jn (forR 0 (↑p0.length : Int) (fun k2 _ =>
    (idx p0 (↑k2 : Int)).bind fun x22 =>
    (p1 x22).bind fun x30 =>
    if x30 = true then
      esc (some (↑k2 : Int))
    else
      some (.inl ())) ()) fun _ =>
  some (-1)

def m_slices_ContainsFunc_target_Sheet_target_Sheet (p0 : List T_target_Sheet) (p1 : (T_target_Sheet → Option Bool)) : Option (Bool) :=
  (m_slices_IndexFunc_target_Sheet_target_Sheet p0 p1).bind fun x1 =>
  some (decide (0 ≤ x1))

def m_target_all_target_Sheet (p0 : List T_target_Sheet) (p1 : (T_target_Sheet → Option Bool)) : Option (Bool) :=
  (m_slices_ContainsFunc_target_Sheet_target_Sheet p0 (fun x => m_target_all_target_Sheet_1 x p1)).bind fun x13 =>
  some (!x13)

def m_target_CheckSheets_2 (p0 : T_target_Sheet) : Option (Bool) :=
  (m_target_within p0.Loops.Lo 0 p0.Loops.Hi).bind fun x5 =>
  if x5 = true then
    some (decide (p0.Loops.Hi ≤ 72))
  else
    some false

def m_target_CheckSheets (p0 : Int) (p1 : List T_target_Sheet) : Option (Int) :=
  (m_target_within p0 1 8).bind fun x10 =>
  if x10 = true then
    if 20 < (↑p1.length : Int) then
      some 2
    else
      (m_target_all_target_Sheet p1 (fun x => m_target_CheckSheets_1 x p0)).bind fun x29 =>
      if x29 = true then
        (m_target_all_target_Sheet p1 m_target_CheckSheets_2).bind fun x43 =>
        if x43 = true then
          some 0
        else
          some 3
      else
        some 1
  else
    some 2

def m_target_due (p0 : List Int) (p1 : List T_target_Sheet) : Option (Int) :=
  (m_target_within (↑p0.length : Int) 1 8).bind fun x1 =>
  if x1 = true then
    (m_target_all_int p0 m_target_due_1).bind fun x15 =>
    if x15 = true then
      (m_target_CheckSheets (↑p0.length : Int) p1).bind fun x29 =>
      some x29
    else
      some 3
  else
    some 2

def m_target_links_1_1 (p0 : Int) : Option (Int) :=
  some p0

def m_target_links_1 (p0 : Int) : Option ((Unit → Option Int)) :=
  some (fun _ => m_target_links_1_1 p0)

def m_target_links (p0 : Int) (p1 : List T_target_Sheet) (p2 : List Int) : Option ((List T_target_link)) :=
  (forR' 0 (↑p1.length : Int) (fun k22 l17 =>
    (idx p1 (↑k22 : Int)).bind fun x49 =>
    (m_target_links_1 x49.Loops.Hi).bind fun x66 =>
    (m_target_links_1 (w64 (-x49.Loops.Lo))).bind fun x81 =>
    (app 40 l17 [(⟨(⟨0, (↑k22 : Int)⟩ : T_target_Step), x49.From, w64 (x49.To + 1), x66⟩ : T_target_link), (⟨(⟨1, (↑k22 : Int)⟩ : T_target_Step), w64 (x49.To + 1), x49.From, x81⟩ : T_target_link)]).bind fun x103 =>
    some x103) []).bind fun y27 =>
  (forR' 0 p0 (fun k159 l155 =>
    (m_target_links_1 9).bind fun x182 =>
    (m_target_links_1 0).bind fun x197 =>
    (app 40 l155 [(⟨(⟨2, (↑k159 : Int)⟩ : T_target_Step), (↑k159 : Int), (↑(k159 + 1) : Int), x182⟩ : T_target_link), (⟨(⟨3, (↑k159 : Int)⟩ : T_target_Step), (↑(k159 + 1) : Int), (↑k159 : Int), x197⟩ : T_target_link)]).bind fun x219 =>
    some x219) y27).bind fun y164 =>
  (forR' 0 (↑p2.length : Int) (fun k273 l269 =>
    (idx p2 (↑k273 : Int)).bind fun x296 =>
    (m_target_links_1 (w64 (-x296))).bind fun x306 =>
    (app 40 l269 [(⟨(⟨4, (↑k273 : Int)⟩ : T_target_Step), (↑(k273 + 1) : Int), (↑k273 : Int), x306⟩ : T_target_link)]).bind fun x327 =>
    some x327) y164).bind fun y278 =>
  some y278

def m_target_distances (p0 : Int) (p1 : List T_target_link) : Option ((Arr Int 81) × Bool) :=
  (forR' 0 9 (fun k17 a16 =>
    (forR' 0 9 (fun k45 a44 =>
      if (↑k17 : Int) = (↑k45 : Int) then
        some a44
      else
        (chk (↑k17 : Int) 9).bind fun _ =>
        (chk (↑k45 : Int) 9).bind fun _ =>
        some (a44.set (k17 * 9 + k45) 1048576)) a16).bind fun y50 =>
    some y50) (Arr.fill 81 0)).bind fun y22 =>
  (forR' 0 (↑p1.length : Int) (fun k117 a116 =>
    (idx p1 (↑k117 : Int)).bind fun x140 =>
    (chk x140.from_ 9).bind fun _ =>
    (chk x140.to_ 9).bind fun _ =>
    (x140.count ()).bind fun x171 =>
    some (a116.set (x140.from_.toNat * 9 + x140.to_.toNat) (min (a116.get (x140.from_.toNat * 9 + x140.to_.toNat)) x171))) y22).bind fun y122 =>
  (forR' 0 (w64 (p0 + 1)) (fun k206 a205 =>
    (forR' 0 (w64 (p0 + 1)) (fun k234 a233 =>
      (forR' 0 (w64 (p0 + 1)) (fun k265 a264 =>
        (chk (↑k234 : Int) 9).bind fun _ =>
        (chk (↑k265 : Int) 9).bind fun _ =>
        (chk (↑k206 : Int) 9).bind fun _ =>
        some (a264.set (k234 * 9 + k265) (min (a264.get (k234 * 9 + k265)) (w64 ((a264.get (k234 * 9 + k206)) + (a264.get (k206 * 9 + k265))))))) a233).bind fun y270 =>
      some y270) a205).bind fun y239 =>
    some y239) y122).bind fun y211 =>
  jn (forR 0 (w64 (p0 + 1)) (fun k360 _ =>
    (chk (↑k360 : Int) 9).bind fun _ =>
    if (y211.get (k360 * 9 + k360)) < 0 then
      esc (some (y211, false))
    else
      some (.inl ())) ()) fun _ =>
  some (y211, true)

def m_target_Few (p0 : List Int) (p1 : List T_target_Sheet) : Option (Bool × Int) :=
  (m_target_due p0 p1).bind fun x1 =>
  if x1 = 0 then
    (m_target_links (↑p0.length : Int) p1 p0).bind fun x15 =>
    (m_target_distances (↑p0.length : Int) x15).bind fun (x35, x36) =>
    some (!x36, 0)
  else
    some (false, x1)

def m_klisterref03_outside (p0 : Int) (p1 : Int) (p2 : Int) : Option (Bool) :=
  if p0 < p1 then
    some true
  else
    some (decide (p2 < p0))

def m_klisterref03_CheckSheets (p0 : Int) (p1 : List T_klisterref03_Sheet) : Option (Int) :=
  if p0 < 1 then
    some 2
  else
    if 8 < p0 then
      some 2
    else
      if 20 < (↑p1.length : Int) then
        some 2
      else
        jn (forR 0 (↑p1.length : Int) (fun k11 _ =>
          (idx p1 (↑k11 : Int)).bind fun x32 =>
          if x32.From < 0 then
            esc (some 1)
          else
            if p0 ≤ x32.To then
              esc (some 1)
            else
              if x32.To < x32.From then
                esc (some 1)
              else
                some (.inl ())) ()) fun _ =>
        jn (forR 0 (↑p1.length : Int) (fun k82 _ =>
          (idx p1 (↑k82 : Int)).bind fun x102 =>
          if x102.Loops.Lo < 0 then
            esc (some 3)
          else
            if 72 < x102.Loops.Hi then
              esc (some 3)
            else
              if x102.Loops.Hi < x102.Loops.Lo then
                esc (some 3)
              else
                some (.inl ())) ()) fun _ =>
        some 0

def m_klisterref03_Owed (p0 : List Int) (p1 : List T_klisterref03_Sheet) : Option (Int) :=
  if (↑p0.length : Int) < 1 then
    some 2
  else
    if 8 < (↑p0.length : Int) then
      some 2
    else
      jn (forR 0 (↑p0.length : Int) (fun k8 _ =>
        (idx p0 (↑k8 : Int)).bind fun x27 =>
        (m_klisterref03_outside x27 0 5).bind fun x35 =>
        if x35 = true then
          esc (some 3)
        else
          some (.inl ())) ()) fun _ =>
      (m_klisterref03_CheckSheets (↑p0.length : Int) p1).bind fun x63 =>
      some x63

def m_klisterref03_Truths (p0 : Int) (p1 : List T_klisterref03_Sheet) : Option ((List (List Int))) :=
  (forR' 0 p0 (fun k7 x6 =>
    some (w64 (10 * x6))) 1).bind fun y12 =>
  (forR' 0 y12 (fun k62 l57 =>
    (forR' 0 p0 (fun k108 (l103, x107) =>
      (rem x107 10).bind fun x136 =>
      (app 8 l103 [x136]).bind fun x144 =>
      (quo x107 10).bind fun x152 =>
      some (x144, x152)) ([], (↑k62 : Int))).bind fun (y113, y114) =>
    iter (fun (b186, x187) =>
      if x187 < (↑p1.length : Int) then
        if b186 = true then
          (idx p1 x187).bind fun x210 =>
          iter (fun (x227, x228) =>
            if x228 ≤ x210.To then
              (chk x228 y113.length).bind fun _ =>
              some (.inl (w64 (x227 + (gd y113 x228.toNat)), w64 (x228 + 1)))
            else
              esc ((m_klisterref03_outside x227 x210.Loops.Lo x210.Loops.Hi).bind fun x276 =>
              some (.inl (!x276, w64 (x187 + 1))))) big (0, x210.From)
        else
          esc (some l57)
      else
        esc (if b186 = true then
          (app 24 l57 [y113]).bind fun x315 =>
          some x315
        else
          some l57)) big (true, 0)) []).bind fun y67 =>
  some y67

def m_klisterref03_Few (p0 : List Int) (p1 : List T_klisterref03_Sheet) : Option (Bool × Int) :=
  (m_klisterref03_Owed p0 p1).bind fun x1 =>
  if x1 = 0 then
    (m_klisterref03_Truths (↑p0.length : Int) p1).bind fun x14 =>
    jn (forR 0 (↑x14.length : Int) (fun k36 _ =>
      (forR' 0 (↑p0.length : Int) (fun k61 b60 =>
        if b60 = true then
          (idx x14 (↑k36 : Int)).bind fun x87 =>
          (idx x87 (↑k61 : Int)).bind fun x101 =>
          (idx p0 (↑k61 : Int)).bind fun x108 =>
          some (decide (x108 ≤ x101))
        else
          some false) true).bind fun y66 =>
      if y66 = true then
        esc (some (false, 0))
      else
        some (.inl ())) ()) fun _ =>
    some (true, 0)
  else
    some (false, x1)

def m_target_RoundShows_1 (p0 : T_target_link) (p1 : T_target_Step) : Option (Bool) :=
  some (decide (p0.Step = p1))

def m_slices_IndexFunc_target_link_target_link (p0 : List T_target_link) (p1 : (T_target_link → Option Bool)) : Option (Int) :=
  jn (forR 0 (↑p0.length : Int) (fun k2 _ =>
    (idx p0 (↑k2 : Int)).bind fun x22 =>
    (p1 x22).bind fun x34 =>
    if x34 = true then
      esc (some (↑k2 : Int))
    else
      some (.inl ())) ()) fun _ =>
  some (-1)

def m_target_RoundShows (p0 : List Int) (p1 : List T_target_Sheet) (p2 : List T_target_Step) : Option (Int × Int) :=
  (m_target_due p0 p1).bind fun x1 =>
  if x1 = 0 then
    (m_target_within (↑p2.length : Int) 1 40).bind fun x13 =>
    if x13 = true then
      (m_target_links (↑p0.length : Int) p1 p0).bind fun x29 =>
      jn (forR 0 (↑p2.length : Int) (fun k71 l66 =>
        (idx p2 (↑k71 : Int)).bind fun x95 =>
        (m_slices_IndexFunc_target_link_target_link x29 (fun x => m_target_RoundShows_1 x x95)).bind fun x122 =>
        if x122 < 0 then
          esc (some (0, 1))
        else
          (idx x29 x122).bind fun x138 =>
          (app 40 l66 [x138]).bind fun x156 =>
          some (.inl x156)) []) fun y176 =>
      jn (forR 0 (↑y176.length : Int) (fun k202 x201 =>
        (idx y176 (↑k202 : Int)).bind fun x223 =>
        (rem (↑(k202 + 1) : Int) (↑y176.length : Int)).bind fun x248 =>
        (idx y176 x248).bind fun x251 =>
        if x223.to_ = x251.from_ then
          (x223.count ()).bind fun x264 =>
          some (.inl (w64 (x201 + x264)))
        else
          esc (some (0, 8))) 0) fun y283 =>
      if 0 ≤ y283 then
        some (0, 8)
      else
        some (y283, 0)
    else
      some (0, 2)
  else
    some (0, x1)

def m_klisterlaw03_stepped (p0 : List T_target_Step) : Option ((List T_klisterref03_Step)) :=
  (forR' 0 (↑p0.length : Int) (fun k18 l14 =>
    (idx p0 (↑k18 : Int)).bind fun x41 =>
    (app 16 l14 [(⟨x41.Kind, x41.Index⟩ : T_klisterref03_Step)]).bind fun x61 =>
    some x61) []).bind fun y23 =>
  some y23

def m_klisterref03_RoundShows (p0 : List Int) (p1 : List T_klisterref03_Sheet) (p2 : List T_klisterref03_Step) : Option (Int × Int) :=
  (m_klisterref03_Owed p0 p1).bind fun x1 =>
  if x1 = 0 then
    if (↑p2.length : Int) < 1 then
      some (0, 2)
    else
      if 40 < (↑p2.length : Int) then
        some (0, 2)
      else
        jn (forR 0 (↑p2.length : Int) (fun k55 (l46, l50, x54) =>
          jn ((idx p2 (↑k55 : Int)).bind fun x93 =>
          ((m_klisterref03_outside x93.Kind 0 4).bind fun x110 =>
          if x110 = true then
            some true
          else
            if x93.Index < 0 then
              some true
            else
              if x93.Kind < 2 then
                if (↑p1.length : Int) ≤ x93.Index then
                  some true
                else
                  if 1 < x93.Kind then
                    some (decide ((↑p0.length : Int) ≤ x93.Index))
                  else
                    some false
              else
                if 1 < x93.Kind then
                  some (decide ((↑p0.length : Int) ≤ x93.Index))
                else
                  some false).bind fun b106 =>
          if b106 = true then
            esc (esc (some (0, 1)))
          else
            if x93.Kind = 0 then
              ((idx p1 x93.Index).bind fun x180 =>
              (app 8 l46 [x180.From]).bind fun x199 =>
              (app 8 l50 [w64 (x180.To + 1)]).bind fun x212 =>
              some (x199, x212)).bind fun (l171, l174) =>
              (idx p1 x93.Index).bind fun x390 =>
              some (.inl (l171, l174, w64 (x54 + x390.Loops.Hi)))
            else
              if x93.Kind = 1 then
                ((idx p1 x93.Index).bind fun x420 =>
                (app 8 l46 [w64 (x420.To + 1)]).bind fun x439 =>
                (app 8 l50 [x420.From]).bind fun x452 =>
                some (x439, x452)).bind fun (l411, l414) =>
                (idx p1 x93.Index).bind fun x630 =>
                some (.inl (l411, l414, w64 (x54 - x630.Loops.Lo)))
              else
                if x93.Kind = 2 then
                  (app 8 l46 [x93.Index]).bind fun x656 =>
                  (app 8 l50 [w64 (x93.Index + 1)]).bind fun x669 =>
                  some (.inl (x656, x669, w64 (x54 + 9)))
                else
                  (app 8 l46 [w64 (x93.Index + 1)]).bind fun x690 =>
                  (app 8 l50 [x93.Index]).bind fun x703 =>
                  if x93.Kind = 4 then
                    (idx p0 x93.Index).bind fun x713 =>
                    some (.inl (x690, x703, w64 (x54 - x713)))
                  else
                    some (.inl (x690, x703, x54))) fun (l82, l85, x88) =>
          some (.inl (l82, l85, x88))) ([], [], 0)) fun (y763, y764, y765) =>
        jn (forR 0 (↑p2.length : Int) (fun k783 _ =>
          if (↑(k783 + 1) : Int) < (↑p2.length : Int) then
            (chk (↑k783 : Int) y764.length).bind fun _ =>
            (chk (↑(k783 + 1) : Int) y763.length).bind fun _ =>
            if (gd y764 k783) = (gd y763 (k783 + 1)) then
              some (.inl ())
            else
              esc (some (0, 8))
          else
            (chk (↑k783 : Int) y764.length).bind fun _ =>
            (chk 0 y763.length).bind fun _ =>
            if (gd y764 k783) = (gd y763 0) then
              some (.inl ())
            else
              esc (some (0, 8))) ()) fun _ =>
        if 0 ≤ y765 then
          some (0, 8)
        else
          some (y765, 0)
  else
    some (0, x1)

def m_slices_Reverse_target_Step_target_Step (p0 : List T_target_Step) : Option ((List T_target_Step)) :=
  iter (fun (l11, x12, x13) =>
    if x12 < x13 then
      (chk x13 l11.length).bind fun _ =>
      (chk x12 l11.length).bind fun _ =>
      (chk x13 (List.set l11 x12.toNat (gd l11 x13.toNat)).length).bind fun _ =>
      some (.inl ((List.set (List.set l11 x12.toNat (gd l11 x13.toNat)) x13.toNat (gd l11 x12.toNat)), w64 (x12 + 1), w64 (x13 - 1)))
    else
      esc (some l11)) big (p0, 0, w64 ((↑p0.length : Int) - 1))

def m_target_round (p0 : Int) (p1 : List T_target_link) : Option ((List T_target_Step)) :=
  jn (forR 0 (w64 (p0 + 2)) (fun k25 (a22, a23, x24) =>
    (forR' 0 (↑p1.length : Int) (fun k62 (a59, a60, x61) =>
      ((idx p1 (↑k62 : Int)).bind fun x97 =>
      (chk x97.from_ 9).bind fun _ =>
      (chk x97.to_ 9).bind fun _ =>
      (x97.count ()).bind fun x129 =>
      if (w64 ((a60.get x97.from_.toNat) + x129)) < (a60.get x97.to_.toNat) then
        (x97.count ()).bind fun x142 =>
        some ((a59.set x97.to_.toNat (↑k62 : Int)), (a60.set x97.to_.toNat (w64 ((a60.get x97.from_.toNat) + x142))), x97.to_)
      else
        some (a59, a60, x61)).bind fun (a91, a92, x93) =>
      some (a91, a92, x93)) (a22, a23, -1)).bind fun (y67, y68, y69) =>
    if y69 < 0 then
      esc (some [])
    else
      some (.inl (y67, y68, y69))) ((Arr.fill 9 0), (Arr.fill 9 0), -1)) fun (y416, y417, y418) =>
  if y418 < 0 then
    some []
  else
    (forR' 0 (w64 (p0 + 1)) (fun k441 x440 =>
      (chk x440 9).bind fun _ =>
      (idx p1 (y416.get x440.toNat)).bind fun x466 =>
      some x466.from_) y418).bind fun y446 =>
    (iter (fun (l513, x517) =>
      (chk x517 9).bind fun _ =>
      (idx p1 (y416.get x517.toNat)).bind fun x538 =>
      (app 16 l513 [x538.Step]).bind fun x568 =>
      if x538.from_ = y446 then
        esc (some x568)
      else
        some (.inl (x568, x538.from_))) big ([], y446)).bind fun l493 =>
    (m_slices_Reverse_target_Step_target_Step l493).bind fun x595 =>
    (chkne x595).bind fun x607 =>
    some x595

def m_target_Round (p0 : List Int) (p1 : List T_target_Sheet) : Option ((List T_target_Step) × Int) :=
  (m_target_due p0 p1).bind fun x1 =>
  if x1 = 0 then
    (m_target_links (↑p0.length : Int) p1 []).bind fun x14 =>
    (m_target_round (↑p0.length : Int) x14).bind fun x34 =>
    if x34 = [] then
      (m_target_links (↑p0.length : Int) p1 p0).bind fun x58 =>
      (m_target_round (↑p0.length : Int) x58).bind fun x78 =>
      if x78 = [] then
        some ([], 6)
      else
        some (x78, 0)
    else
      some (x34, 0)
  else
    some ([], x1)

def m_klisterlaw03_span (p0 : Int) (p1 : Int) : Option (T_api_Span) :=
  some (⟨p0, p1⟩ : T_api_Span)

def m_target_Due (p0 : List (List Int)) (p1 : List (List T_target_Sheet)) : Option ((List Int) × Int) :=
  if 8 < (↑p0.length : Int) then
    some ([], 2)
  else
    if (↑p1.length : Int) = (↑p0.length : Int) then
      jn (forR 0 (↑p0.length : Int) (fun k25 l21 =>
        (idx p0 (↑k25 : Int)).bind fun x50 =>
        (idx p1 (↑k25 : Int)).bind fun x63 =>
        (m_target_Few x50 x63).bind fun (x76, x77) =>
        if x77 = 0 then
          if x76 = true then
            (app 8 l21 [(↑k25 : Int)]).bind fun x96 =>
            some (.inl x96)
          else
            some (.inl l21)
        else
          esc (some ([], x77))) []) fun y121 =>
      some (y121, 0)
    else
      some ([], 2)

def m_klisterkit_Equal_int (p0 : List Int) (p1 : List Int) : Option (Bool) :=
  if (↑p0.length : Int) = (↑p1.length : Int) then
    jn (forR 0 (↑p0.length : Int) (fun k4 _ =>
      (idx p0 (↑k4 : Int)).bind fun x26 =>
      (idx p1 (↑k4 : Int)).bind fun x34 =>
      if x26 = x34 then
        some (.inl ())
      else
        esc (some false)) ()) fun _ =>
    some true
  else
    some false

def m_klisterkit_Equal_target_Sheet (p0 : List T_target_Sheet) (p1 : List T_target_Sheet) : Option (Bool) :=
  if (↑p0.length : Int) = (↑p1.length : Int) then
    jn (forR 0 (↑p0.length : Int) (fun k4 _ =>
      (idx p0 (↑k4 : Int)).bind fun x26 =>
      (idx p1 (↑k4 : Int)).bind fun x34 =>
      if x26 = x34 then
        some (.inl ())
      else
        esc (some false)) ()) fun _ =>
    some true
  else
    some false

def m_klisterkit_Equal_target_Step (p0 : List T_target_Step) (p1 : List T_target_Step) : Option (Bool) :=
  if (↑p0.length : Int) = (↑p1.length : Int) then
    jn (forR 0 (↑p0.length : Int) (fun k4 _ =>
      (idx p0 (↑k4 : Int)).bind fun x26 =>
      (idx p1 (↑k4 : Int)).bind fun x34 =>
      if x26 = x34 then
        some (.inl ())
      else
        esc (some false)) ()) fun _ =>
    some true
  else
    some false

def m_klisterlaw03_TargetDue (p0 : List Int) (p1 : List T_target_Sheet) (p2 : List T_target_Step) : Option (Bool) :=
  (if 3 < (↑p0.length : Int) then
    if (↑p0.length : Int) ≤ 8 then
      some true
    else
      if 12 < (↑p0.length : Int) then
        some true
      else
        if 25 < (↑p1.length : Int) then
          some true
        else
          some (decide (45 < (↑p2.length : Int)))
  else
    if 12 < (↑p0.length : Int) then
      some true
    else
      if 25 < (↑p1.length : Int) then
        some true
      else
        some (decide (45 < (↑p2.length : Int)))).bind fun b1 =>
  if b1 = true then
    (m_klisterlaw03_awake).bind fun x41 =>
    some x41
  else
    (m_klisterkit_Clone_int p0).bind fun x53 =>
    (m_klisterkit_Clone_target_Sheet p1).bind fun x68 =>
    (m_klisterkit_Clone_target_Step p2).bind fun x84 =>
    (m_klisterlaw03_Sheets p1).bind fun x99 =>
    (m_target_Few x53 x68).bind fun (x123, x124) =>
    (m_klisterref03_Few p0 x99).bind fun (x147, x148) =>
    if (x123 == x147) = true then
      if x124 = x148 then
        (m_target_RoundShows x53 x68 x84).bind fun (x175, x176) =>
        (m_klisterlaw03_stepped p2).bind fun x208 =>
        (m_klisterref03_RoundShows p0 x99 x208).bind fun (x236, x237) =>
        if x175 = x236 then
          if x176 = x237 then
            (m_target_Round x53 x68).bind fun (x259, x260) =>
            jn (if x148 = 0 then
              if x147 = true then
                (m_klisterlaw03_stepped x259).bind fun x284 =>
                (m_klisterref03_RoundShows p0 x99 x284).bind fun (x312, x313) =>
                if x260 = 0 then
                  if x313 = 0 then
                    if 0 ≤ x312 then
                      esc (some false)
                    else
                      (m_klisterref03_Truths (↑p0.length : Int) x99).bind fun x349 =>
                      if (↑x349.length : Int) = 0 then
                        jn (forR 0 (↑x259.length : Int) (fun k367 _ =>
                          (idx x259 (↑k367 : Int)).bind fun x394 =>
                          if x394.Kind = 4 then
                            esc (esc (some false))
                          else
                            some (.inl ())) ()) fun _ =>
                        some (.inl ())
                      else
                        some (.inl ())
                  else
                    esc (some false)
                else
                  esc (some false)
              else
                if x260 = 6 then
                  if 0 < (↑x259.length : Int) then
                    esc (some false)
                  else
                    some (.inl ())
                else
                  esc (some false)
            else
              if x260 = x148 then
                if 0 < (↑x259.length : Int) then
                  esc (some false)
                else
                  some (.inl ())
              else
                esc (some false)) fun _ =>
            (m_klisterlaw03_span 0 0).bind fun x522 =>
            (m_target_Due [[0], x53, [1]] [[], x68, [(⟨0, 0, x522⟩ : T_target_Sheet)]]).bind fun (x568, x569) =>
            if x147 = true then
              if x148 = 0 then
                if x569 = x148 then
                  (m_klisterkit_Equal_int x568 [1, 2]).bind fun x609 =>
                  if x609 = true then
                    (m_klisterkit_Equal_int x53 p0).bind fun x650 =>
                    if x650 = true then
                      (m_klisterkit_Equal_target_Sheet x68 p1).bind fun x693 =>
                      if x693 = true then
                        (m_klisterkit_Equal_target_Step x84 p2).bind fun x740 =>
                        if x740 = true then
                          (m_klisterlaw03_awake).bind fun x752 =>
                          some x752
                        else
                          some false
                      else
                        some false
                    else
                      some false
                  else
                    some false
                else
                  some false
              else
                if x569 = x148 then
                  (m_klisterkit_Equal_int x568 []).bind fun x775 =>
                  if x775 = true then
                    (m_klisterkit_Equal_int x53 p0).bind fun x814 =>
                    if x814 = true then
                      (m_klisterkit_Equal_target_Sheet x68 p1).bind fun x855 =>
                      if x855 = true then
                        (m_klisterkit_Equal_target_Step x84 p2).bind fun x900 =>
                        if x900 = true then
                          (m_klisterlaw03_awake).bind fun x912 =>
                          some x912
                        else
                          some false
                      else
                        some false
                    else
                      some false
                  else
                    some false
                else
                  some false
            else
              if x148 = 0 then
                if x569 = x148 then
                  (m_klisterkit_Equal_int x568 [2]).bind fun x943 =>
                  if x943 = true then
                    (m_klisterkit_Equal_int x53 p0).bind fun x984 =>
                    if x984 = true then
                      (m_klisterkit_Equal_target_Sheet x68 p1).bind fun x1027 =>
                      if x1027 = true then
                        (m_klisterkit_Equal_target_Step x84 p2).bind fun x1074 =>
                        if x1074 = true then
                          (m_klisterlaw03_awake).bind fun x1086 =>
                          some x1086
                        else
                          some false
                      else
                        some false
                    else
                      some false
                  else
                    some false
                else
                  some false
              else
                if x569 = x148 then
                  (m_klisterkit_Equal_int x568 []).bind fun x1109 =>
                  if x1109 = true then
                    (m_klisterkit_Equal_int x53 p0).bind fun x1148 =>
                    if x1148 = true then
                      (m_klisterkit_Equal_target_Sheet x68 p1).bind fun x1189 =>
                      if x1189 = true then
                        (m_klisterkit_Equal_target_Step x84 p2).bind fun x1234 =>
                        if x1234 = true then
                          (m_klisterlaw03_awake).bind fun x1246 =>
                          some x1246
                        else
                          some false
                      else
                        some false
                    else
                      some false
                  else
                    some false
                else
                  some false
          else
            some false
        else
          some false
      else
        some false
    else
      some false
end Go.Proofs.Ytaoaelhmiggepaa
