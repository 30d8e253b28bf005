/- Contracts: contact.Text, contact.Parse. Conditions: those of each statement (bounds on lengths). -/
import Derived.Test.YtlapbaiejnaeiaaGreatDoorXb
import Derived.Test.YtlapbaiejnaeiaaGreatDoorPa
set_option linter.unusedSimpArgs false
set_option linter.unusedVariables false
namespace Go.Proofs.YtlapbaiejnaeiaaGreatDoor
open Go Go.RowKit
theorem Hy {l : List ConR} {k : Nat} {x : ConR} (h : l[k]? = some x) : Aa (l.take (k + 1)) = Aa (l.take k) ++ Aw (A8 x) := by rw [Bd h, Fq, Na]
theorem F1 {l : List ConR} {k : Nat} (hl : l.length <= 1000) (h : ∀ i x, i < k -> l[i]? = some x -> A9 x) : (Aa (l.take k)).length <= 428000 := by
 have h1 := Gw (l := l.take k) fun x hx => by
  obtain ⟨i, hi⟩ := List.mem_iff_getElem?.1 hx
  have hik : i < k := by
   have := (List.getElem?_eq_some_iff.1 hi).1
   rw [List.length_take] at this;omega
  rw [List.getElem?_take, if_pos hik] at hi
  exact h i x hik hi
 have h2 : (l.take k).length <= 1000 := by rw [List.length_take];omega
 have h3 := Nat.mul_le_mul_right 428 h2
 omega
set_option maxHeartbeats 16000000 in
theorem Ed (l : List ConR) (hl : l.length <= 1000) (hr : ∀ x ∈ l, A9 x) : Fn0 Tryz.prog 9 [.sl (l.map ConR.row)] (.tup [.s (ofL (Aa l)), .i 0]) := by
 have hle : (l.map ConR.row).length = l.length := List.length_map _
 have h0 : ¬ ((l.map ConR.row).length : Int) > 1000 := by omega
 refine Fn0.of Tryz.func9 Tryz.ntmps9 rfl rfl rfl ?_
 simp only [A0]
 repeat' (first
  | refine W ?_
  | refine Y ?_|(apply S.allocB 5;exact rfl;exact rfl)
  | refine V ?_
  | (refine W2 ?_ ?_ <;> intro hc))
 refine T.loopS (fun k => k <= l.length) (fun k => l.length - k) (fun k => [(12, .i k), (11, .i (l.map ConR.row).length), (10, .sl (l.map ConR.row)), (4, .ptr 0 0)]) (fun k => [Yc 1 (Aa (l.take k)), .hid]) 0 (Nat.zero_le _) CW (.bld rfl (.hid .nil)) ?_
 intro k hk
 by_cases hlt : k < l.length
 ·have h1 : (k : Int) < ((l.map ConR.row).length : Nat) := by omega
  obtain ⟨x, hx⟩ := Ac hlt
  have hb := Ae (R := ConR.row) hx
  have hxr := hr x (List.mem_of_getElem? hx)
  have cw := G9 x
  rw [decide_eq_true hxr] at cw
  have cl := K1 x hxr
  have hz := F1 (k := k) hl fun i y _ hy => hr y (List.mem_of_getElem? hy)
  have hz2 := M5 (G8 hxr)
  have cb := Mg (ofL (Aw (A8 x))) (Aa (l.take k)) (by rw [Bs];omega)
  rw [Aq, <- Hy hx] at cb
  repeat' (first
   | refine W ?_
   | refine Y ?_|refine Zi hb ?_|(apply S.callBld cb;exact rfl;exact rfl;exact rfl;exact .cons (.one (.lf _)) .nil;(iterate 4 exact rfl))
   | refine V ?_
   | (refine W2 ?_ ?_ <;> intro hc))
  change Next _ _ _ _ _ _
  exact Next.go (k + 1) (by omega) (by omega) CW (.bld rfl (.hid .nil))
 ·have h1 : ¬ (k : Int) < ((l.map ConR.row).length : Nat) := by omega
  have hkt : l.take k = l := List.take_of_length_le (by omega)
  rw [hkt]
  repeat' (first
   | refine W ?_
   | refine Y ?_|(apply S.endBld (Qp (Aa l));exact rfl;exact rfl;exact rfl)
   | refine V ?_
   | (refine W2 ?_ ?_ <;> intro hc))
  all_goals exact D2 rfl rfl rfl
set_option maxHeartbeats 16000000 in
theorem I9 (l : List ConR) (hl : l.length <= 1000) (hr : ¬ ∀ x ∈ l, A9 x) : Fn0 Tryz.prog 9 [.sl (l.map ConR.row)] (.tup [.s ⟨#[]⟩, .i 1]) := by
 have hle : (l.map ConR.row).length = l.length := List.length_map _
 have h0 : ¬ ((l.map ConR.row).length : Int) > 1000 := by omega
 refine Fn0.of Tryz.func9 Tryz.ntmps9 rfl rfl rfl ?_
 simp only [A0]
 repeat' (first
  | refine W ?_
  | refine Y ?_|(apply S.allocB 5;exact rfl;exact rfl)
  | refine V ?_
  | (refine W2 ?_ ?_ <;> intro hc))
 refine T.loopS (fun k => k <= l.length /\ ∀ i x, i < k -> l[i]? = some x -> A9 x) (fun k => l.length - k) (fun k => [(12, .i k), (11, .i (l.map ConR.row).length), (10, .sl (l.map ConR.row)), (4, .ptr 0 0)]) (fun k => [Yc 1 (Aa (l.take k)), .hid]) 0 ⟨Nat.zero_le _, fun i x hi => by omega⟩ CW (.bld rfl (.hid .nil)) ?_
 rintro k ⟨hk, hok⟩
 by_cases hlt : k < l.length
 ·have h1 : (k : Int) < ((l.map ConR.row).length : Nat) := by omega
  obtain ⟨x, hx⟩ := Ac hlt
  have hb := Ae (R := ConR.row) hx
  have cw := G9 x
  by_cases hxr : A9 x
  ·rw [decide_eq_true hxr] at cw
   have cl := K1 x hxr
   have hz := F1 (k := k) hl hok
   have hz2 := M5 (G8 hxr)
   have cb := Mg (ofL (Aw (A8 x))) (Aa (l.take k)) (by rw [Bs];omega)
   rw [Aq, <- Hy hx] at cb
   repeat' (first
    | refine W ?_
    | refine Y ?_|refine Zi hb ?_|(apply S.callBld cb;exact rfl;exact rfl;exact rfl;exact .cons (.one (.lf _)) .nil;(iterate 4 exact rfl))
    | refine V ?_
    | (refine W2 ?_ ?_ <;> intro hc))
   change Next _ _ _ _ _ _
   exact Next.go (k + 1) ⟨by omega, fun i y hi hy => by
    rcases (by omega : i < k \/ i = k) with h | rfl
    ·exact hok i y h hy
    ·rw [hx] at hy;injection hy with hy;subst hy;exact hxr⟩ (by omega) CW (.bld rfl (.hid .nil))
  ·rw [decide_eq_false hxr] at cw
   repeat' (first
    | refine W ?_
    | refine Y ?_|refine Zi hb ?_
    | refine V ?_
    | (refine W2 ?_ ?_ <;> intro hc))
   all_goals exact D2 rfl rfl rfl
 ·exact absurd (fun x hx => by
   obtain ⟨i, hi⟩ := List.mem_iff_getElem?.1 hx
   exact hok i x (by have := (List.getElem?_eq_some_iff.1 hi).1;omega) hi) hr
theorem Nd (l : List ConR) (hl : 1000 < l.length) : Fn0 Tryz.prog 9 [.sl (l.map ConR.row)] (.tup [.s ⟨#[]⟩, .i 4]) := by
 have hle : (l.map ConR.row).length = l.length := List.length_map _
 have h0 : ((l.map ConR.row).length : Int) > 1000 := by omega
 refine Fn0.of Tryz.func9 Tryz.ntmps9 rfl rfl rfl ?_
 simp only [A0]
 repeat' (first
  | refine W ?_
  | refine Y ?_
  | refine V ?_
  | (refine W2 ?_ ?_ <;> intro hc))
 all_goals exact D2 rfl rfl rfl
theorem Yg (t : List UInt8) (h : t.length < 4294967281) : Fn0 Tryz.prog 34 [.s (ofL t), .s ⟨#[10]⟩] (.tup [.s (ofL (Lib.cut t [10]).1), .s (ofL (Lib.cut t [10]).2.1), .b (Lib.cut t [10]).2.2]) := by
 have := Y8 (ofL t) ⟨#[10]⟩ (by rw [Bs];exact h)
 rw [Aq] at this
 exact this
def Gd (t : List UInt8) : List ByteArray := Cm (ofL (Lib.cut t [10]).1) ⟨#[32]⟩
theorem Ys (t : List UInt8) (h : t.length < 4294967281) : Fn0 Tryz.prog 35 [.s (ofL (Lib.cut t [10]).1), .s ⟨#[32]⟩] (.sl ((Gd t).map fun x => [.s x])) :=
 V8 _ _ (by rw [Bs];have := (Tw t [10]).1;omega) (by decide)
theorem Xd (t : List UInt8) : (Gd t).map (·.data.toList) = Lib.split (Lib.cut t [10]).1 [32] := by
 unfold Gd
 rw [Ju, Aq]
theorem Ya {t : List UInt8} {w : ByteArray} (h : w ∈ Gd t) : w.size <= t.length := by
 have h1 := Vk h
 rw [Bs] at h1
 have := (Tw t [10]).1
 omega
theorem Yj (t : List UInt8) (x : ConR) : Fn0 Tryz.prog 37 [.s (ofL t), .s (ofL (Aw (A8 x)))] (.b (Lib.hasPrefix t (Aw (A8 x)))) := by
 have := Nn (ofL t) (ofL (Aw (A8 x)))
 rwa [Aq, Aq] at this
theorem Z2 {α : Type} {l : List α} (h : l.length = 4) : ∃ a b c d, l = [a, b, c, d] := by
 match l, h with
 | [a, b, c, d], _ => exact ⟨a, b, c, d, rfl⟩
theorem Wl {s t : List UInt8} {o : List ConR} (ho : ∀ x ∈ o, A9 x) (hs : s = Aa o ++ t) (ht : t ≠ [])
  (hb : ∀ x, A9 x -> (Gd t).map (·.data.toList) = Ak x -> o.length < 1000 -> Lib.atoiAll (Lib.itoa x.lo) = .ok x.lo -> Lib.atoiAll (Lib.itoa x.hi) = .ok x.hi -> Lib.hasPrefix t (Aw (A8 x)) = true -> False) : Fm s = [] /\ El s = 7 :=
 Fc fun ⟨l, hg⟩ => by
  obtain ⟨x, h1, h2, h3, h4, h5, h6⟩ := Uh hg ho hs ht
  exact hb x h1 (by rw [Xd, h2]) h3 h4 h5 h6
theorem G6 {x : ConR} {a b c d : ByteArray} (h : [a, b, c, d].map (·.data.toList) = Ak x) : a = x.a /\ b = x.b /\ c.data.toList = Lib.itoa x.lo /\ d.data.toList = Lib.itoa x.hi := by
 simp only [Ak, A8, List.map_cons, List.map_nil, List.cons.injEq, and_true] at h
 exact ⟨Bl h.1, Bl h.2.1, h.2.2.1, h.2.2.2⟩
theorem Rc {a b : List UInt8} (h : ofL a = ofL b) : a = b := by
 have := congrArg (fun x : ByteArray => x.data.toList) h
 simpa [Aq] using this
theorem Y3 (l : List ConR) : OwnRows (De l) 0 l.length 4 (l.map ConR.row) := by
 have := OwnRows.of (l.map ConR.row).flatten (Lw l) rfl
 rwa [List.length_map] at this
structure ParS where
 o : List ConR
 t : List UInt8
theorem Jx (s : ByteArray) (h : s.size <= 262144) : (∃ v : Int, Lib.atoiAll s.data.toList = .ok v /\ (-9223372036854775808 <= v /\ v <= 9223372036854775807) /\ Fn0 Tryz.prog 36 [.s s] (.tup [.i v, .val .nilIface])) \/ ((∀ v, Lib.atoiAll s.data.toList ≠ .ok v) /\ ∃ n : Int, Fn0 Tryz.prog 36 [.s s] (.tup [.i n, .err])) := by
 by_cases hv : ∃ v, Lib.atoiAll s.data.toList = .ok v
 ·obtain ⟨v, hv⟩ := hv
  exact .inl ⟨v, hv, Q6 hv, Qr s (by omega) hv⟩
 ·have hn : ∀ v, Lib.atoiAll s.data.toList ≠ .ok v := fun v e => hv ⟨v, e⟩
  obtain ⟨n, _, hc⟩ := Pp s (by omega) hn
  exact .inr ⟨hn, n, hc⟩
set_option maxHeartbeats 64000000 in
theorem Fy (s : List UInt8) (hsz : s.length <= 262144) : Fn0 Tryz.prog 10 [.s (ofL s)] (.tup [.sl ((Fm s).map ConR.row), .i (El s)]) := by
 have h0 : ¬ ((ofL s).size : Int) > 262144 := by rw [Bs];omega
 refine Fn0.of Tryz.func10 Tryz.ntmps10 rfl rfl rfl ?_
 simp only [A0]
 repeat' (first
  | refine W ?_
  | refine Y ?_
  | refine V ?_
  | (refine W2 ?_ ?_ <;> intro hc))
 refine T.kill 0 ?_
 refine T.loopS (fun a : ParS => s = Aa a.o ++ a.t /\ (∀ x ∈ a.o, A9 x) /\ a.o.length <= 1000) (fun a => a.t.length) (fun a => [(0, .s (ofL a.t)), (4, rT 0 4 a.o.length)]) (fun a => [rB (De a.o) a.o.length]) ⟨[], s⟩ ⟨rfl, by simp, by simp⟩ CW (.dead .nil) ?_
 rintro ⟨o, t⟩ ⟨hs, ho, hlen⟩
 dsimp only at hs ho hlen ⊢
 have htl : t.length <= 262144 := by rw [hs, List.length_append] at hsz;omega
 by_cases ht : t = []
 ·subst ht
  obtain ⟨p1, p2⟩ := Gm (s := s) (l := o) ⟨by rw [hs, List.append_nil], ho, hlen⟩
  rw [p1, p2]
  have h1 : ¬ ¬ ofL ([] : List UInt8) = (⟨#[]⟩ : ByteArray) := fun k => k rfl
  cases o with
  | nil =>
   repeat' (first
    | refine W ?_
    | refine Y ?_|(refine T.nilU 2 rfl ?_;apply T.ret;change B6 _ _ _ _ _)
    | refine V ?_
    | (refine W2 ?_ ?_ <;> intro hc))
   all_goals exact D2 rfl rfl rfl
  | cons y o =>
   repeat' (first
    | refine W ?_
    | refine Y ?_
    | refine V ?_
    | (refine W2 ?_ ?_ <;> intro hc))
   all_goals exact ⟨.inr rfl, [.own 0 0 (o.length + 1) 4, .i 0], .cons (.tmp rfl) (.cons (.tmp rfl) .nil), .tup (.cons (.one (.own rfl (Y3 (y :: o)))) (.cons (.one (.lf _)) .nil))⟩
 have h1 : ¬ ofL t = (⟨#[]⟩ : ByteArray) := fun e => ht (Rc e)
 have cc := Yg t (by omega)
 have cs := Ys t (by omega)
 have hwl : ((Gd t).map fun x => ([.s x] : List Lf)).length = (Gd t).length := List.length_map _
 have hwle : ∀ w ∈ Gd t, w.size <= 262144 := fun w hw => Nat.le_trans (Ya hw) htl
 have hbad := fun hb => Wl ho hs ht hb
 have hlt := Yf (c := 10) ht
 by_cases hw4 : (Gd t).length = 4
 ·obtain ⟨w0, w1, w2, w3, hw⟩ := Z2 hw4
  rw [hw] at cs hwle hbad hwl
  have b0 : ([w0, w1, w2, w3].map fun x => ([.s x] : List Lf))[(0 : Int).toNat]? = some [.s w0] := rfl
  have b1 : ([w0, w1, w2, w3].map fun x => ([.s x] : List Lf))[(1 : Int).toNat]? = some [.s w1] := rfl
  have b2 : ([w0, w1, w2, w3].map fun x => ([.s x] : List Lf))[(2 : Int).toNat]? = some [.s w2] := rfl
  have b3 : ([w0, w1, w2, w3].map fun x => ([.s x] : List Lf))[(3 : Int).toNat]? = some [.s w3] := rfl
  by_cases h1000 : o.length = 1000
  ·obtain ⟨p1, p2⟩ := hbad fun _ _ _ h _ _ _ => by omega
   rw [p1, p2]
   have f1 : ¬ ¬ ((([w0, w1, w2, w3].map fun x => ([.s x] : List Lf)).length : Nat) : Int) = 4 := fun k => k rfl
   have f2 : ((o.length : Nat) : Int) = 1000 := by omega
   repeat' (first
    | refine W ?_
    | refine Y ?_|(apply S.lenRT;exact rfl;exact rfl;exact rfl)|(refine T.nilU 2 rfl ?_;apply T.ret;change B6 _ _ _ _ _)
    | refine V ?_
    | (refine W2 ?_ ?_ <;> intro hc))
   all_goals exact D2 rfl rfl rfl
  have f1 : ¬ ¬ ((([w0, w1, w2, w3].map fun x => ([.s x] : List Lf)).length : Nat) : Int) = 4 := fun k => k rfl
  have f2 : ¬ ((o.length : Nat) : Int) = 1000 := by omega
  rcases Jx w2 (hwle w2 (by simp)) with ⟨lo, l1, l2, c2⟩ | ⟨n2, m2, c2⟩
  ·rcases Jx w3 (hwle w3 (by simp)) with ⟨hi, k1, k2, c3⟩ | ⟨n3, m3, c3⟩
   ·have cw := G9 ⟨w0, w1, lo, hi⟩
    by_cases hr : A9 ⟨w0, w1, lo, hi⟩
    ·rw [decide_eq_true hr] at cw
     have cl := K1 ⟨w0, w1, lo, hi⟩ hr
     have cp := Yj t ⟨w0, w1, lo, hi⟩
     by_cases hp : Lib.hasPrefix t (Aw (A8 ⟨w0, w1, lo, hi⟩)) = true
     ·rw [hp] at cp
      have hnx := Y1 hr hp
      have hI : s = Aa (o ++ [⟨w0, w1, lo, hi⟩]) ++ (Lib.cut t [10]).2.1 := by rw [Fq, Na, List.append_assoc, <- hnx];exact hs
      have hok : ∀ x ∈ o ++ [(⟨w0, w1, lo, hi⟩ : ConR)], A9 x := fun x hx => by
       rcases List.mem_append.1 hx with h | h
       ·exact ho x h
       ·obtain rfl := List.mem_singleton.1 h;exact hr
      have hl : (o ++ [(⟨w0, w1, lo, hi⟩ : ConR)]).length = o.length + 1 := by simp
      cases o with
      | nil =>
       repeat' (first
        | refine W ?_
        | refine Y ?_|(apply S.lenRT (cells := []);exact rfl;exact rfl;exact rfl)|refine Zi b0 ?_|refine Zi b1 ?_|refine Zi b2 ?_|refine Zi b3 ?_|(apply T.drawAll A2 (by decide +kernel))|(apply T.draw 11 A2 (by decide +kernel);simp only [td])|(apply S.nilNe;exact rfl;exact rfl)|(apply S.buildSlice1;(iterate 7 exact rfl))|(apply S.appendN 0 (rows := []);(iterate 8 exact rfl);exact A7 rfl;exact rfl;exact Nat.le_of_ble_eq_true rfl;exact Nat.le_of_ble_eq_true rfl)
        | refine V ?_
        | (refine W2 ?_ ?_ <;> intro hc))
       all_goals (change Next _ _ _ _ _ _)
       all_goals exact Next.go ⟨[] ++ [⟨w0, w1, lo, hi⟩], (Lib.cut t [10]).2.1⟩ ⟨hI, hok, by rw [hl];omega⟩ hlt CW (.live rfl .nil)
      | cons y o =>
       have hcl : (De (y :: o)).length = (o.length + 1) * 4 := Kl (y :: o)
       have hz0 : o.length + 1 <= 1000 := hlen
       have hC := J7 (y :: o) ⟨w0, w1, lo, hi⟩
       repeat' (first
        | refine W ?_
        | refine Y ?_|(apply S.lenRT;exact rfl;exact rfl;exact rfl)|refine Zi b0 ?_|refine Zi b1 ?_|refine Zi b2 ?_|refine Zi b3 ?_|(apply T.drawAll A2 (by decide +kernel))|(apply T.draw 11 A2 (by decide +kernel);simp only [td])|(apply S.nilNe;exact rfl;exact rfl)|(apply S.buildSlice1;(iterate 7 exact rfl))|(apply S.appendO;(iterate 8 exact rfl);exact hcl;exact A7 rfl;exact rfl;exact Ag _ _;simp only [List.length_cons, List.length_nil];omega;simp only [List.length_cons, List.length_nil];omega)
        | refine V ?_
        | (refine W2 ?_ ?_ <;> intro hc))
       all_goals (change Next _ _ _ _ _ _)
       all_goals exact Next.go ⟨(y :: o) ++ [⟨w0, w1, lo, hi⟩], (Lib.cut t [10]).2.1⟩ ⟨hI, hok, by rw [hl];omega⟩ hlt (by dsimp only;rw [hl];exact CW) (by dsimp only;rw [hl, hC];exact .live (by rw [<- List.map_append];exact Ao _ _) .nil)
     ·have hpf : Lib.hasPrefix t (Aw (A8 ⟨w0, w1, lo, hi⟩)) = false := by simpa using hp
      rw [hpf] at cp
      obtain ⟨p1, p2⟩ := hbad fun x g1 g2 _ g4 g5 g6 => by
       obtain ⟨e1, e2, e3, e4⟩ := G6 g2
       rw [e3] at l1
       rw [e4] at k1
       rw [g4] at l1
       rw [g5] at k1
       injection l1 with l1
       injection k1 with k1
       subst e1 e2 l1 k1
       exact hp g6
      rw [p1, p2]
      repeat' (first
       | refine W ?_
       | refine Y ?_|(apply S.lenRT;exact rfl;exact rfl;exact rfl)|refine Zi b0 ?_|refine Zi b1 ?_|refine Zi b2 ?_|refine Zi b3 ?_|(apply T.drawAll A2 (by decide +kernel))|(apply T.draw 11 A2 (by decide +kernel);simp only [td])|(apply S.nilNe;exact rfl;exact rfl)|(refine T.nilU 2 rfl ?_;apply T.ret;change B6 _ _ _ _ _)
       | refine V ?_
       | (refine W2 ?_ ?_ <;> intro hc))
      all_goals exact D2 rfl rfl rfl
    ·rw [decide_eq_false hr] at cw
     obtain ⟨p1, p2⟩ := hbad fun x g1 g2 _ g4 g5 g6 => by
      obtain ⟨e1, e2, e3, e4⟩ := G6 g2
      rw [e3] at l1
      rw [e4] at k1
      rw [g4] at l1
      rw [g5] at k1
      injection l1 with l1
      injection k1 with k1
      subst e1 e2 l1 k1
      exact hr g1
     rw [p1, p2]
     repeat' (first
      | refine W ?_
      | refine Y ?_|(apply S.lenRT;exact rfl;exact rfl;exact rfl)|refine Zi b0 ?_|refine Zi b1 ?_|refine Zi b2 ?_|refine Zi b3 ?_|(apply T.drawAll A2 (by decide +kernel))|(apply T.draw 11 A2 (by decide +kernel);simp only [td])|(apply S.nilNe;exact rfl;exact rfl)|(refine T.nilU 2 rfl ?_;apply T.ret;change B6 _ _ _ _ _)
      | refine V ?_
      | (refine W2 ?_ ?_ <;> intro hc))
     all_goals exact D2 rfl rfl rfl
   ·obtain ⟨p1, p2⟩ := hbad fun x _ g2 _ _ g5 _ => by
     obtain ⟨_, _, _, e4⟩ := G6 g2
     exact n3 _ (by rw [e4];exact g5)
    rw [p1, p2]
    repeat' (first
     | refine W ?_
     | refine Y ?_|(apply S.lenRT;exact rfl;exact rfl;exact rfl)|refine Zi b0 ?_|refine Zi b1 ?_|refine Zi b2 ?_|refine Zi b3 ?_|(apply T.drawAll A2 (by decide +kernel))|(apply T.draw 11 A2 (by decide +kernel);simp only [td])|(apply S.nilNe;exact rfl;exact rfl)|(apply S.errNe;exact rfl;exact rfl)|(refine T.nilU 2 rfl ?_;apply T.ret;change B6 _ _ _ _ _)
     | refine V ?_
     | (refine W2 ?_ ?_ <;> intro hc))
    all_goals exact D2 rfl rfl rfl
  ·obtain ⟨m3, e3, c3⟩ : ∃ (m3 : Int) (e3 : AV), Fn0 Tryz.prog 36 [.s w3] (.tup [.i m3, e3]) := by
    rcases Jx w3 (hwle w3 (by simp)) with ⟨hi, _, _, c3⟩ | ⟨_, m3, c3⟩
    ·exact ⟨_, _, c3⟩
    ·exact ⟨_, _, c3⟩
   obtain ⟨p1, p2⟩ := hbad fun x _ g2 _ g4 _ _ => by
    obtain ⟨_, _, e3, _⟩ := G6 g2
    exact n2 _ (by rw [e3];exact g4)
   rw [p1, p2]
   repeat' (first
    | refine W ?_
    | refine Y ?_|(apply S.lenRT;exact rfl;exact rfl;exact rfl)|refine Zi b0 ?_|refine Zi b1 ?_|refine Zi b2 ?_|refine Zi b3 ?_|(apply T.drawAll A2 (by decide +kernel))|(apply T.draw 11 A2 (by decide +kernel);simp only [td])|(apply S.errNe;exact rfl;exact rfl)|(refine T.nilU 2 rfl ?_;apply T.ret;change B6 _ _ _ _ _)
    | refine V ?_
    | (refine W2 ?_ ?_ <;> intro hc))
   all_goals exact D2 rfl rfl rfl
 ·have f1 : ¬ ((((Gd t).map fun x => ([.s x] : List Lf)).length : Nat) : Int) = 4 := by omega
  obtain ⟨p1, p2⟩ := hbad fun x _ g2 _ _ _ _ => hw4 (by have := congrArg List.length g2;simpa [Ak, A8] using this)
  rw [p1, p2]
  repeat' (first
   | refine W ?_
   | refine Y ?_|(refine T.nilU 2 rfl ?_;apply T.ret;change B6 _ _ _ _ _)
   | refine V ?_
   | (refine W2 ?_ ?_ <;> intro hc))
  all_goals exact D2 rfl rfl rfl
end Go.Proofs.YtlapbaiejnaeiaaGreatDoor
