/- Texts that the row needs: words on memory and rows, the contracts of the functions it reaches, and the plain lemmas on what they compute. -/
import Derived.Shelf.Strings.Split
import Derived.Test.YtaofjgnhapnndaaGreatDoorXksap
set_option maxHeartbeats 8000000
set_option maxRecDepth 100000
open Go.Proofs.YtaofjgnhapnndaaGreatDoorFks
namespace Go.Proofs.YtaofjgnhapnndaaGreatDoor.Q
open Go.RowKit Go.Proofs.YtaofjgnhapnndaaGreatDoorW.PrintWords Go.Proofs.YtaofjgnhapnndaaGreatDoorW.PrintLast Go.Proofs.YtaofjgnhapnndaaGreatDoorW.PrintMore
set_option linter.unusedVariables false
set_option linter.unusedSimpArgs false
open Go.Shelf Go.Lib
def fM : Go.Shelf.Ren :=
{
  f := fun x =>
    match x with
    | 146 => 10
    | 221 => 34
    | 268 => 62
    | 138 => 63
    | 143 => 64
    | 195 => 85
    | 197 => 86
    | 218 => 87
    | 219 => 88
    | 260 => 103
    | 217 => 104
    | 225 => 105
    | 224 => 106
    | 267 => 107
    | 266 => 131
    | 314 => 132
    | n => n,
  t := fun x =>
    match x with
    | 9 => 9
    | 31 => 27
    | 3 => 3
    | 4 => 4
    | 0 => 0
    | 105 => 92
    | 21 => 21
    | 5 => 5
    | 46 => 107
    | 119 => 138
    | 139 => 141
    | 138 => 140
    | 146 => 142
    | 51 => 125
    | n => n,
  g := fun x =>
    match x with
    | 1 => 0
    | 3 => 1
    | 4 => 2
    | n => n }
theorem Dx : Go.Proofs.Lays.n146 Tryz.prog fM :=
{ mixed := Eq.refl true, f138 := Eq.trans Tryz.func63 (congrArg some (Eq.refl (Body.n138 fM))),
  f143 := Eq.trans Tryz.func64 (congrArg some (Eq.refl (Body.n143 fM))),
  f146 := Eq.trans Tryz.func10 (congrArg some (Eq.refl (Body.n146 fM))),
  f195 := Eq.trans Tryz.func85 (congrArg some (Eq.refl (Body.n195 fM))),
  f197 := Eq.trans Tryz.func86 (congrArg some (Eq.refl (Body.n197 fM))),
  f217 := Eq.trans Tryz.func104 (congrArg some (Eq.refl (Body.n217 fM))),
  f218 := Eq.trans Tryz.func87 (congrArg some (Eq.refl (Body.n218 fM))),
  f219 := Eq.trans Tryz.func88 (congrArg some (Eq.refl (Body.n219 fM))),
  f221 := Eq.trans Tryz.func34 (congrArg some (Eq.refl (Body.n221 fM))),
  f224 := Eq.trans Tryz.func106 (congrArg some (Eq.refl (Body.n224 fM))),
  f225 := Eq.trans Tryz.func105 (congrArg some (Eq.refl (Body.n225 fM))),
  f260 := Eq.trans Tryz.func103 (congrArg some (Eq.refl (Body.n260 fM))),
  f266 := Eq.trans Tryz.func131 (congrArg some (Eq.refl (Body.n266 fM))),
  f267 := Eq.trans Tryz.func107 (congrArg some (Eq.refl (Body.n267 fM))),
  f268 := Eq.trans Tryz.func62 (congrArg some (Eq.refl (Body.n268 fM))),
  f314 := Eq.trans Tryz.func132 (congrArg some (Eq.refl (Body.n314 fM))), t0 := Tryz.underlying0,
  a0 := Tryz.isAgg0, z0 := Tryz.sizeOf0, v0 := Tryz.zeroValue0, t3 := Tryz.underlying3, a3 := Tryz.isAgg3,
  z3 := Tryz.sizeOf3, v3 := Tryz.zeroValue3, t4 := Tryz.underlying4, a4 := Tryz.isAgg4, z4 := Tryz.sizeOf4,
  v4 := Tryz.zeroValue4, t5 := Tryz.underlying5, a5 := Tryz.isAgg5, z5 := Tryz.sizeOf5, v5 := Tryz.zeroValue5,
  t9 := Tryz.underlying9, a9 := Tryz.isAgg9, z9 := Tryz.sizeOf9, v9 := Tryz.zeroValue9, t21 := Tryz.underlying21,
  a21 := Tryz.isAgg21, z21 := Tryz.sizeOf21, v21 := Tryz.zeroValue21, t31 := Tryz.underlying27, a31 := Tryz.isAgg27,
  z31 := Tryz.sizeOf27, v31 := Tryz.zeroValue27, t46 := Tryz.underlying107, a46 := Tryz.isAgg107, z46 := Tryz.sizeOf107,
  v46 := Tryz.zeroValue107, t51 := Tryz.underlying125, a51 := Tryz.isAgg125, z51 := Tryz.sizeOf125,
  v51 := Tryz.zeroValue125, t105 := Tryz.underlying92, a105 := Tryz.isAgg92, z105 := Tryz.sizeOf92,
  v105 := Tryz.zeroValue92, t119 := Tryz.underlying138, a119 := Tryz.isAgg138, z119 := Tryz.sizeOf138,
  t138 := Tryz.underlying140, a138 := Tryz.isAgg140, z138 := Tryz.sizeOf140, v138 := Tryz.zeroValue140,
  t139 := Tryz.underlying141, a139 := Tryz.isAgg141, z139 := Tryz.sizeOf141, v139 := Tryz.zeroValue141,
  t146 := Tryz.underlying142, a146 := Tryz.isAgg142, z146 := Tryz.sizeOf142, v146 := Tryz.zeroValue142,
  g1 := (by kernel_rfl), g3 := (by kernel_rfl),
  g4 := (by kernel_rfl) }
def jJ (w : World) : Prop := ∃ m, w.cell? ⟨fM.g 1, 0, none⟩ = some (.int .i64 m)
theorem jJ.below {w0 w w' : World} (h : jJ w) (hl : fM.g 1 < w0.heap.size) (hw : w0.heap.size ≤ w.heap.size) (hb : Below w0.heap.size w w') : jJ w' := by
 obtain ⟨m, hm⟩ := h
 refine ⟨m, ?_⟩
 rw [← hm]
 exact hb.cell hl
theorem Jm : (Tryz.prog.info? (fM.t 9)).map (fun i => (i.zero, i.size, i.bytes)) = some (some (.string ByteArray.empty), 1, 16) := by kernel_rfl
theorem XB (s sep : ByteArray) (w : World) (hm : jJ w) (hs : s.size < 4294967281) (h1 : 1 ≤ sep.size) :
  Calls Tryz.prog 10 #[.string s, .string sep] w fun e w' => ∃ v0_ : Value, e = .returned v0_ ∧ Kd.R Kd.string 9 w' w.heap.size (fun _ => True) v0_ (pieces s sep) ∧ Below w.heap.size w w' := by
 obtain ⟨m, hm⟩ := hm
 have hlen : (pieces s sep).length = Lib.countB s sep + 1 := Lib.splitB_all sep h1 0 _ s rfl
 have hle := Lib.countB_le sep h1 s.size s (Nat.le_refl _)
 have c := Any.strings_Split Dx Jm s sep m w hs hm h1
 change Calls Tryz.prog 10 _ _ _ at c
 refine c.mono ?_
 rintro e w' ⟨rfl, rfl⟩
 refine ⟨_, rfl, ?_, dZ (Below.refl _ _) _⟩
 rw [← hlen]
 refine JS (cs := ((pieces s sep).map Value.string).toArray) trivial (Nat.le_refl _) ?_ (by simp) (Nat.le_refl _) ?_ ?_
 ·show (w.heap.push _)[w.heap.size]? = _
  rw [Array.getElem?_push_size]; rfl
 ·rw [hlen]; unfold maxLen; omega
 rw [List.take_of_length_le (by simp)]
def Sess (w : World) (g : Nat) (l0 : List ByteArray) (l1 : List MB) : Prop := ∃ (A0 : Option Addr) (c0 : Nat) (A1 : Option Addr) (c1 : Nat), w.heap[g]? = some (.cells #[.slice A0 l0.length c0, .slice A1 l1.length c1] 37 (0, 0)) ∧ (Kd.C Kd.string w A0 l0.length l0 ∧ l0.length ≤ c0) ∧ Kd.C KB w A1 l1.length l1 ∧ l1.length ≤ c1
theorem Sess.below {w w' : World} {g : Nat} {l0 : List ByteArray} {l1 : List MB} (h : Sess w g l0 l1) (hb : Below w.heap.size w w') : Sess w' g l0 l1 := by
 obtain ⟨A0, c0, A1, c1, h1, ⟨h2, h3⟩, h4, h5⟩ := h
 exact ⟨A0, c0, A1, c1, aV h1 hb, ⟨Kd.aM h2 hb, h3⟩, Kd.aM h4 hb, h5⟩
theorem Sess.lt {w : World} {g : Nat} {l0 : List ByteArray} {l1 : List MB} (h : Sess w g l0 l1) : g < w.heap.size := by
 obtain ⟨A0, c0, A1, c1, h1, _⟩ := h
 exact dU h1
structure WsAt (w : World) (b c : Nat) (ws : List ByteArray) : Prop where
  cap : ws.length ≤ c
  read : Kd.C Kd.string w (some ⟨b, 0, none⟩) ws.length ws
section
variable {w w' : World} {b c g : Nat} {ws t r1 : List ByteArray} {r2 : List MB} {v0 v1 : Value}
theorem WsAt.cell (h : WsAt w b c ws) (i : Nat) (hi : i < ws.length) : w.cell? ⟨b, i, none⟩ = some (.string (gS ws i)) := by
 obtain ⟨ad, e, hx⟩ := Kd.uX h.read (i : Int) (by omega) (by omega)
 obtain rfl := Option.some.inj e
 rw [Int.toNat_natCast, kY] at hx
 have e3 : (⟨b, 0, none⟩ : Addr).add i = ⟨b, i, none⟩ := by
  unfold Addr.add
  split
  ·rename_i h0; rw [h0]
  ·simp
 rw [e3] at hx
 exact hx
theorem WsAt.below (h : WsAt w b c ws) (hb : Below w.heap.size w w') : WsAt w' b c ws := ⟨h.cap, Kd.aM h.read hb⟩
theorem WsAt.cut (h : WsAt w b c ws) (m : Nat) (hm : m ≤ ws.length) : ∃ (A' : Option Addr) (c' : Nat), (∀ W : World, (Instr.slice 27 (.slice (some ⟨b, 0, none⟩) ws.length c) (some (.int .i64 (m : Int))) none none).run Tryz.prog W = .ok (.slice A' (ws.drop m).length c') W) ∧ Kd.C Kd.string w A' (ws.drop m).length (ws.drop m) ∧ (ws.drop m).length ≤ c' := by
 obtain ⟨i0, YF, _, hsz, _⟩ := info_parts jP
 have hcut := I7 (P := Tryz.prog) 27 9 .i64 Tryz.underlying27 YF 1 hsz (some ⟨b, 0, none⟩) ws.length c (m : Int) (by omega) (by omega)
 have hl : (ws.drop m).length = ws.length - m := List.length_drop
 have hcap := h.cap
 refine ⟨if c = m then some ⟨b, 0, none⟩ else (some (⟨b, 0, none⟩ : Addr)).map (·.add (m * Kd.string.sz)), c - m, fun W => ?_, Kd.Fp h.read hm hcap, by rw [hl]; omega⟩
 rw [hcut W, hl, Int.toNat_natCast]
 rfl
theorem jV (s : ByteArray) (x : UInt8) (w : World) (hm : jJ w) (hs : s.size < 4294967281) :
  Calls Tryz.prog 10 #[.string s, .string ⟨#[x]⟩] w fun e w' => ∃ b c : Nat, e = .returned (.slice (some ⟨b, 0, none⟩) (pieces s ⟨#[x]⟩).length c) ∧ WsAt w' b c (pieces s ⟨#[x]⟩) ∧ w.heap.size ≤ b ∧ Below w.heap.size w w' := by
 refine (XB s ⟨#[x]⟩ w hm hs (by show 1 ≤ 1; omega)).mono ?_
 rintro e w' ⟨v, rfl, hr, hb⟩
 have hne := sW x s
 obtain ⟨A, c, rfl⟩ := Kd.cB hr
 rcases zJ hr with ⟨_, _, e2⟩ | ⟨g, cur, rfl, _, h4, _⟩
 ·exact absurd e2 hne
 exact ⟨g, c, rfl, ⟨(Kd.bI hr).2.1, (Kd.bI hr).2.2⟩, h4, hb⟩
def NewB (w w' : World) (v0 v1 : Value) (r1 : List ByteArray) (r2 : List MB) : Prop := Kd.R Kd.string 9 w' w.heap.size (fun _ => True) v0 r1 ∧ Kd.S KB 66 w' w.heap.size (fun k_ => some k_ ≠ (v0 : Value).ownBlock) v1 r2
theorem NewB.slices (h : NewB w w' v0 v1 r1 r2) : ∃ (A0 : Option Addr) (c0 : Nat) (A1 : Option Addr) (c1 : Nat), v0 = .slice A0 r1.length c0 ∧ v1 = .slice A1 r2.length c1 := by
 obtain ⟨A0, c0, e0⟩ := Kd.cB h.1
 obtain ⟨A1, c1, e1⟩ := Kd.yH h.2
 exact ⟨A0, c0, A1, c1, e0, e1⟩
theorem NewB.sess {w2 : World} {A0 A1 : Option Addr} {c0 c1 : Nat} (h : NewB w w' (.slice A0 r1.length c0) (.slice A1 r2.length c1) r1 r2) (hg : g < w.heap.size) (hk : Kept w' w2 (fun k => k = g))
  (he : w2.heap[g]? = some (.cells #[.slice A0 r1.length c0, .slice A1 r2.length c1] 37 (0, 0))) : Sess w2 g r1 r2 := by
 have h0 := Kd.sK (Kd.bG (Kd.lL h.1) (fun k hk => hk.2.1)) hk (fun k h e => by omega)
 have h1 := Kd.SL (Kd.fU (Kd.lC h.2) (fun k hk => hk.2.1)) hk (fun k h e => by omega)
 exact ⟨A0, c0, A1, c1, he, ⟨(Kd.bI h0).2.2, (Kd.bI h0).2.1⟩, (Kd.lX h1).2.2, (Kd.lX h1).2.1⟩
def Ans (w : World) (g : Nat) (r1 : List ByteArray) (r2 : List MB) (r : ByteArray) (e : Ending) (w' : World) : Prop := e = .returned (.string r) ∧ Sess w' g r1 r2 ∧ Below g w w'
theorem rC {r : ByteArray} (hS : Sess w g r1 r2) (hb : Below w.heap.size w w') : Ans w g r1 r2 r (.returned (.string r)) w' := ⟨rfl, hS.below hb, hb.mono (Nat.le_of_lt hS.lt)⟩
end
section
variable {w w1 : World} {b c g : Nat} {ws l0 : List ByteArray} {l1 : List MB} {A0 A1 : Option Addr} {c0 c1 : Nat}
theorem lQ (hS : Sess w g l0 l1) : ∃ (A0 : Option Addr) (c0 : Nat) (A1 : Option Addr) (c1 : Nat), aD (w.heap[g]? = some (.cells #[.slice A0 l0.length c0, .slice A1 l1.length c1] 37 (0, 0))) ∧ aD (Kd.C Kd.string w A0 l0.length l0) ∧ aD (l0.length ≤ c0) ∧ aD (Kd.C KB w A1 l1.length l1) ∧ aD (l1.length ≤ c1) := by
 obtain ⟨A0, c0, A1, c1, h1, ⟨h2, h3⟩, h4, h5⟩ := hS
 exact ⟨A0, c0, A1, c1, ⟨h1⟩, ⟨h2⟩, ⟨h3⟩, ⟨h4⟩, ⟨h5⟩⟩
theorem oP (h : 0 < ws.length) : decide (0 < (ws.length : Int)) = true ∧ decide (0 < ws.length) = true ∧ ((0 : Int) < (ws.length : Int)) = True ∧ (0 < ws.length) = True := ⟨decide_eq_true (by omega), decide_eq_true h, eq_true (by omega), eq_true h⟩
theorem AB (h : 1 < ws.length) : decide (1 < (ws.length : Int)) = true ∧ decide (1 < ws.length) = true ∧ ((1 : Int) < (ws.length : Int)) = True ∧ (1 < ws.length) = True := ⟨decide_eq_true (by omega), decide_eq_true h, eq_true (by omega), eq_true h⟩
theorem nT (hws : WsAt w1 b c ws) (hb : Below w.heap.size w w1) (HG : aD (w.heap[g]? = some (.cells #[.slice A0 l0.length c0, .slice A1 l1.length c1] 37 (0, 0)))) (h : aD (0 < ws.length)) : aD (WsAt w1 b c ws) ∧ aD (Below w.heap.size w w1) ∧ aD (w1.heap[g]? = some (.cells #[.slice A0 l0.length c0, .slice A1 l1.length c1] 37 (0, 0))) ∧
    w1.cell? ⟨b, 0, none⟩ = some (.string (gS ws 0)) ∧ w1.cell? ⟨g, 0, none⟩ = some (.slice A0 l0.length c0) ∧ w1.cell? ⟨g, 1, none⟩ = some (.slice A1 l1.length c1) ∧ w1.frozen? ⟨g, 0, none⟩ = false ∧ w1.frozen? ⟨g, 1, none⟩ = false :=
  have h1 := aV HG.out hb
  ⟨⟨hws⟩, ⟨hb⟩, ⟨h1⟩, hws.cell 0 h.out, (aH h1 0).trans rfl, (aH h1 1).trans rfl, bL h1 0, bL h1 1⟩
end
def IsW (ws : List ByteArray) (l : List UInt8) (v : Bool) : Prop := ((gS ws 0).toList == l) = v
def IsL (s : ByteArray) (l : List UInt8) (v : Bool) : Prop := (s.toList == l) = v
mutual
def dH.l0 : Nat → List ByteArray → Int → Int → List ByteArray → List (S66) → Option (List ByteArray)
 | 0, _, _, _, _, _ => none
 | k + 1, e, b, c, d, a => if c < (a.length : Int) then (if b ≥ 0 then ((aG.f k d a).bind fun g => (dH.j1 k e b c g d a)) else (dH.j1 k e b c false d a)) else (dH.j1 k e b c false d a)
def dH.j1 : Nat → List ByteArray → Int → Int → Bool → List ByteArray → List (S66) → Option (List ByteArray)
 | 0, _, _, _, _, _, _ => none
 | k + 1, d, c, a, g, e, b => if g = true then (if a = c then (dH.l0 k d c (wrap64 (a + 1)) e b) else (if 0 ≤ a then (if a < (b.length : Int) then (if 0 ≤ c then (if c < (b.length : Int) then ((dW.f k ((aA b a).f1) ((aA b c).f2)).bind fun h => (if h = true then (if d.length < 8796093022208 then (dH.l0 k (d ++ [(aA b a).f0]) c (wrap64 (a + 1)) e b) else (none)) else (dH.l0 k d c (wrap64 (a + 1)) e b))) else (none)) else (none)) else (none)) else (none))) else (some d)
end
def dH.f (k : Nat) (aQ : List ByteArray) (aE : List (S66)) (a1 : ByteArray) : Option (List ByteArray) := (gG.f k aQ aE a1).bind fun a => (dH.l0 k (([] : List ByteArray)) a 0 aQ aE)
theorem dH.calls (k : Nat) (dD : Option Addr) (dE : Nat) (aQ : List ByteArray) (dS : Option Addr) (dB : Nat) (aE : List (S66)) (a1 : ByteArray) (r : List ByteArray) (w : World) (fL : Kd.C Kd.string w dD aQ.length aQ) (fJ : aQ.length ≤ dE) (fH : Kd.C k66 w dS aE.length aE) (fK : aE.length ≤ dB) (h : dH.f k aQ aE a1 = some r) :
  Calls Tryz.prog 32 #[.agg #[.slice dD aQ.length dE, .slice dS aE.length dB], .string a1] w fun e w' => ∃ v0_ : Value, e = .returned (v0_) ∧ Kd.R Kd.string 9 w' w.heap.size (fun _ => True) v0_ r ∧ Below w.heap.size w w' := by
 have hu31 := Tryz.underlying31
 obtain ⟨cS, cO⟩ := mZ2 fL fJ
 obtain ⟨bE, dL⟩ := mZ2 fH fK
 clear fL fJ fH fK
 have HB := am (Below.refl w.heap.size w)
 unfold dH.f at h
 have H := h
 clear h
 obtain ⟨M4, hy102⟩ : ∃ y_ : List ByteArray, y_ = (([] : List ByteArray)) := ⟨_, rfl⟩
 replace H : ((gG.f k aQ aE a1).bind fun t105 => (dH.l0 k M4 t105 0 aQ aE)) = some r := by first | (rw [hy102]; with_reducible exact H) | (have H2_ := (Option.bind_some _ _).symm.trans H; rw [hy102]; with_reducible exact H2_) | (have H2_ := (Option.bind_some _ _).symm.trans H; with_reducible exact H2_) | with_reducible exact H | (rw [hy102]; exact H) | exact H
 have wJ := am hy102
 clear hy102
 obtain ⟨t105, A3, H⟩ := bd H
 have H' := am H
 repeat clear H
 go_enter Tryz.func32, Tryz.ntmps32
 go_wp2_with (first | ((with_reducible refine gD 2 ?_); refine bX 2 #[.slice dD aQ.length dE, .slice dS aE.length dB] 31 ?_; intro aZ hg w4 hbox hb; have aC := am hbox; have gU := am (nS : w.heap.size ≤ aZ); have iL := gU; replace HB := bS gL hb; clear hb hbox hg) | ((with_reducible refine dF (N := 8) rfl ?_); refine lS 9 8 wJ ?_; intro Q7 w5 WC hb; have pN := am (Kd.eF WC (aK dQ)); replace aC := bB bJ hb; replace HB := bS dQ hb; clear hb WC; have Z7 := cz2 aC) | (go_at_call 48; refine cM (gG.calls k _ _ aQ _ _ aE a1 t105 _ (pB cS) cO.1 (pB bE) dL.1 A3.out) ?_; rintro w8 hb; replace pN := am (Kd.iI (rR pN.1) hb); replace aC := bB bJ hb; replace HB := bS dQ hb; clear hb))
 repeat (go_quiet (first | ((with_reducible refine gD 2 ?_); refine bX 2 #[.slice dD aQ.length dE, .slice dS aE.length dB] 31 ?_; intro aZ hg w4 hbox hb; have aC := am hbox; have gU := am (nS : w.heap.size ≤ aZ); have iL := am (nS : w.heap.size ≤ aZ); replace HB := bS gL hb; clear hb hbox hg) | ((with_reducible refine dF (N := 8) rfl ?_); refine Kd.H6 Kd.string _ 9 ?hg (N := 8) ?hd (xs := ([] : List ByteArray)) (inner := []) (ok := fun _ => True) (okp := fun _ => True) ?hr ?hp (fun _ hk => hk) trivial (Below.refl _ _) (Nat.le_refl _) (by simp) ?_; (case hd => rfl); (case hg => rfl); (case hr => first | (go_simp; done) | (go_simp; rfl)); (case hp => exact (Reps.none _ _)); intro Q7 w5 WC hb hg_ hnew_; clear hg_ hnew_; (first | rw [← wJ.out] at WC | (simp only [Int.reduceToNat] at WC; rw [← wJ.out] at WC)); have pN := am (Kd.eF WC (aK dQ)); replace aC := bB bJ hb; replace HB := bS dQ hb; clear hb WC; obtain ⟨Xa, Xb, Xc, Xd⟩ := cz2 aC) | (go_at_call 48; refine cM (gG.calls k _ _ aQ _ _ aE a1 t105 _ (pB cS) cO.1 (pB bE) dL.1 A3.out) ?_; rintro w8 hb; replace pN := am (Kd.iI (rR pN.1) hb); replace aC := bB bJ hb; replace HB := bS dQ hb; (try clear hb))); try go_wp2_with (first | ((with_reducible refine gD 2 ?_); refine bX 2 #[.slice dD aQ.length dE, .slice dS aE.length dB] 31 ?_; intro aZ hg w4 hbox hb; have aC := am hbox; have gU := am (nS : w.heap.size ≤ aZ); have iL := am (nS : w.heap.size ≤ aZ); replace HB := bS gL hb; clear hb hbox hg) | ((with_reducible refine dF (N := 8) rfl ?_); refine Kd.H6 Kd.string _ 9 ?hg (N := 8) ?hd (xs := ([] : List ByteArray)) (inner := []) (ok := fun _ => True) (okp := fun _ => True) ?hr ?hp (fun _ hk => hk) trivial (Below.refl _ _) (Nat.le_refl _) (by simp) ?_; (case hd => rfl); (case hg => rfl); (case hr => first | (go_simp; done) | (go_simp; rfl)); (case hp => exact (Reps.none _ _)); intro Q7 w5 WC hb hg_ hnew_; clear hg_ hnew_; (first | rw [← wJ.out] at WC | (simp only [Int.reduceToNat] at WC; rw [← wJ.out] at WC)); have pN := am (Kd.eF WC (aK dQ)); replace aC := bB bJ hb; replace HB := bS dQ hb; clear hb WC; obtain ⟨Xa, Xb, Xc, Xd⟩ := cz2 aC) | (go_at_call 48; refine cM (gG.calls k _ _ aQ _ _ aE a1 t105 _ (pB cS) cO.1 (pB bE) dL.1 A3.out) ?_; rintro w8 hb; replace pN := am (Kd.iI (rR pN.1) hb); replace aC := bB bJ hb; replace HB := bS dQ hb; (try clear hb))))
 go_loopg [5, 7] k (fun kq v5 v7 w' => ∃ (dK : List ByteArray) (j8 : Int), v7 = .int .i64 j8 ∧ aD (dH.l0 kq dK t105 j8 aQ aE = some r) ∧ aD (kq ≤ k) ∧ aD (Kd.R Kd.string 9 w' w.heap.size (fun _ => True) v5 dK) ∧ aD (w'.heap[aZ]? = some (.cells #[(.slice dD aQ.length dE), (.slice dS aE.length dB)] 31 (0, 0))) ∧ aD (Below w.heap.size w w'))
 case atStart => exact ⟨(M4), (0), eS, H', ⟨Nat.le_refl _⟩, ⟨rR pN.1⟩, ⟨rB aC.1⟩, ⟨dQ⟩⟩
 clear H'
 try clear Z7
 obtain ⟨dK, j8, rfl, HA, HK1, yY, aC, HB⟩ := hrel
 cases gk with
 | zero => exact absurd HA.out (by simp [dH.l0])
 | succ k1 =>
  have H := HA.out
  clear HA
  simp only [dH.l0] at H
  have oc := am H
  clear H
  go_upto_region 4 with ((fail))
  repeat (go_quiet (fail); go_upto_region 4 with (fail))
  go_cut [24] (fun v24 wc => ∃ (kq : Nat) (Lq : Bool), v24 = .bool Lq ∧ aD (dH.j1 kq dK t105 j8 Lq aQ aE = some r) ∧ aD (kq ≤ k1) ∧ aD (Kd.R Kd.string 9 wc w.heap.size (fun _ => True) u5 dK) ∧ aD (wc.heap[aZ]? = some (.cells #[(.slice dD aQ.length dE), (.slice dS aE.length dB)] 31 (0, 0))) ∧ aD (Below w.heap.size w wc))
  case first =>
   have H := oc.1
   clear oc
   refine ic H ?_ ?_ <;> clear H <;> intro yI H
   ·(first | rw [yI] | (simp only [rZ, xP]; rw [yI]) | skip)
    by_cases Nr : t105 ≥ 0
    ·rw [if_pos Nr] at H
     have C9 : decide (0 ≤ t105) = true := decide_eq_true Nr
     clear Nr
     obtain ⟨JB, Mc, H⟩ := bd H
     have H' := am H
     repeat clear H
     have Nl := cz2 aC
     go_wp2_with (first | (go_at_call 21; refine cM (aG.calls k1 _ _ aQ _ _ aE JB _ (pB cS) cO.1 (pB bE) dL.1 Mc.out) ?_; rintro Yu hb; replace yY := RB WY hb; replace aC := bB bJ hb; replace HB := bS dQ hb; clear hb))
     repeat (go_quiet (first | (go_at_call 21; refine cM (aG.calls k1 _ _ aQ _ _ aE JB _ (pB cS) cO.1 (pB bE) dL.1 Mc.out) ?_; rintro Yu hb; replace yY := RB WY hb; replace aC := bB bJ hb; replace HB := bS dQ hb; (try clear hb))); try go_wp2_with (first | (go_at_call 21; refine cM (aG.calls k1 _ _ aQ _ _ aE JB _ (pB cS) cO.1 (pB bE) dL.1 Mc.out) ?_; rintro Yu hb; replace yY := RB WY hb; replace aC := bB bJ hb; replace HB := bS dQ hb; (try clear hb))))
     go_meet
     case rel => exact ⟨_, (JB), eS, H', ⟨by have := HK1.out; first | omega | exact Nat.le_refl _⟩, ⟨rR yY.1⟩, ⟨rB aC.1⟩, ⟨dQ⟩⟩
    ·rw [if_neg Nr] at H
     have C9 : decide (0 ≤ t105) = false := decide_eq_false Nr
     clear Nr
     have H' := am H
     repeat clear H
     have dy := cz2 aC
     go_wp2
     repeat (go_quiet (fail); try go_wp2)
     go_meet
     case rel => exact ⟨_, (false), eS, H', ⟨by have := HK1.out; first | omega | exact Nat.le_refl _⟩, ⟨rR yY.1⟩, ⟨rB aC.1⟩, ⟨dQ⟩⟩
   ·(first | rw [yI] | (simp only [rZ, xP]; rw [yI]) | skip)
    have H' := am H
    repeat clear H
    have uo := cz2 aC
    go_wp2
    repeat (go_quiet (fail); try go_wp2)
    go_meet
    case rel => exact ⟨_, (false), eS, H', ⟨by have := HK1.out; first | omega | exact Nat.le_refl _⟩, ⟨rR yY.1⟩, ⟨rB aC.1⟩, ⟨dQ⟩⟩
  case rest =>
   clear oc
   try clear Z7
   obtain ⟨kq, Lq, rfl, HA, HJ8, yY, aC, HB⟩ := hcut
   cases kq with
   | zero => exact absurd HA.out (by simp [dH.j1])
   | succ kj8 =>
    have H := HA.out
    clear HA
    simp only [dH.j1] at H
    refine tC H ?_ ?_ <;> (repeat clear H) <;> intro Za H <;> subst Za
    ·refine iq H ?_ ?_ <;> clear H <;> intro Dc ET fo H
     ·have H' := am H
      repeat clear H
      go_wp2
      repeat (go_quiet (fail); try go_wp2)
      go_roundg kj8
      case measure => have := HK1.out; have := HJ8.out; omega
      case rel => exact ⟨(dK), (wrap64 (j8 + 1)), eS, H', ⟨by have := HK1.out; have := HJ8.out; omega⟩, ⟨rR yY.1⟩, ⟨rB aC.1⟩, ⟨dQ⟩⟩
     ·obtain ⟨fp, H⟩ := cN H
      obtain ⟨Rm, H⟩ := cN H
      obtain ⟨Rn, H⟩ := cN H
      obtain ⟨Ro, H⟩ := cN H
      obtain ⟨wX, S4, H⟩ := bd H
      refine tC H ?_ ?_ <;> clear H <;> intro VL H <;> subst VL
      ·obtain ⟨Gi, H⟩ := cL H
       obtain ⟨ZQ, vO⟩ := yv (dK ++ [(aA aE j8).f0]); first | replace H := bW vO H | rw [← vO.1] at H
       have H' := am H
       repeat clear H
       have ox := cz2 aC
       obtain ⟨rY, tJ, tZ, tK, u4, BH, rH, n4, n5, kV, mU, qE, vG, U9, UL⟩ := aT66 bE HB j8
       cases BH
       obtain ⟨VB, Fe, Ia, Ff, Ib, Im, TW, MR, MS, ME, S5, wQ, y9, jk, jo⟩ := aT66 bE HB t105
       obtain rfl : rY = VB := (by injection Im)
       go_wp2_with (first | (go_at_call 53; refine cM (dW.calls kj8 _ _ ((aA aE j8).f1) _ _ ((aA aE t105).f2) true _ (pB kV) mU.1 (pB wQ) y9.1 S4.out) ?_; rintro w' ⟨nd, rfl⟩; (try exact dR); obtain ⟨NO, RY, TC, RZ, TD, TL, MT, BO, BP, MF, M7, MG, M8, Ph, Pl⟩ := aT66 bE HB j8; obtain rfl : rY = NO := (by injection TL); obtain ⟨ea_, ec_⟩ := eZ2 n4 BO; subst ea_; subst ec_; obtain ⟨ea_, ec_⟩ := eZ2 n5 BP; subst ea_; subst ec_) | ((with_reducible refine fA (b := .append) (xs := #[.tmp 45, .tmp 52]) rfl ?_); at_builtin; refine Kd.jD Kd.string (w0 := w) w.heap.size rfl (.tmp 45) (.tmp 52) 27 9 (.string ⟨#[]⟩) 16 rfl Tryz.underlying27 jP rfl (by decide) (by omega) u5 dK ((aA aE j8).f0) [.string ((aA aE j8).f0)] (fun _ => True) (fun _ => False) rfl rfl ?aP (fun _ hk => hk.elim) ?aF ?aO ?aB ?aS ?aL ?_; (case aP => exact rfl); (case aB => exact dQ); (case aF => exact (fun _ _ => trivial)); (case aO => exact WY); (case aS => exact (aK dQ)); (case aL => have := Gi.out; omega); intro Lg kc ho hb hg hat; rw [← vO.out] at ho; replace aC := gkR bJ hg yY aC; replace HB := am hb; have GX := am ho; clear yY; clear ho hb hg hat))
       repeat (go_quiet (first | (go_at_call 53; refine cM (dW.calls kj8 _ _ ((aA aE j8).f1) _ _ ((aA aE t105).f2) true _ (pB kV) mU.1 (pB wQ) y9.1 S4.out) ?_; rintro w' ⟨nd, rfl⟩; (try exact dR); obtain ⟨NO, RY, TC, RZ, TD, TL, MT, BO, BP, MF, M7, MG, M8, Ph, Pl⟩ := aT66 bE HB j8; obtain rfl : rY = NO := (by injection TL); have ea_ := Option.some.inj (n4.symm.trans BO); injection ea_ with ea_ en_ ec_; subst ea_; subst ec_; clear en_; have ea_ := Option.some.inj (n5.symm.trans BP); injection ea_ with ea_ en_ ec_; subst ea_; subst ec_; clear en_) | ((with_reducible refine fA (b := .append) (xs := #[.tmp 45, .tmp 52]) rfl ?_); at_builtin; refine Kd.jD Kd.string (w0 := w) w.heap.size rfl (.tmp 45) (.tmp 52) 27 9 (.string ⟨#[]⟩) 16 rfl Tryz.underlying27 jP rfl (by decide) (by omega) u5 dK ((aA aE j8).f0) [.string ((aA aE j8).f0)] (fun _ => True) (fun _ => False) rfl rfl ?aP (fun _ hk => hk.elim) ?aF ?aO ?aB ?aS ?aL ?_; (case aP => exact rfl); (case aB => exact dQ); (case aF => exact (fun _ _ => trivial)); (case aO => exact WY); (case aS => exact (aK dQ)); (case aL => have := Gi.out; omega); intro Lg kc ho hb hg hat; rw [← vO.out] at ho; replace aC := gkR bJ hg yY aC; replace HB := am hb; have GX := am ho; clear yY; clear ho hb hg hat)); try go_wp2_with (first | (go_at_call 53; refine cM (dW.calls kj8 _ _ ((aA aE j8).f1) _ _ ((aA aE t105).f2) true _ (pB kV) mU.1 (pB wQ) y9.1 S4.out) ?_; rintro w' ⟨nd, rfl⟩; (try exact dR); obtain ⟨NO, RY, TC, RZ, TD, TL, MT, BO, BP, MF, M7, MG, M8, Ph, Pl⟩ := aT66 bE HB j8; obtain rfl : rY = NO := (by injection TL); have ea_ := Option.some.inj (n4.symm.trans BO); injection ea_ with ea_ en_ ec_; subst ea_; subst ec_; clear en_; have ea_ := Option.some.inj (n5.symm.trans BP); injection ea_ with ea_ en_ ec_; subst ea_; subst ec_; clear en_) | ((with_reducible refine fA (b := .append) (xs := #[.tmp 45, .tmp 52]) rfl ?_); at_builtin; refine Kd.jD Kd.string (w0 := w) w.heap.size rfl (.tmp 45) (.tmp 52) 27 9 (.string ⟨#[]⟩) 16 rfl Tryz.underlying27 jP rfl (by decide) (by omega) u5 dK ((aA aE j8).f0) [.string ((aA aE j8).f0)] (fun _ => True) (fun _ => False) rfl rfl ?aP (fun _ hk => hk.elim) ?aF ?aO ?aB ?aS ?aL ?_; (case aP => exact rfl); (case aB => exact dQ); (case aF => exact (fun _ _ => trivial)); (case aO => exact WY); (case aS => exact (aK dQ)); (case aL => have := Gi.out; omega); intro Lg kc ho hb hg hat; rw [← vO.out] at ho; replace aC := gkR bJ hg yY aC; replace HB := am hb; have GX := am ho; clear yY; clear ho hb hg hat)))
       go_roundg kj8
       case measure => have := HK1.out; have := HJ8.out; omega
       case rel => exact ⟨(ZQ), (wrap64 (j8 + 1)), eS, H', ⟨by have := HK1.out; have := HJ8.out; omega⟩, ⟨rR GX.1⟩, ⟨rB aC.1⟩, ⟨dQ⟩⟩
      ·have H' := am H
       repeat clear H
       have vd := cz2 aC
       obtain ⟨rY, tJ, tZ, tK, u4, BH, rH, n4, n5, kV, mU, qE, vG, U9, UL⟩ := aT66 bE HB j8
       cases BH
       obtain ⟨VB, Fe, Ia, Ff, Ib, Im, TW, MR, MS, ME, S5, wQ, y9, jk, jo⟩ := aT66 bE HB t105
       obtain rfl : rY = VB := (by injection Im)
       go_wp2_with (first | (go_at_call 53; refine cM (dW.calls kj8 _ _ ((aA aE j8).f1) _ _ ((aA aE t105).f2) false _ (pB kV) mU.1 (pB wQ) y9.1 S4.out) ?_; rintro w' ⟨nd, rfl⟩; (try exact dR)))
       repeat (go_quiet (first | (go_at_call 53; refine cM (dW.calls kj8 _ _ ((aA aE j8).f1) _ _ ((aA aE t105).f2) false _ (pB kV) mU.1 (pB wQ) y9.1 S4.out) ?_; rintro w' ⟨nd, rfl⟩; (try exact dR))); try go_wp2_with (first | (go_at_call 53; refine cM (dW.calls kj8 _ _ ((aA aE j8).f1) _ _ ((aA aE t105).f2) false _ (pB kV) mU.1 (pB wQ) y9.1 S4.out) ?_; rintro w' ⟨nd, rfl⟩; (try exact dR))))
       go_roundg kj8
       case measure => have := HK1.out; have := HJ8.out; omega
       case rel => exact ⟨(dK), (wrap64 (j8 + 1)), eS, H', ⟨by have := HK1.out; have := HJ8.out; omega⟩, ⟨rR yY.1⟩, ⟨rB aC.1⟩, ⟨dQ⟩⟩
    ·obtain rfl := Option.some.inj H
     repeat clear H
     go_wp2
     repeat (go_quiet (fail); try go_wp2)
     go_ret
     exact ⟨_, eR, rR yY.1, dQ⟩
end Go.Proofs.YtaofjgnhapnndaaGreatDoor.Q
namespace Go.Proofs.YtaofjgnhapnndaaGreatDoor.Q
open Go.RowKit Go.Proofs.YtaofjgnhapnndaaGreatDoorW.PrintWords Go.Proofs.YtaofjgnhapnndaaGreatDoorW.PrintLast Go.Proofs.YtaofjgnhapnndaaGreatDoorW.PrintMore
set_option linter.unusedVariables false
set_option linter.unusedSimpArgs false
mutual
def bN.j0 : Nat → Int → Bool → List ByteArray → List (S66) → Option (List ByteArray)
 | 0, _, _, _, _ => none
 | k + 1, b, c, d, a => if c = true then (some ([] : List ByteArray)) else (bN.l0 k b (([] : List ByteArray)) a (a.length : Int) 0 d a)
def bN.l0 : Nat → Int → List ByteArray → List (S66) → Int → Int → List ByteArray → List (S66) → Option (List ByteArray)
 | 0, _, _, _, _, _, _, _ => none
 | k + 1, b, d, c, g, a, h, e => if a < g then (if 0 ≤ a then (if a < (c.length : Int) then (if a = b then (bN.l0 k b d c g (wrap64 (a + 1)) h e) else (if 0 ≤ b then (if b < (e.length : Int) then ((iT.f ((aA c a).f1) ((aA e b).f2)).bind fun i => (if i = true then (if d.length < 8796093022208 then (bN.l0 k b (d ++ [(aA c a).f0]) c g (wrap64 (a + 1)) h e) else (none)) else (bN.l0 k b d c g (wrap64 (a + 1)) h e))) else (none)) else (none))) else (none)) else (none)) else (some d)
end
def bN.f (k : Nat) (aQ : List ByteArray) (aE : List (S66)) (a1 : ByteArray) : Option (List ByteArray) := (eP.f aQ aE a1).bind fun a => ((aI.f k aQ aE).bind fun b => (if b = true then (bN.j0 k a (decide (a < 0)) aQ aE) else (bN.j0 k a true aQ aE)))
def bN.T8 : Bool × List (List Nat × List Nat) := (true, [([], []), ([], []), ([0, 1], [0, 1]), ([2], [2]), ([3], [3]), ([4, 3], [3, 4]), ([3], [3]), ([6, 3], [3, 6]), ([3], [3]), ([7, 8, 3], [3, 7, 8]), ([9, 3], [3, 9]), ([10, 3], [3, 10]), ([5, 11, 3, 3], [3, 5, 11]), ([3, 12], [3, 12])])
def bN.B8 : List Nat := [0, 0, 3, 7, 15, 31, 15, 79, 15, 463, 975, 1999, 4095, 8191]
theorem bN.tab8 : rtab .any (opsOf Tryz.f46 8) = bN.T8 := by kernel_rfl
theorem bN.Ht : nV bN.T8.2 bN.B8 = true := by kernel_rfl
theorem bN.calls (k : Nat) (dD : Option Addr) (dE : Nat) (aQ : List ByteArray) (dS : Option Addr) (dB : Nat) (aE : List (S66)) (a1 : ByteArray) (r : List ByteArray) (w : World) (fL : Kd.C Kd.string w dD aQ.length aQ) (fJ : aQ.length ≤ dE) (fH : Kd.C k66 w dS aE.length aE) (fK : aE.length ≤ dB) (h : bN.f k aQ aE a1 = some r) :
  Calls Tryz.prog 46 #[.agg #[.slice dD aQ.length dE, .slice dS aE.length dB], .string a1] w fun e w' => ∃ v0_ : Value, e = .returned (v0_) ∧ Kd.R Kd.string 9 w' w.heap.size (fun _ => True) v0_ r ∧ Below w.heap.size w w' := by
 have hu31 := Tryz.underlying31
 have hu66 := Tryz.underlying66
 obtain ⟨cS, cO⟩ := mZ2 fL fJ
 obtain ⟨bE, dL⟩ := mZ2 fH fK
 clear fL fJ fH fK
 have HB := am (Below.refl w.heap.size w)
 unfold bN.f at h
 have H := h
 clear h
 obtain ⟨wE, A3, H⟩ := bd H
 have Ty := am H
 clear H
 go_enter Tryz.func46, Tryz.ntmps46
 go_upto_region 2 with (first | ((with_reducible refine gD 2 ?_); refine bX 2 #[.slice dD aQ.length dE, .slice dS aE.length dB] 31 ?_; intro aZ hg w5 hbox hb; have aC := am hbox; have gU := am (nS : w.heap.size ≤ aZ); have iL := gU; replace HB := bS gL hb; clear hb hbox hg; have Z6 := cz2 aC) | ((with_reducible refine gC 72 ?_); refine cQ (some 11) Tryz.func72 (eP.calls _ _ aQ _ _ aE a1 wE _ (pB cS) cO.1 (pB bE) dL.1 A3.out) ?_; rintro w7 hb; replace aC := bB bJ hb; replace HB := bS dQ hb; clear hb))
 (try simp only [Act.put, List.setIfInBounds_toArray, List.set_cons_zero, List.set_cons_succ])
 go_cut [18] (fun v18 wc => ∃ (kq : Nat) (Lp : Bool), v18 = .bool Lp ∧ aD (bN.j0 kq wE Lp aQ aE = some r) ∧ aD (kq ≤ k) ∧ aD (wc.heap[aZ]? = some (.cells #[(.slice dD aQ.length dE), (.slice dS aE.length dB)] 31 (0, 0))) ∧ aD (Below w.heap.size w wc))
 case first =>
  have H := Ty.1
  clear Ty
  obtain ⟨mQ, A8, H⟩ := bd H
  refine tC H ?_ ?_ <;> clear H <;> intro c9 H <;> subst c9
  ·have H' := am H
   repeat clear H
   have kw := cz2 aC
   go_wp2_with (first | ((with_reducible refine gC 36 ?_); refine cQ (some 13) Tryz.func36 (aI.calls k _ _ aQ _ _ aE true _ (pB cS) cO.1 (pB bE) dL.1 A8.out) ?_; rintro w11 hb; replace aC := bB bJ hb; replace HB := bS dQ hb; clear hb))
   go_meet
   exact ⟨_, (decide (wE < 0)), eS, H', ⟨by first | omega | exact Nat.le_refl _⟩, ⟨rB aC.1⟩, ⟨dQ⟩⟩
  have H' := am H
  repeat clear H
  have Nk := cz2 aC
  go_wp2_with (first | ((with_reducible refine gC 36 ?_); refine cQ (some 13) Tryz.func36 (aI.calls k _ _ aQ _ _ aE false _ (pB cS) cO.1 (pB bE) dL.1 A8.out) ?_; rintro UZ hb; replace aC := bB bJ hb; replace HB := bS dQ hb; clear hb))
  go_meet
  exact ⟨_, (true), eS, H', ⟨by first | omega | exact Nat.le_refl _⟩, ⟨rB aC.1⟩, ⟨dQ⟩⟩
 clear Ty
 try clear Z6
 obtain ⟨kq, Lp, rfl, HA, HJ3, aC, HB⟩ := hcut
 cases kq with
 | zero => exact absurd HA.out (by simp [bN.j0])
 | succ kj3 =>
  have H := HA.out
  clear HA
  simp only [bN.j0] at H
  refine tC H ?_ ?_ <;> (repeat clear H) <;> intro XJ H <;> subst XJ
  ·obtain rfl := Option.some.inj H
   repeat clear H
   go_wp2
   go_ret
   exact ⟨_, eR, by first | exact Kd.oQ _ _ _ _ _ | exact Kd.wI _ _ _ _ _ | exact Kd.sS _ _ _ _ _ | exact Kd.wK _ _ _ _ _ | exact Kd.tX _ _ _ _ _, dQ⟩
  ·obtain ⟨Lt, hy104⟩ : ∃ y_ : List ByteArray, y_ = (([] : List ByteArray)) := ⟨_, rfl⟩
   replace H : (bN.l0 kj3 wE Lt aE (aE.length : Int) 0 aQ aE) = some r := by first | (rw [hy104]; with_reducible exact H) | (have H2_ := (Option.bind_some _ _).symm.trans H; rw [hy104]; with_reducible exact H2_) | (have H2_ := (Option.bind_some _ _).symm.trans H; with_reducible exact H2_) | with_reducible exact H | (rw [hy104]; exact H) | exact H
   have H3 := am hy104
   clear hy104
   have H' := am H
   repeat clear H
   go_wp2_with (first | ((with_reducible refine dF (N := 19) rfl ?_); refine lS 9 19 H3 ?_; intro v105 te Dq hb; have fQ := am (Kd.eF Dq (aK dQ)); replace aC := bB bJ hb; replace HB := bS dQ hb; clear hb Dq; have kx := cz2 aC))
   go_loopg [6, 23] kj3 (fun kq v6 sx w' => ∃ (mT : List ByteArray) (iH : Int), sx = .int .i64 iH ∧ aD (bN.l0 kq wE mT aE (aE.length : Int) iH aQ aE = some r) ∧ aD (kq ≤ kj3) ∧ aD (Kd.R Kd.string 9 w' w.heap.size (fun _ => True) v6 mT) ∧ aD (w'.heap[aZ]? = some (.cells #[(.slice dD aQ.length dE), (.slice dS aE.length dB)] 31 (0, 0))) ∧ aD (Below w.heap.size w w'))
   case atStart => exact ⟨(Lt), (0), eS, H', ⟨Nat.le_refl _⟩, ⟨rR fQ.1⟩, ⟨rB aC.1⟩, ⟨dQ⟩⟩
   case round =>
    clear H'
    try clear XJ
    try clear kx
    try clear Z6
    obtain ⟨mT, iH, rfl, HA, HK2, uK, aC, HB⟩ := hrel
    cases gk with
    | zero => exact absurd HA.out (by simp [bN.l0])
    | succ k2 =>
     have H := HA.out
     clear HA
     simp only [bN.l0] at H
     refine ic H ?_ ?_ <;> clear H <;> intro ET H
     obtain ⟨fp, H⟩ := cN H
     obtain ⟨Rm, H⟩ := cN H
     refine iq H ?_ ?_ <;> clear H <;> intro c21 Rn yg H
     have H' := am H
     repeat clear H
     obtain ⟨rY, tJ, tZ, tK, u4, BH, rH, n4, n5, kV, mU, qE, vG, U9, UL⟩ := aT66 bE HB iH
     cases BH
     have Ai := trivial
     rotate_left
     obtain ⟨KX, H⟩ := cN H
     obtain ⟨fv, H⟩ := cN H
     obtain ⟨Pr, Yy, H⟩ := bd H
     refine tC H ?_ ?_ <;> clear H <;> intro c30 H <;> subst c30
     obtain ⟨Gk, H⟩ := cL H
     obtain ⟨ZQ, vO⟩ := yv (mT ++ [(aA aE iH).f0]); first | replace H := bW vO H | rw [← vO.1] at H
     have H' := am H
     repeat clear H
     obtain ⟨rY, tJ, tZ, tK, u4, BH, rH, n4, n5, kV, mU, qE, vG, U9, UL⟩ := aT66 bE HB iH
     cases BH
     have Ai := trivial
     rotate_left
     have H' := am H
     repeat clear H
     obtain ⟨rY, tJ, tZ, tK, u4, BH, rH, n4, n5, kV, mU, qE, vG, U9, UL⟩ := aT66 bE HB iH
     cases BH
     have Ai := trivial
     rotate_left
     obtain rfl := Option.some.inj H
     repeat clear H
     rotate_left
     all_goals
      try go_wp2_with (first | ((with_reducible refine gD 8 ?_); revert Ai; intro Ai; refine bX 8 #[.string (⟨#[]⟩ : ByteArray), .slice none 0 0, .slice none 0 0] 66 ?_; intro wM hg Lk hbox hb; replace uK := am (Kd.iI (rR uK.1) hb); have j6 := am hbox; have Gb := am (vA : w.heap.size ≤ wM); have N9 := Gb; replace HB := bS dQ hb; have uS := nL bJ hg; have JN := nG bJ hg; replace aC := bB bJ hb; clear hb hbox hg; have xy := nZ1 JN uS; have xz := cz3 j6))
     ·obtain ⟨Py, eW_⟩ := eW3 Lk wM (.string ((aA aE iH).f0)) (.slice tJ ((aA aE iH).f1).length tZ) (.slice tK ((aA aE iH).f2).length u4)
      rw [← eW_]
      replace uK : aD (Kd.R Kd.string 9 Py w.heap.size (fun _ => True) u6 mT) := by rw [eW_]; exact ⟨mR uK j6⟩
      replace aC := uF3 eW_ aC uS
      replace j6 := uP3 eW_ j6
      replace HB := uC3 eW_ HB N9
      clear eW_
      replace uK := RD uK
      replace aC := BD aC
      replace j6 := BD j6
      replace HB := am (aU HB.1)
      refine sT (S := fun w' => True) [] 14 ⟨trivial⟩ (fun hHeld => ?_)
      refine gH bN.tab8 bN.Ht (fun HT_ HW_ => ?_)
      generalize Py.drew = Su at uK aC j6 HB hHeld ⊢
      refine pU4 0 1 2 3 ?_
      refine pV8 4 5 6 7 8 9 10 11 ?_
      refine pV1 12 ?_
      refine pU1 13 ?_
      refine dN ?_
      try go_wp2
      go_roundg k2
      case measure => have := HJ3.out; have := HK2.out; omega
      case rel => exact ⟨(mT), (wrap64 (iH + 1)), eS, H', ⟨by have := HJ3.out; have := HK2.out; omega⟩, ⟨rR uK.1⟩, ⟨rB aC.1⟩, ⟨Z1⟩⟩
     ·obtain ⟨Sv, eW_⟩ := eW3 Lk wM (.string ((aA aE iH).f0)) (.slice tJ ((aA aE iH).f1).length tZ) (.slice tK ((aA aE iH).f2).length u4)
      rw [← eW_]
      replace uK : aD (Kd.R Kd.string 9 Sv w.heap.size (fun _ => True) u6 mT) := by rw [eW_]; exact ⟨mR uK j6⟩
      replace aC := uF3 eW_ aC uS
      replace j6 := uP3 eW_ j6
      replace HB := uC3 eW_ HB N9
      clear eW_
      replace uK := RD uK
      replace aC := BD aC
      replace j6 := BD j6
      replace HB := am (aU HB.1)
      obtain ⟨Hh, Sw, Va, Sx, Vb, Vw, IF, IG, IH, TX, TY, TZ, S9, Mj, GY, S6, rd, rr⟩ := xG bE HB wE
      obtain rfl : rY = Hh := (by injection Vw)
      refine sT [] 14 (uB3 j6 (uB2 aC (uBx HB IF (uBx HB IG (uAx HB IH))))) (fun hHeld => ?_)
      refine gH bN.tab8 bN.Ht (fun HT_ HW_ => ?_)
      generalize Sv.drew = Zb at uK aC j6 HB S9 GY TX TY TZ hHeld ⊢
      refine pU7 0 1 2 3 4 6 8 ?_
      refine tK8 5 (some 33) ?_
      refine tK8 7 (some 35) ?_
      refine pU2 9 10 ?_
      refine tK8 11 (some 39) ?_
      refine oN 12 (some 40) fun K hK => ?_
      refine gQ Tryz.func69 (iT.calls _ _ ((aA aE iH).f1) _ _ ((aA aE wE).f2) true _ (pB kV) mU.1 (pB GY) S6.1 Yy.out) ?_
      rintro Zc hb
      replace uK := am (Kd.iI (rR uK.1) hb)
      replace aC := bB bJ hb
      replace j6 := bB ZA hb
      replace HB := bS Z1 hb
      clear hb
      refine nK hK (uB3 j6 (uB2 aC (uBx HB IF (uBx HB IG (uAx HB IH))))).1 fun hHeld => ?_
      clear hK K
      refine pU1 13 ?_
      refine dN ?_
      have wb := cz3 j6
      try go_wp2_with (first | ((with_reducible refine fA (b := .append) (xs := #[.tmp 42, .tmp 45]) rfl ?_); at_builtin; refine Kd.jD Kd.string (w0 := w) w.heap.size rfl (.tmp 42) (.tmp 45) 27 9 (.string ⟨#[]⟩) 16 rfl Tryz.underlying27 jP rfl (by decide) (by omega) u6 mT ((aA aE iH).f0) [.string ((aA aE iH).f0)] (fun _ => True) (fun _ => False) rfl rfl ?aP (fun _ hk => hk.elim) ?aF ?aO ?aB ?aS ?aL ?_; (case aP => exact rfl); (case aB => exact Z1); (case aF => exact (fun _ _ => trivial)); (case aO => exact (rR uK.1)); (case aS => exact (aK Z1)); (case aL => have := Gk.out; omega); intro Lg mq ho hb hg hat; rw [← vO.out] at ho; replace aC := gkR bJ hg uK aC; replace j6 := gkR ZA hg uK j6; replace HB := am hb; have GX := am ho; clear uK; clear ho hb hg hat))
      go_roundg k2
      case measure => have := HJ3.out; have := HK2.out; omega
      case rel => exact ⟨(ZQ), (wrap64 (iH + 1)), eS, H', ⟨by have := HJ3.out; have := HK2.out; omega⟩, ⟨rR GX.1⟩, ⟨rB aC.1⟩, ⟨Z1⟩⟩
     ·obtain ⟨ms, eW_⟩ := eW3 Lk wM (.string ((aA aE iH).f0)) (.slice tJ ((aA aE iH).f1).length tZ) (.slice tK ((aA aE iH).f2).length u4)
      rw [← eW_]
      replace uK : aD (Kd.R Kd.string 9 ms w.heap.size (fun _ => True) u6 mT) := by rw [eW_]; exact ⟨mR uK j6⟩
      replace aC := uF3 eW_ aC uS
      replace j6 := uP3 eW_ j6
      replace HB := uC3 eW_ HB N9
      clear eW_
      replace uK := RD uK
      replace aC := BD aC
      replace j6 := BD j6
      replace HB := am (aU HB.1)
      obtain ⟨Hh, Sw, Va, Sx, Vb, Vw, IF, IG, IH, TX, TY, TZ, S9, Mj, GY, S6, rd, rr⟩ := xG bE HB wE
      obtain rfl : rY = Hh := (by injection Vw)
      refine sT [] 14 (uB3 j6 (uB2 aC (uBx HB IF (uBx HB IG (uAx HB IH))))) (fun hHeld => ?_)
      refine gH bN.tab8 bN.Ht (fun HT_ HW_ => ?_)
      generalize ms.drew = mu at uK aC j6 HB S9 GY TX TY TZ hHeld ⊢
      refine pU7 0 1 2 3 4 6 8 ?_
      refine tK8 5 (some 33) ?_
      refine tK8 7 (some 35) ?_
      refine pU2 9 10 ?_
      refine tK8 11 (some 39) ?_
      refine oN 12 (some 40) fun K hK => ?_
      refine gQ Tryz.func69 (iT.calls _ _ ((aA aE iH).f1) _ _ ((aA aE wE).f2) false _ (pB kV) mU.1 (pB GY) S6.1 Yy.out) ?_
      rintro w45 hb
      replace uK := am (Kd.iI (rR uK.1) hb)
      replace aC := bB bJ hb
      replace j6 := bB ZA hb
      replace HB := bS Z1 hb
      clear hb
      refine nK hK (uB3 j6 (uB2 aC (uBx HB IF (uBx HB IG (uAx HB IH))))).1 fun hHeld => ?_
      clear hK K
      refine pU1 13 ?_
      refine dN ?_
      try go_wp2
      go_roundg k2
      case measure => have := HJ3.out; have := HK2.out; omega
      case rel => exact ⟨(mT), (wrap64 (iH + 1)), eS, H', ⟨by have := HJ3.out; have := HK2.out; omega⟩, ⟨rR uK.1⟩, ⟨rB aC.1⟩, ⟨Z1⟩⟩
     ·go_ret
      exact ⟨_, eR, rR uK.1, dQ⟩
end Go.Proofs.YtaofjgnhapnndaaGreatDoor.Q
namespace Go.Proofs.YtaofjgnhapnndaaGreatDoor.Q
open Go.RowKit Go.Proofs.YtaofjgnhapnndaaGreatDoorW.PrintWords Go.Proofs.YtaofjgnhapnndaaGreatDoorW.PrintLast Go.Proofs.YtaofjgnhapnndaaGreatDoorW.PrintMore
set_option linter.unusedVariables false
set_option linter.unusedSimpArgs false
def xY (bs : List IB) (a i : Nat) : List ByteArray := (sF (fun q => !decide (q = a) && kH (gB bs q).f1 (gB bs a).f2) bs.length i).map fun i => (gB bs i).f0
def mD (ts : List ByteArray) (bs : List IB) (n : ByteArray) : List ByteArray := if (iY ts bs && !decide (atI bs n < 0)) = true then xY bs (atI bs n).toNat 0 else []
theorem LJ {bs : List IB} {a i : Nat} (hi : i < bs.length) : xY bs a i = if (!decide (i = a) && kH (gB bs i).f1 (gB bs a).f2) = true then (gB bs i).f0 :: xY bs a (i + 1) else xY bs a (i + 1) := by
 unfold xY; rw [I8 _ hi]; cases (!decide (i = a) && kH (gB bs i).f1 (gB bs a).f2) <;> rfl
theorem PD (bs : List IB) (a : Nat) : xY bs a bs.length = [] := by unfold xY; rw [KY]; rfl
theorem GJ (ts : List ByteArray) (bs : List IB) (n : ByteArray) (ht : ts.length ≤ 9223372036854775807) (hl : bs.length ≤ 9223372036854775807) (hb : Bok bs) : Ev (fun k => dH.f k ts bs n) (mD ts bs n) := by
 unfold dH.f
 refine Ev.bind (uG ts bs n hl) ?_
 by_cases hneg : atI bs n < 0
 ·have e : mD ts bs n = [] := by unfold mD; simp [hneg]
  rw [e]
  by_cases h0 : 0 < bs.length
  ·refine Ev.step (fun k => dH.l0.eq_2 _ _ _ ts bs k) (Ev.pos (by omega) (Ev.neg (by omega) ?_))
   exact Ev.step (fun k => dH.j1.eq_2 _ _ _ _ ts bs k) (Ev.neg (by simp) (Ev.ret rfl))
  refine Ev.step (fun k => dH.l0.eq_2 _ _ _ ts bs k) (Ev.neg (by omega) ?_)
  exact Ev.step (fun k => dH.j1.eq_2 _ _ _ _ ts bs k) (Ev.neg (by simp) (Ev.ret rfl))
 obtain ⟨a, ha, hlt, _⟩ := Hm hneg
 have b0 := hb.at_ hlt
 have go : ∀ (d i : Nat) (x : List ByteArray), bs.length - i = d → i ≤ bs.length → x.length ≤ i → Ev (fun k => dH.l0 k x (a : Int) (i : Int) ts bs) (x ++ if iY ts bs = true then xY bs a i else []) := by
  intro d
  induction d with
  | zero =>
   intro i x hd hi hx
   have e : i = bs.length := by omega
   refine Ev.step (fun k => dH.l0.eq_2 x _ _ ts bs k) (Ev.neg (by omega) ?_)
   refine Ev.step (fun k => dH.j1.eq_2 x _ _ _ ts bs k) (Ev.neg (by simp) (Ev.ret ?_))
   subst e
   rw [PD, ite_self, List.append_nil]
  | succ d ih =>
   intro i x hd hi hx
   have hli : i < bs.length := by omega
   refine Ev.step (fun k => dH.l0.eq_2 x _ _ ts bs k) (Ev.pos (by omega) (Ev.pos (by omega) (Ev.bind (iW ts bs ht hl hb) ?_)))
   refine Ev.step (fun k => dH.j1.eq_2 x _ _ _ ts bs k) ?_
   refine Ev.test _ (fun h => ?_) (fun h => Ev.ret (by simp [h]))
   have h5 := sV h
   rw [gF, gF, iQ hli hl, if_pos h, LJ hli]
   refine Ev.prop (fun h2 => ?_) (fun h2 => Ev.pos (by omega) (Ev.pos (by omega) (Ev.pos (by omega) (Ev.pos (by omega) (Ev.bind (sI _ _ (hb.at_ hli).1 b0.2) ?_)))))
   ·refine Ev.sub (ih (i + 1) x (by omega) (by omega) (by omega)) ?_
    rw [if_pos h, if_neg (by simp [show i = a by omega])]
   ·have hne : decide (i = a) = false := decide_eq_false (by omega)
    refine Ev.test _ (fun h3 => Ev.pos (by omega) ?_) (fun h3 => ?_)
    ·refine Ev.sub (ih (i + 1) (x ++ [(gB bs i).f0]) (by omega) (by omega) (by simp; omega)) ?_
     rw [if_pos h, if_pos (by rw [hne, h3]; rfl), List.append_assoc]; rfl
    ·refine Ev.sub (ih (i + 1) x (by omega) (by omega) (by omega)) ?_
     rw [if_pos h, if_neg (by simp [h3])]
 rw [ha]
 refine Ev.sub (go bs.length 0 [] (by omega) (by omega) (by simp)) ?_
 unfold mD
 rw [ha, show decide ((a : Int) < 0) = false from decide_eq_false (by omega)]
 simp
theorem FZ (ts : List ByteArray) (bs : List IB) (n : ByteArray) (ht : ts.length ≤ 9223372036854775807) (hl : bs.length ≤ 9223372036854775807) (hb : Bok bs) : Ev (fun k => bN.f k ts bs n) (mD ts bs n) := by
 unfold bN.f
 simp only [eP.f, Option.bind_some]
 refine Ev.bind (iV ts bs ht hl hb) (Ev.test _ (fun h => ?_) (fun h => Ev.step (fun k => bN.j0.eq_2 _ _ ts bs k) (Ev.pos rfl (Ev.ret (by simp [mD, h])))))
 have h5 := sV h
 refine Ev.step (fun k => bN.j0.eq_2 _ _ ts bs k) ?_
 change Ev (fun k => if decide (atI bs n < 0) = true then _ else bN.l0 k (atI bs n) _ _ _ _ _ _) _
 by_cases hneg : atI bs n < 0
 ·exact Ev.pos (decide_eq_true hneg) (Ev.ret (by simp [mD, hneg]))
 refine Ev.neg (by simpa using hneg) ?_
 obtain ⟨a, ha, hlt, _⟩ := Hm hneg
 have go : ∀ (d i : Nat) (x : List ByteArray), bs.length - i = d → i ≤ bs.length → x.length ≤ i → Ev (fun k => bN.l0 k (a : Int) x bs (bs.length : Int) (i : Int) ts bs) (x ++ xY bs a i) := by
  intro d
  induction d with
  | zero =>
   intro i x hd hi hx
   have e : i = bs.length := by omega
   refine Ev.step (fun k => bN.l0.eq_2 _ x bs _ _ ts bs k) (Ev.neg (by omega) (Ev.ret ?_))
   subst e
   rw [PD, List.append_nil]
  | succ d ih =>
   intro i x hd hi hx
   have hli : i < bs.length := by omega
   refine Ev.step (fun k => bN.l0.eq_2 _ x bs _ _ ts bs k) (Ev.pos (by omega) (Ev.pos (by omega) (Ev.pos (by omega) ?_)))
   rw [gF, gF, iQ hli hl, LJ hli]
   refine Ev.prop (fun h2 => ?_) (fun h2 => Ev.pos (by omega) (Ev.pos (by omega) ?_))
   ·refine Ev.sub (ih (i + 1) x (by omega) (by omega) (by omega)) ?_
    rw [if_neg (by simp [show i = a by omega])]
   ·have hne : decide (i = a) = false := decide_eq_false (by omega)
    simp only [iT.f, Option.bind_some]
    refine Ev.test _ (fun h3 => Ev.pos (by omega) ?_) (fun h3 => ?_)
    ·refine Ev.sub (ih (i + 1) (x ++ [(gB bs i).f0]) (by omega) (by omega) (by simp; omega)) ?_
     rw [if_pos (by rw [hne, show kH (gB bs i).f1 (gB bs a).f2 = true from h3]; rfl), List.append_assoc]; rfl
    ·refine Ev.sub (ih (i + 1) x (by omega) (by omega) (by omega)) ?_
     rw [if_neg (by simp [show kH (gB bs i).f1 (gB bs a).f2 = false from h3])]
 rw [ha]
 refine Ev.sub (go bs.length 0 [] (by omega) (by omega) (by simp)) ?_
 unfold mD
 rw [ha, h, show decide ((a : Int) < 0) = false from decide_eq_false (by omega)]
 simp
end Go.Proofs.YtaofjgnhapnndaaGreatDoor.Q
