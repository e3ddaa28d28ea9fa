/- Texts that the row needs: words on memory and rows, the contracts of the functions it reaches, and the plain lemmas on what they compute. -/
import Derived.Test.YtaofjgnhapnndaaXkoai
set_option maxHeartbeats 8000000
set_option maxRecDepth 100000
open Go.Proofs.YtaofjgnhapnndaaFko
namespace Go.Proofs.Ytaofjgnhapnndaa.Q
open Go.RowKit Go.Proofs.YtaofjgnhapnndaaW.PrintWords Go.Proofs.YtaofjgnhapnndaaW.PrintLast Go.Proofs.YtaofjgnhapnndaaW.PrintMore
set_option linter.unusedVariables false
set_option linter.unusedSimpArgs false
mutual
def aZ.j0 : Nat → List ByteArray → Bool → List Int → Int → List ByteArray → List (S56) → Option (List ByteArray × (List (S56)) × List ByteArray)
 | 0, _, _, _, _, _, _ => none
 | k + 1, e, f, a, b, c, d => if f = true then (aZ.l0 k (([] : List ByteArray)) 0 a b c d) else (aZ.j2 k e a b c d)
def aZ.j2 : Nat → List ByteArray → List Int → Int → List ByteArray → List (S56) → Option (List ByteArray × (List (S56)) × List ByteArray)
 | 0, _, _, _, _, _ => none
 | k + 1, a, b, c, d, e => if (a.length : Int) > 0 then ((bE.f k b c 12).bind fun g => (aZ.j3 k a (g.1 == 0) b g.2 d e)) else (aZ.j3 k a false b c d e)
def aZ.j3 : Nat → List ByteArray → Bool → List Int → Int → List ByteArray → List (S56) → Option (List ByteArray × (List (S56)) × List ByteArray)
 | 0, _, _, _, _, _, _ => none
 | k + 1, a, g, c, h, d, e => if g = true then ((bE.f k c h (a.length : Int)).bind fun b => ((fU.f k c b.2 (([(⟨#[]⟩ : ByteArray), (⟨#[97, 108, 101]⟩ : ByteArray), (⟨#[122, 122]⟩ : ByteArray)] : List ByteArray))).bind fun i => (if 0 ≤ b.1 then (if b.1 < (a.length : Int) then (some (d, e, (a.set (b.1 : Int).toNat i.1))) else (none)) else (none)))) else (some (d, e, a))
def aZ.l0 : Nat → List ByteArray → Int → List Int → Int → List ByteArray → List (S56) → Option (List ByteArray × (List (S56)) × List ByteArray)
 | 0, _, _, _, _, _, _ => none
 | k + 1, a, c, e, g, h, d => if c < (d.length : Int) then ((bE.f k e g (wrap64 ((a.length : Int) + 1))).bind fun b => ((some (([] : List ByteArray) : List ByteArray)).bind fun i => (if 0 ≤ b.1 then (if b.1 ≤ (a.length : Int) then ((some (a.take (b.1 : Int).toNat : List ByteArray)).bind fun j => (if i.length + j.length < 8796093022208 then ((some (i ++ j : List ByteArray)).bind fun l => (if 0 ≤ c then ((some (([(aC d c).f0] : List ByteArray) : List ByteArray)).bind fun m => (if l.length + m.length < 8796093022208 then ((some (l ++ m : List ByteArray)).bind fun n => ((some (a.drop (b.1 : Int).toNat : List ByteArray)).bind fun o => (if n.length + o.length < 8796093022208 then (aZ.l0 k (n ++ o) (wrap64 (c + 1)) e b.2 h d) else (none)))) else (none))) else (none))) else (none))) else (none)) else (none)))) else (aZ.j2 k a e g h d)
end
def aZ.f (k : Nat) (l0 : List Int) : Option (List ByteArray × (List (S56)) × List ByteArray) := (oK.f l0).bind fun b => ((qC.f k b.1 b.2).bind fun a => ((fC.f k a.1 a.2.1).bind fun c => (if c.2 = true then ((bE.f k b.1 a.2.2 2).bind fun d => (aZ.j0 k c.1 (d.1 == 0) b.1 d.2 a.1 a.2.1)) else (aZ.j0 k c.1 true b.1 a.2.2 a.1 a.2.1))))
def aZ.T10 : Bool × List (List Nat × List Nat) := (true, [([], []), ([], []), ([], []), ([1, 2], [1, 2]), ([0, 3], [0, 3]), ([], []), ([5], [5]), ([], []), ([6, 7], [6, 7]), ([8], [8]), ([9], [9]), ([10], [10]), ([4, 11, 4], [4, 11]), ([], []), ([], []), ([13, 14], [13, 14]), ([12, 15, 12], [12, 15]), ([16, 16, 0, 1, 2, 3, 4, 5, 6, 7, 8, 9, 10, 11, 12, 13, 14, 15, 16], [1, 13, 16])])
def aZ.B10 : List Nat := [0, 0, 0, 6, 15, 0, 32, 0, 224, 480, 992, 2016, 4095, 0, 0, 24576, 65535, 131071]
theorem aZ.vv : rtab .any (opsOf Try.f56 10) = aZ.T10 := by kernel_rfl
theorem aZ.ah : kM aZ.T10.2 aZ.B10 = true := by kernel_rfl
theorem aZ.calls (k : Nat) (A0 : Option Addr) (c0 : Nat) (l0 : List Int) (r1 : List ByteArray) (r2 : List (S56)) (r3 : List ByteArray) (w : World) (r5 : Kd.C (Kd.int .u8) w A0 l0.length l0) (xK : l0.length ≤ c0) (h : aZ.f k l0 = some (r1, r2, r3)) :
  Calls Try.prog 56 #[.slice A0 l0.length c0] w fun e w' => ∃ v0_ v1_ v2_ : Value, e = .returned (.tuple #[.agg #[v0_, v1_], v2_]) ∧ Kd.R Kd.string 9 w' w.heap.size (F10 w v2_) v0_ r1 ∧ Kd.N k56 56 w' w.heap.size (F20 w v0_ v2_) v1_ r2 ∧ Kd.R Kd.string 9 w' w.heap.size (F10 w v0_) v2_ r3 ∧ Below w.heap.size w w' := by
 have hu31 := Try.underlying31
 obtain ⟨rD, O0⟩ := mZ2 r5 xK
 clear r5 xK
 have HB := am (Below.refl w.heap.size w)
 unfold aZ.f at h
 have H := h
 clear h
 obtain ⟨⟨kQ, eK⟩, A2, H⟩ := bd H
 dsimp only at H
 obtain ⟨⟨fI, fW, dD⟩, A3, H⟩ := bd H
 dsimp only at H
 obtain ⟨⟨DS, QV⟩, A4, H⟩ := bd H
 dsimp only at H
 have Zb := am H
 clear H
 go_enter Try.func56, Try.ntmps56
 go_upto_region 4 with (first | ((with_reducible refine gD 2 ?_); refine bX 2 #[.slice none 0 0, .slice none 0 0] 31 ?_; intro aJ hg w6 hbox hb; have a3 := am hbox; have gH := am (u0 : w.heap.size ≤ aJ); have iE := gH; replace HB := bS eI hb; clear hb hbox hg) | ((with_reducible refine gC 97 ?_); refine cE (some 11) Try.func97 (oK.calls _ _ l0 kQ eK w _ (dS) rD.1 O0.1 A2.out) ?_; rintro e w7 ⟨g104, rfl, hi, hb, hb2⟩; refine ⟨_, rfl, ?_⟩; replace HB := am hb; have l4 := am hi; have vI := am (aD.VS hi (dL (g := aJ) (o := .cells #[.slice none 0 0, .slice none 0 0] 31 (0, 0)) aQ hb2) (by decide)); have l8 := am (Ne.symm (aD.VS hi (dL (g := aJ) (o := .cells #[.slice none 0 0, .slice none 0 0] 31 (0, 0)) aQ hb2) (by decide))); replace a3 := am (dL (g := aJ) (o := .cells #[.slice none 0 0, .slice none 0 0] 31 (0, 0)) aQ hb2); clear hb hb2 hi) | ((with_reducible refine gC 98 ?_); refine cE (some 13) Try.func98 (qC.calls k g104 kQ eK fI fW dD w _ (Bg) (NS) A3.out) ?_; rintro e w8 ⟨BL, yI, rfl, hD, rM, hi, hb, hk⟩; refine ⟨_, rfl, ?_⟩; have kE := am (Kd.cO (Kd.jK (M := fun k_ => (w.heap.size ≤ k_)) (Kd.aM (ok' := fun k_ => True) hD (fun _ hk_ => trivial)) (aG NS) (fun k_ h_ => h_)) (aG NS)); have iL := am (Kd.l9 (Kd.aU (ok' := fun k_ => (w.heap.size ≤ k_) ∧ some k_ ≠ (BL : Value).ownBlock ∧ k_ ≠ aJ ∧ k_ ≠ g104) rM (fun k_ hk_ => ⟨(Nat.le_trans (aG NS) hk_.1), hk_.2, (fB aQ k_ hk_.1), (aD.fresh Bg k_ hk_.1)⟩)) (aG NS)); replace a3 := kb aQ hk l8; replace HB := am hb; replace l4 := am hi; clear hb hk hi hD rM) | ((with_reducible refine gD 5 ?_); refine bX 5 #[.slice none 0 0, .slice none 0 0] 31 ?_; intro hY hg w9 hbox hb; replace kE := RB NK hb; replace iL := am (Kd.iI (Kd.pX (rN iL.1) hY (Nat.le_of_eq hg.symm)) hb); have gM := am hbox; have na := am (a9M : w.heap.size ≤ hY); have mt := na; replace HB := bS NS hb; have zM := nL aQ hg; have D7 := nG aQ hg; replace a3 := bB aQ hb; have zN := am (by rw [hg]; exact Nat.ne_of_lt (aD.lt (show aD w _ g104 kQ dD from Bg)) : g104 ≠ hY); have rY := am (by rw [hg]; exact Nat.ne_of_gt (aD.lt (show aD w _ g104 kQ dD from Bg)) : hY ≠ g104); replace l4 := am (aD.below Bg hb); clear hb hbox hg; obtain ⟨iG, iD, Lu⟩ := Kd.bN kE.1; subst Lu; have Po := nZ2 D7 zM rY zN; have Ki := cz2 gM; obtain ⟨DY, mW, Lw⟩ := Kd.iJ iL.1; subst Lw) | ((with_reducible refine mU (f := 44) rfl ?_); refine wE (some 16) rfl rfl Try.func44 (by kernel_rfl) rfl #[.agg #[.slice iG fI.length iD, .slice DY fW.length mW]] rfl FO ?_; (with_reducible refine (fC.calls k _ _ fI _ _ fW DS QV _ ?side1 ?side2 ?side3 ?side4 A4.out).mono ?_); (case side1 => refine (Kd.aT (e := 9) (base := w.heap.size) (ok := fun k_ => (w.heap.size ≤ k_)) (n := fI.length) (c := iD) ?_).2.2; exact (by refine rR ?_; exact Kd.aM (fR (fR (tR kE gM))) (fun _ hk => hk.1.1))); (case side2 => exact (Kd.aT kE.1).2.1); (case side3 => refine (Kd.cB (e := 56) (base := w.heap.size) (ok := fun k_ => (((w.heap.size ≤ k_) ∧ (some k_ ≠ (.slice iG fI.length iD : Value).ownBlock ∧ (k_ ≠ aJ ∧ k_ ≠ g104))) ∧ k_ ≠ hY)) (n := fW.length) (c := mW) ?_).2.2; exact (by refine rN ?_; exact (Kd.aU (fN (fN (Kd.aU iL.1 (fun k_ hk => (⟨hk, hk.2⟩ : _ ∧ k_ ≠ hY))))) (fun _ h_ => h_.1)))); (case side4 => exact (Kd.cB iL.1).2.1); rintro e wo ⟨Bm, rfl, hD, hb⟩; refine ⟨_, rfl, ?_⟩; replace iL := am (Kd.kL (by refine rN ?_; exact (Kd.aU (fN (fN (Kd.aU iL.1 (fun k_ hk => (⟨hk, hk.2⟩ : _ ∧ k_ ≠ hY))))) (fun _ h_ => h_.1))) (Kd.bL hD) hb); have D3 := am (Kd.cO (Kd.eF (Kd.jK (M := fun k_ => (w.heap.size ≤ k_)) hD (aG mX) (fun k_ h_ => h_)) (Kd.R_lt (by refine rR ?_; exact (Kd.aM (fR (fR (tR kE gM))) (fun _ h_ => h_.1))))) (aG mX)); replace kE := am (Kd.dJ (by refine rR ?_; exact (Kd.aM (fR (fR (tR kE gM))) (fun _ h_ => h_.1))) (Kd.bL hD) hb); replace a3 := am (dL (g := aJ) (o := .cells #[.slice none 0 0, .slice none 0 0] 31 (0, 0)) (qF a3 zM) hb); replace gM := am (dL (g := hY) (o := .cells #[.slice iG fI.length iD, .slice DY fW.length mW] 31 (0, 0)) (qP gM) hb); replace HB := bS mX hb; replace l4 := am (aD.below (show aD w ((w9.setCell ⟨hY, 0, none⟩ (.slice iG fI.length iD)).setCell ⟨hY, 1, none⟩ (.slice DY fW.length mW)) g104 kQ dD from qZ) hb); clear hb hD))
 (try simp only [Act.put, List.setIfInBounds_toArray, List.set_cons_zero, List.set_cons_succ])
 go_cut [25] (fun v25 wc => ∃ (kq : Nat) (Pf : Bool) (zP : Int), v25 = .bool Pf ∧ aA (aZ.j0 kq DS Pf kQ zP fI fW = some (r1, r2, r3)) ∧ aA (kq ≤ k) ∧ aA (Kd.R Kd.string 9 wc w.heap.size (F10 w (.slice iG fI.length iD)) Bm DS) ∧ aA (Kd.R Kd.string 9 wc w.heap.size (F10 w Bm) (.slice iG fI.length iD) fI) ∧ aA (Kd.N k56 56 wc w.heap.size (fun k_ => (w.heap.size ≤ k_) ∧ some k_ ≠ (Bm : Value).ownBlock ∧ some k_ ≠ ((.slice iG fI.length iD) : Value).ownBlock ∧ k_ ≠ aJ ∧ k_ ≠ hY ∧ k_ ≠ g104) (.slice DY fW.length mW) fW) ∧ aA (wc.heap[aJ]? = some (.cells #[(.slice none 0 0), (.slice none 0 0)] 31 (0, 0))) ∧ aA (wc.heap[hY]? = some (.cells #[(.slice iG fI.length iD), (.slice DY fW.length mW)] 31 (0, 0))) ∧ aA (aD w wc g104 kQ zP) ∧ aA (Below w.heap.size w wc))
 case first =>
  have H := Zb.1
  clear Zb
  refine tC H ?_ ?_ <;> (repeat clear H) <;> intro U9 H <;> subst U9
  ·obtain ⟨⟨y4, wU⟩, A17, H⟩ := bd H
   dsimp only at H
   have H' := am H
   repeat clear H
   go_wp2_with (first | (go_at_call 100; refine cM (bE.calls k g104 kQ dD 2 y4 wU w _ (qZ) (mX) A17.out) ?_; rintro w18 ⟨hi, hb, hk⟩; replace a3 := kb aQ hk l8; replace kE := am (Kd.aM (Kd.lQ (aD.apart (show aD w _ g104 kQ dD from qZ) NK (by decide)) hk (fun _ h => h.2)) (fun _ h => h.1)); replace iL := am (Kd.aU (Kd.y9 (Kd.aU (ok := fun k_ => (((((w.heap.size ≤ k_)) ∧ (some k_ ≠ (.slice iG fI.length iD : Value).ownBlock ∧ (k_ ≠ aJ ∧ k_ ≠ g104))) ∧ k_ ≠ hY) ∧ some k_ ≠ (Bm : Value).ownBlock)) (rN iL.1) (fun k_ hk_ => (⟨hk_, hk_.1.1.2.2.2⟩ : _ ∧ k_ ≠ g104))) hk (fun _ h => h.2)) (fun _ h => h.1)); replace gM := kb uP hk rY; replace D3 := am (Kd.aM (Kd.lQ (aD.apart (show aD w _ g104 kQ dD from qZ) (rR D3.1) (by decide)) hk (fun _ h => h.2)) (fun _ h => h.1)); replace HB := am hb; replace l4 := am hi; clear hb hk hi))
   go_meet
   exact ⟨_, ((y4 == 0)), (wU), dH, H', ⟨by first | omega | exact Nat.le_refl _⟩, ⟨by refine rR ?_; exact Kd.aM D3.1 (fun _ hk => ⟨hk.1.1, hk.2⟩)⟩, ⟨by refine rR ?_; exact Kd.aM kE.1 (fun _ hk => ⟨hk.1.1, hk.2⟩)⟩, ⟨by refine rN ?_; exact Kd.aU iL.1 (fun _ hk => ⟨hk.1.1.1, ⟨hk.2, ⟨hk.1.1.2.1, ⟨hk.1.1.2.2.1, ⟨hk.1.2, hk.1.1.2.2.2⟩⟩⟩⟩⟩)⟩, ⟨rB a3.1⟩, ⟨rB gM.1⟩, ⟨qZ⟩, ⟨mX⟩⟩
  have H' := am H
  repeat clear H
  go_wp2
  go_meet
  exact ⟨_, (true), (dD), dH, H', ⟨by first | omega | exact Nat.le_refl _⟩, ⟨by refine rR ?_; exact Kd.aM D3.1 (fun _ hk => ⟨hk.1.1, hk.2⟩)⟩, ⟨by refine rR ?_; exact Kd.aM kE.1 (fun _ hk => ⟨hk.1.1, hk.2⟩)⟩, ⟨by refine rN ?_; exact Kd.aU iL.1 (fun _ hk => ⟨hk.1.1.1, ⟨hk.2, ⟨hk.1.1.2.1, ⟨hk.1.1.2.2.1, ⟨hk.1.2, hk.1.1.2.2.2⟩⟩⟩⟩⟩)⟩, ⟨rB a3.1⟩, ⟨rB gM.1⟩, ⟨qZ⟩, ⟨mX⟩⟩
 clear Zb
 try clear Ki
 obtain ⟨kq, Pf, zP, rfl, HA, HJ4, gO, eZ, dW, a3, gM, l4, HB⟩ := hcut
 cases kq with
 | zero => exact absurd HA.out (by simp [aZ.j0])
 | succ kj4 =>
  have H := HA.out
  clear HA
  simp only [aZ.j0] at H
  have ZC := am H
  clear H
  go_upto_if 25 with ((fail))
  go_cut [6] (fun v6 wc => ∃ (kq : Nat) (tL : List ByteArray) (vE : Int), aA (aZ.j2 kq tL kQ vE fI fW = some (r1, r2, r3)) ∧ aA (kq ≤ kj4) ∧ aA (Kd.R Kd.string 9 wc w.heap.size (F10 w (.slice iG fI.length iD)) v6 tL) ∧ aA (Kd.R Kd.string 9 wc w.heap.size (F10 w v6) (.slice iG fI.length iD) fI) ∧ aA (Kd.N k56 56 wc w.heap.size (fun k_ => (w.heap.size ≤ k_) ∧ some k_ ≠ (v6 : Value).ownBlock ∧ some k_ ≠ ((.slice iG fI.length iD) : Value).ownBlock ∧ k_ ≠ aJ ∧ k_ ≠ hY ∧ k_ ≠ g104) (.slice DY fW.length mW) fW) ∧ aA (wc.heap[aJ]? = some (.cells #[(.slice none 0 0), (.slice none 0 0)] 31 (0, 0))) ∧ aA (wc.heap[hY]? = some (.cells #[(.slice iG fI.length iD), (.slice DY fW.length mW)] 31 (0, 0))) ∧ aA (aD w wc g104 kQ vE) ∧ aA (Below w.heap.size w wc))
  case first => as_aux_lemma =>
   have H := ZC.1
   clear ZC
   refine tC H ?_ ?_ <;> (repeat clear H) <;> intro bb H <;> subst bb
   ·obtain ⟨xd, hy119⟩ : ∃ y_ : List ByteArray, y_ = (([] : List ByteArray)) := ⟨_, rfl⟩
    replace H : (aZ.l0 kj4 xd 0 kQ zP fI fW) = some (r1, r2, r3) := by first | (rw [hy119]; with_reducible exact H) | (have H2_ := (Option.bind_some _ _).symm.trans H; rw [hy119]; with_reducible exact H2_) | (have H2_ := (Option.bind_some _ _).symm.trans H; with_reducible exact H2_) | with_reducible exact H | (rw [hy119]; exact H) | exact H
    have ox := am hy119
    clear hy119
    have H' := am H
    repeat clear H
    go_wp2_with (first | ((with_reducible refine jD (N := 26) rfl ?_); refine lS 9 26 ox ?_; intro aO7 ll Mm hb; replace dW := am (Kd.kL DN (Kd.bL Mm) hb); have nf := am (Kd.cO (Kd.eF (Kd.eF (Kd.jK (M := fun k_ => (w.heap.size ≤ k_)) Mm (aG mX) (fun k_ h_ => h_)) (Kd.R_lt jU)) (Kd.R_lt rX)) (aG mX)); replace gO := am (Kd.dJ jU (Kd.bL Mm) hb); replace eZ := am (Kd.dJ rX (Kd.bL Mm) hb); replace a3 := bB aQ hb; replace gM := bB uP hb; replace HB := bS mX hb; replace l4 := am (aD.below qZ hb); clear hb Mm))
    go_loopg [6, 8] kj4 (fun kq v6 v8 w' => ∃ (j7 : List ByteArray) (oB : Int) (xG : Int), v8 = .int .i64 oB ∧ aA (aZ.l0 kq j7 oB kQ xG fI fW = some (r1, r2, r3)) ∧ aA (kq ≤ kj4) ∧ aA (Kd.R Kd.string 9 w' w.heap.size (F10 w (.slice iG fI.length iD)) v6 j7) ∧ aA (Kd.R Kd.string 9 w' w.heap.size (F10 w v6) (.slice iG fI.length iD) fI) ∧ aA (Kd.N k56 56 w' w.heap.size (fun k_ => (w.heap.size ≤ k_) ∧ some k_ ≠ (v6 : Value).ownBlock ∧ some k_ ≠ ((.slice iG fI.length iD) : Value).ownBlock ∧ k_ ≠ aJ ∧ k_ ≠ hY ∧ k_ ≠ g104) (.slice DY fW.length mW) fW) ∧ aA (w'.heap[aJ]? = some (.cells #[(.slice none 0 0), (.slice none 0 0)] 31 (0, 0))) ∧ aA (w'.heap[hY]? = some (.cells #[(.slice iG fI.length iD), (.slice DY fW.length mW)] 31 (0, 0))) ∧ aA (aD w w' g104 kQ xG) ∧ aA (Below w.heap.size w w'))
    case atStart => exact ⟨(xd), (0), (zP), dH, H', ⟨Nat.le_refl _⟩, ⟨by refine rR ?_; exact Kd.aM nf.1 (fun _ hk => ⟨hk.1.1.1, hk.2⟩)⟩, ⟨by refine rR ?_; exact Kd.aM eZ.1 (fun _ hk => ⟨hk.1.1, hk.2⟩)⟩, ⟨by refine rN ?_; exact Kd.aU dW.1 (fun _ hk => ⟨hk.1.1, ⟨hk.2, ⟨hk.1.2.2.1, ⟨hk.1.2.2.2.1, ⟨hk.1.2.2.2.2.1, hk.1.2.2.2.2.2⟩⟩⟩⟩⟩)⟩, ⟨rB a3.1⟩, ⟨rB gM.1⟩, ⟨qZ⟩, ⟨mX⟩⟩
    case round =>
     clear H'
     try clear bb
     try clear Ki
     obtain ⟨j7, oB, xG, rfl, HA, HK2, gO, eZ, dW, a3, gM, l4, HB⟩ := hrel
     cases gk with
     | zero => exact absurd HA.out (by simp [aZ.l0])
     | succ k2 =>
      have H := HA.out
      clear HA
      simp only [aZ.l0] at H
      refine ic H ?_ ?_ <;> clear H <;> intro PI H
      ·(first | rw [PI] | (simp only [mV, pE]; rw [PI]) | skip)
       obtain ⟨⟨uR, wQ⟩, xf, H⟩ := bd H
       dsimp only at H
       obtain ⟨FE, hy124⟩ : ∃ y_ : List ByteArray, y_ = (([] : List ByteArray)) := ⟨_, rfl⟩
       replace H : (if 0 ≤ uR then (if uR ≤ (j7.length : Int) then ((some (j7.take (uR : Int).toNat : List ByteArray)).bind fun yL => (if FE.length + yL.length < 8796093022208 then ((some (FE ++ yL : List ByteArray)).bind fun FF => (if 0 ≤ oB then ((some (([(aC fW oB).f0] : List ByteArray) : List ByteArray)).bind fun rU => (if FF.length + rU.length < 8796093022208 then ((some (FF ++ rU : List ByteArray)).bind fun Bw => ((some (j7.drop (uR : Int).toNat : List ByteArray)).bind fun FG => (if Bw.length + FG.length < 8796093022208 then (aZ.l0 k2 (Bw ++ FG) (wrap64 (oB + 1)) kQ wQ fI fW) else (none)))) else (none))) else (none))) else (none))) else (none)) else (none)) = some (r1, r2, r3) := by first | (rw [hy124]; with_reducible exact H) | (have H2_ := (Option.bind_some _ _).symm.trans H; rw [hy124]; with_reducible exact H2_) | (have H2_ := (Option.bind_some _ _).symm.trans H; with_reducible exact H2_) | with_reducible exact H | (rw [hy124]; exact H) | exact H
       have I7 := am hy124
       clear hy124
       obtain ⟨PJ, qz, H⟩ := cP H
       obtain ⟨S1, Vy, H⟩ := cP H
       obtain ⟨yL, I8, H⟩ := bY H
       obtain ⟨WY, H⟩ := cL H
       obtain ⟨FF, RN, H⟩ := bY H
       obtain ⟨Lc, H⟩ := cN H
       obtain ⟨rU, P0, H⟩ := bY H
       obtain ⟨Jc, H⟩ := cL H
       obtain ⟨Bw, X1, H⟩ := bY H
       have MX := eq_true (oT : 0 ≤ uR)
       have Wa := eq_true (oT : uR ≤ (j7.length : Int))
       obtain ⟨FG, RO, H⟩ := bY H
       obtain ⟨Je, H⟩ := cL H
       obtain ⟨aB3, Jy⟩ := yv (Bw ++ FG); first | replace H := bW Jy H | rw [← Jy.1] at H
       have H' := am H
       repeat clear H
       have yj := nZ2 D7 zM rY zN
       have pv := cz2 gM
       obtain ⟨nJ, nB, cl⟩ := Kd.bN gO.1
       subst cl
       try go_wp2_with (first | ((with_reducible refine gC 100 ?_); refine cQ (some 38) Try.func100 (bE.calls k2 g104 kQ xG (wrap64 ((j7.length : Int) + 1)) uR wQ w _ (qZ) (mX) xf.out) ?_; rintro Ov ⟨hi, hb, hk⟩; replace gO := am (Kd.aM (Kd.lQ (aD.apart (show aD w _ g104 kQ xG from qZ) jU (by decide)) hk (fun _ h => h.2)) (fun _ h => h.1)); replace eZ := am (Kd.aM (Kd.lQ (aD.apart (show aD w _ g104 kQ xG from qZ) rX (by decide)) hk (fun _ h => h.2)) (fun _ h => h.1)); replace dW := am (Kd.aU (Kd.y9 (Kd.aU (ok := fun k_ => (((w.heap.size ≤ k_)) ∧ (some k_ ≠ (.slice nJ j7.length nB : Value).ownBlock ∧ (some k_ ≠ (.slice iG fI.length iD : Value).ownBlock ∧ (k_ ≠ aJ ∧ (k_ ≠ hY ∧ k_ ≠ g104)))))) DN (fun k_ hk_ => (⟨hk_, hk_.2.2.2.2.2⟩ : _ ∧ k_ ≠ g104))) hk (fun _ h => h.2)) (fun _ h => h.1)); replace a3 := kb aQ hk l8; replace gM := kb uP hk rY; replace HB := am hb; replace l4 := am hi; clear hb hk hi))
       replace gO := RD gO
       replace eZ := RD eZ
       replace dW := ND dW
       replace a3 := BD a3
       replace gM := BD gM
       replace l4 := am (aD.drew l4.out)
       replace HB := am (aV HB.1)
       have q39 : (uR : Int) ≤ ((j7.length : Int) : Int) := oT
       obtain ⟨i039, Wz, _, hsz39, _⟩ := info_parts jT
       have hroom39 : j7.length ≤ nB := (Kd.aT gO.1).2.1
       have hC39 : Kd.F Kd.string _ _ nJ j7.length j7 := (Kd.V_at (base := w.heap.size) (Kd.R_V (aD.apart l4.out (Kd.fK (Kd.fK (Kd.nA (gO.1) (Kd.iV dW.1) (by decide)) a3.1 (by decide)) gM.1 (by decide)) (by decide)))).2.2
       have hcut39 := PO (P := Try.prog) 23 9 .i64 Try.underlying23 Wz nJ j7.length nB uR (oT) q39 hroom39
       have ez := Kd.TL (m := (uR : Int).toNat) hC39 (by omega)
       have hy39 : yL.length = (uR : Int).toNat := (by rw [I8.out, List.length_take]; omega)
       rw [← I8.out] at ez
       rw [← hy39] at hcut39
       have mQ := am (show Kd.V Kd.string 9 _ w.heap.size _ (.slice nJ yL.length nB) yL from Kd.V_mk (by omega) ez)
       have aBP := am (show yL.length ≤ nB from by omega)
       clear ez hC39 hroom39 Wz hsz39
       have KY39 := am hy39
       clear hy39
       replace q39 := eq_true q39
       have Tf : 0 ≤ (oB : Int) := oT
       have Tl : oB < (fW.length : Int) := oT
       obtain ⟨kF, OS, PG, OT, PH, a7N, Fd, VN, VO, Es, Ej, Et, Ek⟩ := x9 (Kd.cB dW.1).2.2 oB Tf Tl
       cases a7N
       obtain ⟨ce135, hce135, hMe135, hcc135⟩ := Kd.WZ dW.1 z56 oB Tf (by first | exact Tl | exact oT | (have e_ := (Kd.cB dW.1).1; omega))
       obtain ⟨ua135_1, uc135_1, ua135_2, uc135_2, rfl, WK, UT, WL, UU⟩ := qV hMe135
       have OH := hcc135 1 _ rfl
       rw [mO _ _ 1 (by omega)] at OH
       replace OH := Option.some.inj (OH.symm.trans VN)
       injection OH with hva_ hvn_ hvc_
       rw [hva_] at UT
       rw [hvc_] at WK
       have lL := am (show Kd.V Kd.string 9 _ w.heap.size _ _ ((aC fW oB).f1) from Kd.V_mk WK UT)
       clear hva_ hvn_ hvc_ UT WK
       have OI := hcc135 2 _ rfl
       rw [mO _ _ 2 (by omega)] at OI
       replace OI := Option.some.inj (OI.symm.trans VO)
       injection OI with hva_ hvn_ hvc_
       rw [hva_] at UU
       rw [hvc_] at WL
       have lM := am (show Kd.V Kd.string 9 _ w.heap.size _ _ ((aC fW oB).f2) from Kd.V_mk WL UU)
       clear hva_ hvn_ hvc_ UU WL
       clear hcc135 hce135
       have tQ := am Ej
       have xw := am Es
       clear Ej Es
       have tT := am Ek
       have xx := am Et
       clear Ek Et
       replace Tf := eq_true Tf
       replace Tl := eq_true Tl
       have q40 : (uR : Int) ≤ ((j7.length : Int) : Int) := oT
       obtain ⟨i040, Xa, _, hsz40, _⟩ := info_parts jT
       have hroom40 : j7.length ≤ nB := (Kd.aT gO.1).2.1
       have hC40 : Kd.F Kd.string _ _ nJ j7.length j7 := (Kd.V_at (base := w.heap.size) (Kd.R_V (aD.apart l4.out (Kd.fK (Kd.fK (Kd.nA (gO.1) (Kd.iV dW.1) (by decide)) a3.1 (by decide)) gM.1 (by decide)) (by decide)))).2.2
       have a9O : (0 : Int) ≤ (uR : Int) := oT
       have hcut40 := JX (P := Try.prog) 23 9 .i64 Try.underlying23 Xa 1 hsz40 nJ j7.length nB uR a9O q40
       have Ms := Kd.Cg (m := (uR : Int).toNat) (c := nB) hC40 (by omega) hroom40
       obtain ⟨xh, hA40⟩ : ∃ A1, A1 = (if nB = (uR : Int).toNat then nJ else (nJ : Option Addr).map (·.add ((uR : Int).toNat * 1))) := ⟨_, rfl⟩
       obtain ⟨jy, Sd⟩ : ∃ c1, c1 = nB - (uR : Int).toNat := ⟨_, rfl⟩
       have hy40 : FG.length = j7.length - (uR : Int).toNat := (by rw [RO.out, List.length_drop] <;> omega)
       rw [show (j7).drop (uR : Int).toNat = FG from RO.out.symm] at Ms
       replace Ms : Kd.F Kd.string _ _ xh FG.length FG := (by rw [hA40]; exact Ms)
       rw [← hy40, ← hA40, ← Sd] at hcut40
       have r7 := am (show Kd.V Kd.string 9 _ w.heap.size _ (.slice xh FG.length jy) FG from Kd.V_mk (by rw [hy40, Sd]; exact Nat.sub_le_sub_right hroom40 _) Ms)
       have aBS := am (show FG.length ≤ jy from by rw [hy40, Sd]; exact Nat.sub_le_sub_right hroom40 _)
       clear Ms hC40 hroom40 Xa hsz40 Sd
       have KY40 := am hy40
       have KA40 := am hA40
       clear hy40 hA40
       replace q40 := eq_true q40
       refine sT (S := fun w' => w'.cell? ⟨hY, 0, none⟩ = some (.slice iG fI.length iD) ∧ w'.cell? ⟨hY, 1, none⟩ = some (.slice (some kF) fW.length mW) ∧ w'.cell? (kF.add ((oB).toNat * 3)) = some (.string ((aC fW oB).f0)) ∧ w'.cell? ⟨(kF.add ((oB).toNat * 3)).block, (kF.add ((oB).toNat * 3)).off + 1, none⟩ = some (.slice OS ((aC fW oB).f1).length PG) ∧ w'.cell? ⟨(kF.add ((oB).toNat * 3)).block, (kF.add ((oB).toNat * 3)).off + 2, none⟩ = some (.slice OT ((aC fW oB).f2).length PH)) [] 18 ⟨⟨(bF gM.1 0).trans rfl, (bF gM.1 1).trans rfl, Fd, VN, VO⟩⟩ (fun hHeld => ?_)
       refine dZ aZ.vv aZ.ah (fun HT_ HW_ => ?_)
       generalize Ov.drew = Hx at gO eZ dW a3 gM l4 HB lL lM mQ r7 tQ tT Fd VN VO hHeld ⊢
       refine pU8 1 2 3 5 7 13 14 15 ?_
       refine tK5 6 (some 45) ?_
       refine pU2 8 9 ?_
       refine tK5 10 (some 49) ?_
       refine SK (σ := Value × Value × Value) 3 (bz 18 61439) (fun s_ => [(39, s_.1), (43, s_.2.1), (50, s_.2.2)]) (fun s_ w' => (w'.cell? ⟨hY, 0, none⟩ = some (.slice iG fI.length iD) ∧ w'.cell? ⟨hY, 1, none⟩ = some (.slice (some kF) fW.length mW) ∧ w'.cell? (kF.add ((oB).toNat * 3)) = some (.string ((aC fW oB).f0)) ∧ w'.cell? ⟨(kF.add ((oB).toNat * 3)).block, (kF.add ((oB).toNat * 3)).off + 1, none⟩ = some (.slice OS ((aC fW oB).f1).length PG) ∧ w'.cell? ⟨(kF.add ((oB).toNat * 3)).block, (kF.add ((oB).toNat * 3)).off + 2, none⟩ = some (.slice OT ((aC fW oB).f2).length PH)) ∧ (Kd.V Kd.string 9 w' w.heap.size (fun k_ => (w.heap.size ≤ k_) ∧ some k_ ≠ (s_.2.1 : Value).ownBlock ∧ some k_ ≠ (s_.2.2 : Value).ownBlock ∧ some k_ ≠ (.slice iG fI.length iD : Value).ownBlock ∧ some k_ ≠ (.slice (some kF) fW.length mW : Value).ownBlock ∧ some k_ ≠ (.slice nJ j7.length nB : Value).ownBlock ∧ k_ ≠ aJ ∧ k_ ≠ g104 ∧ k_ ≠ hY) (.slice OS ((aC fW oB).f1).length PG) ((aC fW oB).f1)) ∧ (Kd.V Kd.string 9 w' w.heap.size (fun k_ => (w.heap.size ≤ k_) ∧ some k_ ≠ (s_.2.1 : Value).ownBlock ∧ some k_ ≠ (s_.2.2 : Value).ownBlock ∧ some k_ ≠ (.slice iG fI.length iD : Value).ownBlock ∧ some k_ ≠ (.slice (some kF) fW.length mW : Value).ownBlock ∧ some k_ ≠ (.slice nJ j7.length nB : Value).ownBlock ∧ k_ ≠ aJ ∧ k_ ≠ g104 ∧ k_ ≠ hY) (.slice OT ((aC fW oB).f2).length PH) ((aC fW oB).f2)) ∧ (Kd.V Kd.string 9 w' w.heap.size (fun k_ => (w.heap.size ≤ k_) ∧ some k_ ≠ (s_.2.1 : Value).ownBlock ∧ some k_ ≠ (s_.2.2 : Value).ownBlock ∧ some k_ ≠ (.slice iG fI.length iD : Value).ownBlock ∧ some k_ ≠ (.slice (some kF) fW.length mW : Value).ownBlock ∧ k_ ≠ aJ ∧ k_ ≠ g104 ∧ k_ ≠ hY) (.slice nJ yL.length nB) yL) ∧ (Kd.R Kd.string 9 w' w.heap.size (F30 w (s_.2.2) (.slice iG fI.length iD) (.slice nJ j7.length nB)) s_.2.1 FF) ∧ (Kd.R Kd.string 9 w' w.heap.size (F30 w (s_.2.1) (.slice iG fI.length iD) (.slice nJ j7.length nB)) s_.2.2 rU) ∧ (Kd.V Kd.string 9 w' w.heap.size (fun k_ => (w.heap.size ≤ k_) ∧ some k_ ≠ (s_.2.1 : Value).ownBlock ∧ some k_ ≠ (s_.2.2 : Value).ownBlock ∧ some k_ ≠ (.slice iG fI.length iD : Value).ownBlock ∧ some k_ ≠ (.slice (some kF) fW.length mW : Value).ownBlock ∧ k_ ≠ aJ ∧ k_ ≠ g104 ∧ k_ ≠ hY) (.slice xh FG.length jy) FG) ∧ (Kd.R Kd.string 9 w' w.heap.size (F30 w (s_.2.1) (s_.2.2) (.slice nJ j7.length nB)) (.slice iG fI.length iD) fI) ∧ (Kd.N k56 56 w' w.heap.size (fun k_ => (w.heap.size ≤ k_) ∧ some k_ ≠ (s_.2.1 : Value).ownBlock ∧ some k_ ≠ (s_.2.2 : Value).ownBlock ∧ some k_ ≠ (.slice iG fI.length iD : Value).ownBlock ∧ some k_ ≠ (.slice nJ j7.length nB : Value).ownBlock ∧ k_ ≠ aJ ∧ k_ ≠ g104 ∧ k_ ≠ hY) (.slice (some kF) fW.length mW) fW) ∧ (Kd.R Kd.string 9 w' w.heap.size (F30 w (s_.2.1) (s_.2.2) (.slice iG fI.length iD)) (.slice nJ j7.length nB) j7) ∧ (w'.heap[aJ]? = some (.cells #[.slice none 0 0, .slice none 0 0] 31 (0, 0))) ∧ (w'.heap[hY]? = some (.cells #[.slice iG fI.length iD, .slice (some kF) fW.length mW] 31 (0, 0))) ∧ (aD w w' g104 kQ wQ) ∧ (Below w.heap.size w w')) ?_ ?_
       rotate_left
       ·intro hCont
        refine two_ (i := 0) (j := 11) (Ni := some 39) (Nj := some 50) (bz 18 59375) (bz 18 61422) rfl rfl rfl rfl (BC HT_.out (by kernel_rfl)) (by decide) (by decide) (fun K hK => ?_) (fun K hK => ?_)
        ·skip
         refine lT 9 39 I7 ?_
         intro y6 jk EU hb
         have HS2_ := (hb.cell (World.block_lt_of_cell? _ _ (hHeld.2.2.1))).trans (hHeld.2.2.1)
         have HS3_ := (hb.cell (World.block_lt_of_cell? _ _ (hHeld.2.2.2.1))).trans (hHeld.2.2.2.1)
         have HS4_ := (hb.cell (World.block_lt_of_cell? _ _ (hHeld.2.2.2.2))).trans (hHeld.2.2.2.2)
         replace dW := am (Kd.kL DN (Kd.bL EU) hb)
         replace mQ := am (Kd.gP (rV mQ.1) (Kd.bL EU) hb)
         replace lL := am (Kd.gP (rV lL.out) (Kd.bL EU) hb)
         replace lM := am (Kd.gP (rV lM.out) (Kd.bL EU) hb)
         replace r7 := am (Kd.gP (rV r7.1) (Kd.bL EU) hb)
         have mH := am (Kd.cO (Kd.eF (Kd.eF (Kd.jK (M := fun k_ => (w.heap.size ≤ k_)) EU (aG mX) (fun k_ h_ => h_)) (Kd.R_lt jU)) (Kd.R_lt rX)) (aG mX))
         replace gO := am (Kd.dJ jU (Kd.bL EU) hb)
         replace eZ := am (Kd.dJ rX (Kd.bL EU) hb)
         replace a3 := bB aQ hb
         replace gM := bB uP hb
         replace tQ := am (Kd.bK (by repeat (first | (with_reducible exact tQ.1) | (with_reducible refine Kd.gU ?_ _) | (with_reducible refine Kd.gV ?_ _) | (with_reducible refine Kd.iW ?_) | exact tQ.1)) hb)
         replace tT := am (Kd.bK (by repeat (first | (with_reducible exact tT.1) | (with_reducible refine Kd.gU ?_ _) | (with_reducible refine Kd.gV ?_ _) | (with_reducible refine Kd.iW ?_) | exact tT.1)) hb)
         replace HB := bS mX hb
         replace l4 := am (aD.below qZ hb)
         clear hb EU
         refine hK.out _ _ ⟨(bF gM.1 0).trans rfl, (bF gM.1 1).trans rfl, HS2_, HS3_, HS4_⟩ (fun hHeld => ?_)
         clear hK K
         refine nM ?_
         refine two_ (i := 4) (j := 11) (Ni := some 43) (Nj := some 50) (bz 18 59391) (bz 18 61423) rfl rfl rfl rfl (BC HT_.out (by kernel_rfl)) (by decide) (by decide) (fun K hK => ?_) (fun K hK => ?_)
         ·skip
          refine Kd.dV Kd.string (w0 := w) w.heap.size (by rfl) (.tmp 39) (.tmp 42) 23 9 (.string ⟨#[]⟩) 16 rfl Try.underlying23 jT rfl (by decide) (by omega) y6 FE yL _ _ _ (F20 w (.slice nJ j7.length nB) (.slice iG fI.length iD)) (fun _ => False) rfl rfl ?aO ?aR (fun _ _ h => h) (fun _ h => h.elim) ?aF ?aB ?aS ?aL ?_
          (case aR => repeat (first | exact (Kd.G5 mQ.1).2.2 | (with_reducible refine Kd.gU ?_ _) | (with_reducible refine Kd.gV ?_ _) | (with_reducible refine Kd.iW ?_)))
          (case aB => exact mX)
          (case aF => exact (fun k_ hk => ⟨(Nat.le_trans (aG mX) hk), Kd.fresh' (Kd.R_lt jU) k_ hk, Kd.fresh' (Kd.R_lt rX) k_ hk⟩))
          (case aO => exact (by refine rR ?_; exact Kd.aM mH.1 (fun _ hk => ⟨hk.1.1.1, ⟨hk.1.2, hk.2⟩⟩)))
          (case aS => exact (aG mX))
          (case aL => have := WY.out; omega)
          intro I2 lp ho hb hg hat
          have HS2_ := cell_grown hg (hHeld.2.2.1) VX
          have HS3_ := cell_grown hg (hHeld.2.2.2.1) VX
          have HS4_ := cell_grown hg (hHeld.2.2.2.2) VX
          rw [← RN.out] at ho
          replace gO := am (Kd.gW (ok := (F10 w (.slice iG fI.length iD))) jU hg hat)
          replace eZ := am (Kd.gW (ok := (F10 w (.slice nJ j7.length nB))) rX hg hat)
          replace dW := am (Kd.nT (ok := (fun k_ => (w.heap.size ≤ k_) ∧ some k_ ≠ (.slice nJ j7.length nB : Value).ownBlock ∧ some k_ ≠ (.slice iG fI.length iD : Value).ownBlock ∧ k_ ≠ aJ ∧ k_ ≠ hY ∧ k_ ≠ g104)) DN hg hat)
          replace a3 := gkR aQ hg mH a3
          replace gM := gkR uP hg mH gM
          replace l4 := am (aD.grown qZ hg (aD.own_ne l4.out mH.1 (by decide)))
          replace mQ := am (Kd.fM (ok := (fun k_ => (w.heap.size ≤ k_) ∧ some k_ ≠ (.slice iG fI.length iD : Value).ownBlock ∧ some k_ ≠ (.slice (some kF) fW.length mW : Value).ownBlock ∧ k_ ≠ aJ ∧ k_ ≠ hY ∧ k_ ≠ g104)) (by refine rV ?_; exact Kd.fG mQ.1 (fun _ hk => ⟨⟨hk.1.1.1.1.1.1, ⟨hk.1.1.1.1.1.2, ⟨hk.1.1.1.1.2, ⟨hk.1.1.1.2, ⟨hk.1.1.2, hk.1.2⟩⟩⟩⟩⟩, hk.2⟩)) hg hat)
          replace lL := am (Kd.fM (ok := (fun k_ => (w.heap.size ≤ k_) ∧ some k_ ≠ (.slice nJ j7.length nB : Value).ownBlock ∧ some k_ ≠ (.slice iG fI.length iD : Value).ownBlock ∧ some k_ ≠ (.slice (some kF) fW.length mW : Value).ownBlock ∧ k_ ≠ aJ ∧ k_ ≠ hY ∧ k_ ≠ g104)) (by refine rV ?_; exact Kd.fG lL.out (fun _ hk => ⟨⟨hk.1.1.1, ⟨hk.1.1.2.1, ⟨hk.1.1.2.2.1, ⟨hk.1.2, ⟨hk.1.1.2.2.2.1, ⟨hk.1.1.2.2.2.2.1, hk.1.1.2.2.2.2.2⟩⟩⟩⟩⟩⟩, hk.2⟩)) hg hat)
          replace lM := am (Kd.fM (ok := (fun k_ => (w.heap.size ≤ k_) ∧ some k_ ≠ (.slice nJ j7.length nB : Value).ownBlock ∧ some k_ ≠ (.slice iG fI.length iD : Value).ownBlock ∧ some k_ ≠ (.slice (some kF) fW.length mW : Value).ownBlock ∧ k_ ≠ aJ ∧ k_ ≠ hY ∧ k_ ≠ g104)) (by refine rV ?_; exact Kd.fG lM.out (fun _ hk => ⟨⟨hk.1.1.1, ⟨hk.1.1.2.1, ⟨hk.1.1.2.2.1, ⟨hk.1.2, ⟨hk.1.1.2.2.2.1, ⟨hk.1.1.2.2.2.2.1, hk.1.1.2.2.2.2.2⟩⟩⟩⟩⟩⟩, hk.2⟩)) hg hat)
          replace r7 := am (Kd.fM (ok := (fun k_ => (w.heap.size ≤ k_) ∧ some k_ ≠ (.slice iG fI.length iD : Value).ownBlock ∧ some k_ ≠ (.slice (some kF) fW.length mW : Value).ownBlock ∧ k_ ≠ aJ ∧ k_ ≠ hY ∧ k_ ≠ g104)) (by refine rV ?_; exact Kd.fG r7.1 (fun _ hk => ⟨⟨hk.1.1.1.1.1.1, ⟨hk.1.1.1.1.1.2, ⟨hk.1.1.1.1.2, ⟨hk.1.1.1.2, ⟨hk.1.1.2, hk.1.2⟩⟩⟩⟩⟩, hk.2⟩)) hg hat)
          replace HB := am hb
          have xS := am ho
          clear mH
          clear ho hb hg hat
          refine hK.out _ _ ⟨(bF gM.1 0).trans rfl, (bF gM.1 1).trans rfl, HS2_, HS3_, HS4_⟩ (fun hHeld => ?_)
          clear hK K
          refine nM ?_
          refine oN 11 (some 50) fun K hK => ?_
          refine lT 9 50 P0 ?_
          intro uC lq QK hb
          have HS2_ := (hb.cell (World.block_lt_of_cell? _ _ (hHeld.2.2.1))).trans (hHeld.2.2.1)
          have HS3_ := (hb.cell (World.block_lt_of_cell? _ _ (hHeld.2.2.2.1))).trans (hHeld.2.2.2.1)
          have HS4_ := (hb.cell (World.block_lt_of_cell? _ _ (hHeld.2.2.2.2))).trans (hHeld.2.2.2.2)
          replace dW := am (Kd.kL DN (Kd.bL QK) hb)
          replace mQ := am (Kd.gP (rV mQ.1) (Kd.bL QK) hb)
          replace lL := am (Kd.gP (rV lL.out) (Kd.bL QK) hb)
          replace lM := am (Kd.gP (rV lM.out) (Kd.bL QK) hb)
          replace r7 := am (Kd.gP (rV r7.1) (Kd.bL QK) hb)
          have pR := am (Kd.cO (Kd.eF (Kd.eF (Kd.eF (Kd.jK (M := fun k_ => (w.heap.size ≤ k_)) QK (aG mX) (fun k_ h_ => h_)) (Kd.R_lt jU)) (Kd.R_lt rX)) (Kd.R_lt (rR xS.1))) (aG mX))
          replace gO := am (Kd.dJ jU (Kd.bL QK) hb)
          replace eZ := am (Kd.dJ rX (Kd.bL QK) hb)
          replace xS := am (Kd.dJ (rR xS.1) (Kd.bL QK) hb)
          replace a3 := bB aQ hb
          replace gM := bB uP hb
          replace HB := bS mX hb
          replace l4 := am (aD.below qZ hb)
          clear hb QK
          refine hK.out _ _ ⟨(bF gM.1 0).trans rfl, (bF gM.1 1).trans rfl, HS2_, HS3_, HS4_⟩ (fun hHeld => ?_)
          clear hK K
          refine nM ?_
          exact rW xY (hCont (y6, I2, uC) _ ⟨hHeld, (by refine rV ?_; exact Kd.fG lL.out (fun _ hk => ⟨hk.1.1.1, ⟨hk.1.2, ⟨hk.2, ⟨hk.1.1.2.2.1, ⟨hk.1.1.2.2.2.1, ⟨hk.1.1.2.1, ⟨hk.1.1.2.2.2.2.1, ⟨hk.1.1.2.2.2.2.2.2, hk.1.1.2.2.2.2.2.1⟩⟩⟩⟩⟩⟩⟩⟩)), (by refine rV ?_; exact Kd.fG lM.out (fun _ hk => ⟨hk.1.1.1, ⟨hk.1.2, ⟨hk.2, ⟨hk.1.1.2.2.1, ⟨hk.1.1.2.2.2.1, ⟨hk.1.1.2.1, ⟨hk.1.1.2.2.2.2.1, ⟨hk.1.1.2.2.2.2.2.2, hk.1.1.2.2.2.2.2.1⟩⟩⟩⟩⟩⟩⟩⟩)), (by refine rV ?_; exact Kd.fG mQ.1 (fun _ hk => ⟨hk.1.1.1, ⟨hk.1.2, ⟨hk.2, ⟨hk.1.1.2.1, ⟨hk.1.1.2.2.1, ⟨hk.1.1.2.2.2.1, ⟨hk.1.1.2.2.2.2.2, hk.1.1.2.2.2.2.1⟩⟩⟩⟩⟩⟩⟩)), (by refine rR ?_; exact Kd.aM xS.1 (fun _ hk => ⟨hk.1.1, ⟨hk.2, ⟨hk.1.2.2, hk.1.2.1⟩⟩⟩)), (by refine rR ?_; exact Kd.aM pR.1 (fun _ hk => ⟨hk.1.1.1.1, ⟨hk.2, ⟨hk.1.2, hk.1.1.2⟩⟩⟩)), (by refine rV ?_; exact Kd.fG r7.1 (fun _ hk => ⟨hk.1.1.1, ⟨hk.1.2, ⟨hk.2, ⟨hk.1.1.2.1, ⟨hk.1.1.2.2.1, ⟨hk.1.1.2.2.2.1, ⟨hk.1.1.2.2.2.2.2, hk.1.1.2.2.2.2.1⟩⟩⟩⟩⟩⟩⟩)), (by refine rR ?_; exact Kd.aM eZ.1 (fun _ hk => ⟨hk.1.1.1, ⟨hk.1.2, ⟨hk.2, hk.1.1.2⟩⟩⟩)), (by refine rN ?_; exact Kd.aU dW.1 (fun _ hk => ⟨hk.1.1.1, ⟨hk.1.2, ⟨hk.2, ⟨hk.1.1.2.2.1, ⟨hk.1.1.2.1, ⟨hk.1.1.2.2.2.1, ⟨hk.1.1.2.2.2.2.2, hk.1.1.2.2.2.2.1⟩⟩⟩⟩⟩⟩⟩)), (by refine rR ?_; exact Kd.aM gO.1 (fun _ hk => ⟨hk.1.1.1, ⟨hk.1.2, ⟨hk.2, hk.1.1.2⟩⟩⟩)), aQ, uP, qZ, mX⟩)
         ·skip
          refine lT 9 50 P0 ?_
          intro uC lp CT hb
          have HS2_ := (hb.cell (World.block_lt_of_cell? _ _ (hHeld.2.2.1))).trans (hHeld.2.2.1)
          have HS3_ := (hb.cell (World.block_lt_of_cell? _ _ (hHeld.2.2.2.1))).trans (hHeld.2.2.2.1)
          have HS4_ := (hb.cell (World.block_lt_of_cell? _ _ (hHeld.2.2.2.2))).trans (hHeld.2.2.2.2)
          replace dW := am (Kd.kL DN (Kd.bL CT) hb)
          replace mQ := am (Kd.gP (rV mQ.1) (Kd.bL CT) hb)
          replace lL := am (Kd.gP (rV lL.out) (Kd.bL CT) hb)
          replace lM := am (Kd.gP (rV lM.out) (Kd.bL CT) hb)
          replace r7 := am (Kd.gP (rV r7.1) (Kd.bL CT) hb)
          have pR := am (Kd.cO (Kd.eF (Kd.eF (Kd.eF (Kd.jK (M := fun k_ => (w.heap.size ≤ k_)) CT (aG mX) (fun k_ h_ => h_)) (Kd.R_lt jU)) (Kd.R_lt rX)) (Kd.R_lt NJ)) (aG mX))
          replace gO := am (Kd.dJ jU (Kd.bL CT) hb)
          replace eZ := am (Kd.dJ rX (Kd.bL CT) hb)
          replace mH := am (Kd.dJ NJ (Kd.bL CT) hb)
          replace a3 := bB aQ hb
          replace gM := bB uP hb
          replace tQ := am (Kd.bK (by repeat (first | (with_reducible exact tQ.1) | (with_reducible refine Kd.gU ?_ _) | (with_reducible refine Kd.gV ?_ _) | (with_reducible refine Kd.iW ?_) | exact tQ.1)) hb)
          replace tT := am (Kd.bK (by repeat (first | (with_reducible exact tT.1) | (with_reducible refine Kd.gU ?_ _) | (with_reducible refine Kd.gV ?_ _) | (with_reducible refine Kd.iW ?_) | exact tT.1)) hb)
          replace HB := bS mX hb
          replace l4 := am (aD.below qZ hb)
          clear hb CT
          refine hK.out _ _ ⟨(bF gM.1 0).trans rfl, (bF gM.1 1).trans rfl, HS2_, HS3_, HS4_⟩ (fun hHeld => ?_)
          clear hK K
          refine nM ?_
          refine oN 4 (some 43) fun K hK => ?_
          refine Kd.dV Kd.string (w0 := w) w.heap.size (by rfl) (.tmp 39) (.tmp 42) 23 9 (.string ⟨#[]⟩) 16 rfl Try.underlying23 jT rfl (by decide) (by omega) y6 FE yL _ _ _ (F30 w (.slice nJ j7.length nB) (.slice iG fI.length iD) uC) (fun _ => False) rfl rfl ?aO ?aR (fun _ _ h => h) (fun _ h => h.elim) ?aF ?aB ?aS ?aL ?_
          (case aR => repeat (first | exact (Kd.G5 mQ.1).2.2 | (with_reducible refine Kd.gU ?_ _) | (with_reducible refine Kd.gV ?_ _) | (with_reducible refine Kd.iW ?_)))
          (case aB => exact mX)
          (case aF => exact (fun k_ hk => ⟨(Nat.le_trans (aG mX) hk), Kd.fresh' (Kd.R_lt jU) k_ hk, Kd.fresh' (Kd.R_lt rX) k_ hk, Kd.fresh' (Kd.R_lt (rR pR.1)) k_ hk⟩))
          (case aO => exact (by refine rR ?_; exact Kd.aM mH.1 (fun _ hk => ⟨hk.1.1.1.1, ⟨hk.1.1.2, ⟨hk.1.2, hk.2⟩⟩⟩)))
          (case aS => exact (aG mX))
          (case aL => have := WY.out; omega)
          intro I2 w45 ho hb hg hat
          have HS2_ := cell_grown hg (hHeld.2.2.1) VX
          have HS3_ := cell_grown hg (hHeld.2.2.2.1) VX
          have HS4_ := cell_grown hg (hHeld.2.2.2.2) VX
          rw [← RN.out] at ho
          replace gO := am (Kd.gW (ok := (F20 w (.slice iG fI.length iD) uC)) (by refine rR ?_; exact Kd.aM gO.1 (fun _ hk => ⟨⟨hk.1.1.1, ⟨hk.1.1.2, hk.2⟩⟩, hk.1.2⟩)) hg hat)
          replace eZ := am (Kd.gW (ok := (F20 w (.slice nJ j7.length nB) uC)) (by refine rR ?_; exact Kd.aM eZ.1 (fun _ hk => ⟨⟨hk.1.1.1, ⟨hk.1.1.2, hk.2⟩⟩, hk.1.2⟩)) hg hat)
          replace dW := am (Kd.nT (ok := (fun k_ => (w.heap.size ≤ k_) ∧ some k_ ≠ (.slice nJ j7.length nB : Value).ownBlock ∧ some k_ ≠ (.slice iG fI.length iD : Value).ownBlock ∧ some k_ ≠ (uC : Value).ownBlock ∧ k_ ≠ aJ ∧ k_ ≠ hY ∧ k_ ≠ g104)) (by refine rN ?_; exact Kd.aU dW.1 (fun _ hk => ⟨⟨hk.1.1.1, ⟨hk.1.1.2.1, ⟨hk.1.1.2.2.1, ⟨hk.2, ⟨hk.1.1.2.2.2.1, ⟨hk.1.1.2.2.2.2.1, hk.1.1.2.2.2.2.2⟩⟩⟩⟩⟩⟩, hk.1.2⟩)) hg hat)
          replace a3 := gkR aQ hg mH a3
          replace gM := gkR uP hg mH gM
          replace l4 := am (aD.grown qZ hg (aD.own_ne l4.out mH.1 (by decide)))
          replace mQ := am (Kd.fM (ok := (fun k_ => (w.heap.size ≤ k_) ∧ some k_ ≠ (.slice iG fI.length iD : Value).ownBlock ∧ some k_ ≠ (.slice (some kF) fW.length mW : Value).ownBlock ∧ some k_ ≠ (uC : Value).ownBlock ∧ k_ ≠ aJ ∧ k_ ≠ hY ∧ k_ ≠ g104)) (by refine rV ?_; exact Kd.fG mQ.1 (fun _ hk => ⟨⟨hk.1.1.1.1.1.1.1, ⟨hk.1.1.1.1.1.1.2, ⟨hk.1.1.1.1.1.2, ⟨hk.2, ⟨hk.1.1.1.1.2, ⟨hk.1.1.1.2, hk.1.1.2⟩⟩⟩⟩⟩⟩, hk.1.2⟩)) hg hat)
          replace lL := am (Kd.fM (ok := (fun k_ => (w.heap.size ≤ k_) ∧ some k_ ≠ (.slice nJ j7.length nB : Value).ownBlock ∧ some k_ ≠ (.slice iG fI.length iD : Value).ownBlock ∧ some k_ ≠ (.slice (some kF) fW.length mW : Value).ownBlock ∧ some k_ ≠ (uC : Value).ownBlock ∧ k_ ≠ aJ ∧ k_ ≠ hY ∧ k_ ≠ g104)) (by refine rV ?_; exact Kd.fG lL.out (fun _ hk => ⟨⟨hk.1.1.1.1, ⟨hk.1.1.1.2.1, ⟨hk.1.1.1.2.2.1, ⟨hk.1.1.2, ⟨hk.2, ⟨hk.1.1.1.2.2.2.1, ⟨hk.1.1.1.2.2.2.2.1, hk.1.1.1.2.2.2.2.2⟩⟩⟩⟩⟩⟩⟩, hk.1.2⟩)) hg hat)
          replace lM := am (Kd.fM (ok := (fun k_ => (w.heap.size ≤ k_) ∧ some k_ ≠ (.slice nJ j7.length nB : Value).ownBlock ∧ some k_ ≠ (.slice iG fI.length iD : Value).ownBlock ∧ some k_ ≠ (.slice (some kF) fW.length mW : Value).ownBlock ∧ some k_ ≠ (uC : Value).ownBlock ∧ k_ ≠ aJ ∧ k_ ≠ hY ∧ k_ ≠ g104)) (by refine rV ?_; exact Kd.fG lM.out (fun _ hk => ⟨⟨hk.1.1.1.1, ⟨hk.1.1.1.2.1, ⟨hk.1.1.1.2.2.1, ⟨hk.1.1.2, ⟨hk.2, ⟨hk.1.1.1.2.2.2.1, ⟨hk.1.1.1.2.2.2.2.1, hk.1.1.1.2.2.2.2.2⟩⟩⟩⟩⟩⟩⟩, hk.1.2⟩)) hg hat)
          replace r7 := am (Kd.fM (ok := (fun k_ => (w.heap.size ≤ k_) ∧ some k_ ≠ (.slice iG fI.length iD : Value).ownBlock ∧ some k_ ≠ (.slice (some kF) fW.length mW : Value).ownBlock ∧ some k_ ≠ (uC : Value).ownBlock ∧ k_ ≠ aJ ∧ k_ ≠ hY ∧ k_ ≠ g104)) (by refine rV ?_; exact Kd.fG r7.1 (fun _ hk => ⟨⟨hk.1.1.1.1.1.1.1, ⟨hk.1.1.1.1.1.1.2, ⟨hk.1.1.1.1.1.2, ⟨hk.2, ⟨hk.1.1.1.1.2, ⟨hk.1.1.1.2, hk.1.1.2⟩⟩⟩⟩⟩⟩, hk.1.2⟩)) hg hat)
          replace pR := am (Kd.gW (ok := (F20 w (.slice nJ j7.length nB) (.slice iG fI.length iD))) (by refine rR ?_; exact Kd.aM pR.1 (fun _ hk => ⟨⟨hk.1.1.1.1, ⟨hk.1.1.2, hk.1.2⟩⟩, hk.2⟩)) hg hat)
          replace HB := am hb
          have xS := am ho
          clear mH
          clear ho hb hg hat
          refine hK.out _ _ ⟨(bF gM.1 0).trans rfl, (bF gM.1 1).trans rfl, HS2_, HS3_, HS4_⟩ (fun hHeld => ?_)
          clear hK K
          refine nM ?_
          exact rW xY (hCont (y6, I2, uC) _ ⟨hHeld, (by refine rV ?_; exact Kd.fG lL.out (fun _ hk => ⟨hk.1.1, ⟨hk.2, ⟨hk.1.2.2.2.2.1, ⟨hk.1.2.2.1, ⟨hk.1.2.2.2.1, ⟨hk.1.2.1, ⟨hk.1.2.2.2.2.2.1, ⟨hk.1.2.2.2.2.2.2.2, hk.1.2.2.2.2.2.2.1⟩⟩⟩⟩⟩⟩⟩⟩)), (by refine rV ?_; exact Kd.fG lM.out (fun _ hk => ⟨hk.1.1, ⟨hk.2, ⟨hk.1.2.2.2.2.1, ⟨hk.1.2.2.1, ⟨hk.1.2.2.2.1, ⟨hk.1.2.1, ⟨hk.1.2.2.2.2.2.1, ⟨hk.1.2.2.2.2.2.2.2, hk.1.2.2.2.2.2.2.1⟩⟩⟩⟩⟩⟩⟩⟩)), (by refine rV ?_; exact Kd.fG mQ.1 (fun _ hk => ⟨hk.1.1, ⟨hk.2, ⟨hk.1.2.2.2.1, ⟨hk.1.2.1, ⟨hk.1.2.2.1, ⟨hk.1.2.2.2.2.1, ⟨hk.1.2.2.2.2.2.2, hk.1.2.2.2.2.2.1⟩⟩⟩⟩⟩⟩⟩)), (by refine rR ?_; exact Kd.aM xS.1 (fun _ hk => ⟨hk.1, ⟨hk.2.2.2, ⟨hk.2.2.1, hk.2.1⟩⟩⟩)), (by refine rR ?_; exact Kd.aM pR.1 (fun _ hk => ⟨hk.1.1, ⟨hk.2, ⟨hk.1.2.2, hk.1.2.1⟩⟩⟩)), (by refine rV ?_; exact Kd.fG r7.1 (fun _ hk => ⟨hk.1.1, ⟨hk.2, ⟨hk.1.2.2.2.1, ⟨hk.1.2.1, ⟨hk.1.2.2.1, ⟨hk.1.2.2.2.2.1, ⟨hk.1.2.2.2.2.2.2, hk.1.2.2.2.2.2.1⟩⟩⟩⟩⟩⟩⟩)), (by refine rR ?_; exact Kd.aM eZ.1 (fun _ hk => ⟨hk.1.1, ⟨hk.2, ⟨hk.1.2.2, hk.1.2.1⟩⟩⟩)), (by refine rN ?_; exact Kd.aU dW.1 (fun _ hk => ⟨hk.1.1, ⟨hk.2, ⟨hk.1.2.2.2.1, ⟨hk.1.2.2.1, ⟨hk.1.2.1, ⟨hk.1.2.2.2.2.1, ⟨hk.1.2.2.2.2.2.2, hk.1.2.2.2.2.2.1⟩⟩⟩⟩⟩⟩⟩)), (by refine rR ?_; exact Kd.aM gO.1 (fun _ hk => ⟨hk.1.1, ⟨hk.2, ⟨hk.1.2.2, hk.1.2.1⟩⟩⟩)), aQ, uP, qZ, mX⟩)
        ·skip
         refine lT 9 50 P0 ?_
         intro uC jk EU hb
         have HS2_ := (hb.cell (World.block_lt_of_cell? _ _ (hHeld.2.2.1))).trans (hHeld.2.2.1)
         have HS3_ := (hb.cell (World.block_lt_of_cell? _ _ (hHeld.2.2.2.1))).trans (hHeld.2.2.2.1)
         have HS4_ := (hb.cell (World.block_lt_of_cell? _ _ (hHeld.2.2.2.2))).trans (hHeld.2.2.2.2)
         replace dW := am (Kd.kL DN (Kd.bL EU) hb)
         replace mQ := am (Kd.gP (rV mQ.1) (Kd.bL EU) hb)
         replace lL := am (Kd.gP (rV lL.out) (Kd.bL EU) hb)
         replace lM := am (Kd.gP (rV lM.out) (Kd.bL EU) hb)
         replace r7 := am (Kd.gP (rV r7.1) (Kd.bL EU) hb)
         have pR := am (Kd.cO (Kd.eF (Kd.eF (Kd.jK (M := fun k_ => (w.heap.size ≤ k_)) EU (aG mX) (fun k_ h_ => h_)) (Kd.R_lt jU)) (Kd.R_lt rX)) (aG mX))
         replace gO := am (Kd.dJ jU (Kd.bL EU) hb)
         replace eZ := am (Kd.dJ rX (Kd.bL EU) hb)
         replace a3 := bB aQ hb
         replace gM := bB uP hb
         replace tQ := am (Kd.bK (by repeat (first | (with_reducible exact tQ.1) | (with_reducible refine Kd.gU ?_ _) | (with_reducible refine Kd.gV ?_ _) | (with_reducible refine Kd.iW ?_) | exact tQ.1)) hb)
         replace tT := am (Kd.bK (by repeat (first | (with_reducible exact tT.1) | (with_reducible refine Kd.gU ?_ _) | (with_reducible refine Kd.gV ?_ _) | (with_reducible refine Kd.iW ?_) | exact tT.1)) hb)
         replace HB := bS mX hb
         replace l4 := am (aD.below qZ hb)
         clear hb EU
         refine hK.out _ _ ⟨(bF gM.1 0).trans rfl, (bF gM.1 1).trans rfl, HS2_, HS3_, HS4_⟩ (fun hHeld => ?_)
         clear hK K
         refine nM ?_
         refine oN 0 (some 39) fun K hK => ?_
         refine lT 9 39 I7 ?_
         intro y6 lp CT hb
         have HS2_ := (hb.cell (World.block_lt_of_cell? _ _ (hHeld.2.2.1))).trans (hHeld.2.2.1)
         have HS3_ := (hb.cell (World.block_lt_of_cell? _ _ (hHeld.2.2.2.1))).trans (hHeld.2.2.2.1)
         have HS4_ := (hb.cell (World.block_lt_of_cell? _ _ (hHeld.2.2.2.2))).trans (hHeld.2.2.2.2)
         replace dW := am (Kd.kL DN (Kd.bL CT) hb)
         replace mQ := am (Kd.gP (rV mQ.1) (Kd.bL CT) hb)
         replace lL := am (Kd.gP (rV lL.out) (Kd.bL CT) hb)
         replace lM := am (Kd.gP (rV lM.out) (Kd.bL CT) hb)
         replace r7 := am (Kd.gP (rV r7.1) (Kd.bL CT) hb)
         have mH := am (Kd.cO (Kd.eF (Kd.eF (Kd.eF (Kd.jK (M := fun k_ => (w.heap.size ≤ k_)) CT (aG mX) (fun k_ h_ => h_)) (Kd.R_lt jU)) (Kd.R_lt rX)) (Kd.R_lt (rR pR.1))) (aG mX))
         replace gO := am (Kd.dJ jU (Kd.bL CT) hb)
         replace eZ := am (Kd.dJ rX (Kd.bL CT) hb)
         replace pR := am (Kd.dJ (rR pR.1) (Kd.bL CT) hb)
         replace a3 := bB aQ hb
         replace gM := bB uP hb
         replace tQ := am (Kd.bK (by repeat (first | (with_reducible exact tQ.1) | (with_reducible refine Kd.gU ?_ _) | (with_reducible refine Kd.gV ?_ _) | (with_reducible refine Kd.iW ?_) | exact tQ.1)) hb)
         replace tT := am (Kd.bK (by repeat (first | (with_reducible exact tT.1) | (with_reducible refine Kd.gU ?_ _) | (with_reducible refine Kd.gV ?_ _) | (with_reducible refine Kd.iW ?_) | exact tT.1)) hb)
         replace HB := bS mX hb
         replace l4 := am (aD.below qZ hb)
         clear hb CT
         refine hK.out _ _ ⟨(bF gM.1 0).trans rfl, (bF gM.1 1).trans rfl, HS2_, HS3_, HS4_⟩ (fun hHeld => ?_)
         clear hK K
         refine nM ?_
         refine oN 4 (some 43) fun K hK => ?_
         refine Kd.dV Kd.string (w0 := w) w.heap.size (by rfl) (.tmp 39) (.tmp 42) 23 9 (.string ⟨#[]⟩) 16 rfl Try.underlying23 jT rfl (by decide) (by omega) y6 FE yL _ _ _ (F30 w (.slice nJ j7.length nB) (.slice iG fI.length iD) uC) (fun _ => False) rfl rfl ?aO ?aR (fun _ _ h => h) (fun _ h => h.elim) ?aF ?aB ?aS ?aL ?_
         (case aR => repeat (first | exact (Kd.G5 mQ.1).2.2 | (with_reducible refine Kd.gU ?_ _) | (with_reducible refine Kd.gV ?_ _) | (with_reducible refine Kd.iW ?_)))
         (case aB => exact mX)
         (case aF => exact (fun k_ hk => ⟨(Nat.le_trans (aG mX) hk), Kd.fresh' (Kd.R_lt jU) k_ hk, Kd.fresh' (Kd.R_lt rX) k_ hk, Kd.fresh' (Kd.R_lt (rR pR.1)) k_ hk⟩))
         (case aO => exact (by refine rR ?_; exact Kd.aM mH.1 (fun _ hk => ⟨hk.1.1.1.1, ⟨hk.1.1.2, ⟨hk.1.2, hk.2⟩⟩⟩)))
         (case aS => exact (aG mX))
         (case aL => have := WY.out; omega)
         intro I2 w45 ho hb hg hat
         have HS2_ := cell_grown hg (hHeld.2.2.1) VX
         have HS3_ := cell_grown hg (hHeld.2.2.2.1) VX
         have HS4_ := cell_grown hg (hHeld.2.2.2.2) VX
         rw [← RN.out] at ho
         replace gO := am (Kd.gW (ok := (F20 w (.slice iG fI.length iD) uC)) (by refine rR ?_; exact Kd.aM gO.1 (fun _ hk => ⟨⟨hk.1.1.1, ⟨hk.1.1.2, hk.1.2⟩⟩, hk.2⟩)) hg hat)
         replace eZ := am (Kd.gW (ok := (F20 w (.slice nJ j7.length nB) uC)) (by refine rR ?_; exact Kd.aM eZ.1 (fun _ hk => ⟨⟨hk.1.1.1, ⟨hk.1.1.2, hk.1.2⟩⟩, hk.2⟩)) hg hat)
         replace dW := am (Kd.nT (ok := (fun k_ => (w.heap.size ≤ k_) ∧ some k_ ≠ (.slice nJ j7.length nB : Value).ownBlock ∧ some k_ ≠ (.slice iG fI.length iD : Value).ownBlock ∧ some k_ ≠ (uC : Value).ownBlock ∧ k_ ≠ aJ ∧ k_ ≠ hY ∧ k_ ≠ g104)) (by refine rN ?_; exact Kd.aU dW.1 (fun _ hk => ⟨⟨hk.1.1.1, ⟨hk.1.1.2.1, ⟨hk.1.1.2.2.1, ⟨hk.1.2, ⟨hk.1.1.2.2.2.1, ⟨hk.1.1.2.2.2.2.1, hk.1.1.2.2.2.2.2⟩⟩⟩⟩⟩⟩, hk.2⟩)) hg hat)
         replace a3 := gkR aQ hg mH a3
         replace gM := gkR uP hg mH gM
         replace l4 := am (aD.grown qZ hg (aD.own_ne l4.out mH.1 (by decide)))
         replace mQ := am (Kd.fM (ok := (fun k_ => (w.heap.size ≤ k_) ∧ some k_ ≠ (.slice iG fI.length iD : Value).ownBlock ∧ some k_ ≠ (.slice (some kF) fW.length mW : Value).ownBlock ∧ some k_ ≠ (uC : Value).ownBlock ∧ k_ ≠ aJ ∧ k_ ≠ hY ∧ k_ ≠ g104)) (by refine rV ?_; exact Kd.fG mQ.1 (fun _ hk => ⟨⟨hk.1.1.1.1.1.1.1, ⟨hk.1.1.1.1.1.1.2, ⟨hk.1.1.1.1.1.2, ⟨hk.1.2, ⟨hk.1.1.1.1.2, ⟨hk.1.1.1.2, hk.1.1.2⟩⟩⟩⟩⟩⟩, hk.2⟩)) hg hat)
         replace lL := am (Kd.fM (ok := (fun k_ => (w.heap.size ≤ k_) ∧ some k_ ≠ (.slice nJ j7.length nB : Value).ownBlock ∧ some k_ ≠ (.slice iG fI.length iD : Value).ownBlock ∧ some k_ ≠ (.slice (some kF) fW.length mW : Value).ownBlock ∧ some k_ ≠ (uC : Value).ownBlock ∧ k_ ≠ aJ ∧ k_ ≠ hY ∧ k_ ≠ g104)) (by refine rV ?_; exact Kd.fG lL.out (fun _ hk => ⟨⟨hk.1.1.1.1, ⟨hk.1.1.1.2.1, ⟨hk.1.1.1.2.2.1, ⟨hk.1.1.2, ⟨hk.1.2, ⟨hk.1.1.1.2.2.2.1, ⟨hk.1.1.1.2.2.2.2.1, hk.1.1.1.2.2.2.2.2⟩⟩⟩⟩⟩⟩⟩, hk.2⟩)) hg hat)
         replace lM := am (Kd.fM (ok := (fun k_ => (w.heap.size ≤ k_) ∧ some k_ ≠ (.slice nJ j7.length nB : Value).ownBlock ∧ some k_ ≠ (.slice iG fI.length iD : Value).ownBlock ∧ some k_ ≠ (.slice (some kF) fW.length mW : Value).ownBlock ∧ some k_ ≠ (uC : Value).ownBlock ∧ k_ ≠ aJ ∧ k_ ≠ hY ∧ k_ ≠ g104)) (by refine rV ?_; exact Kd.fG lM.out (fun _ hk => ⟨⟨hk.1.1.1.1, ⟨hk.1.1.1.2.1, ⟨hk.1.1.1.2.2.1, ⟨hk.1.1.2, ⟨hk.1.2, ⟨hk.1.1.1.2.2.2.1, ⟨hk.1.1.1.2.2.2.2.1, hk.1.1.1.2.2.2.2.2⟩⟩⟩⟩⟩⟩⟩, hk.2⟩)) hg hat)
         replace r7 := am (Kd.fM (ok := (fun k_ => (w.heap.size ≤ k_) ∧ some k_ ≠ (.slice iG fI.length iD : Value).ownBlock ∧ some k_ ≠ (.slice (some kF) fW.length mW : Value).ownBlock ∧ some k_ ≠ (uC : Value).ownBlock ∧ k_ ≠ aJ ∧ k_ ≠ hY ∧ k_ ≠ g104)) (by refine rV ?_; exact Kd.fG r7.1 (fun _ hk => ⟨⟨hk.1.1.1.1.1.1.1, ⟨hk.1.1.1.1.1.1.2, ⟨hk.1.1.1.1.1.2, ⟨hk.1.2, ⟨hk.1.1.1.1.2, ⟨hk.1.1.1.2, hk.1.1.2⟩⟩⟩⟩⟩⟩, hk.2⟩)) hg hat)
         replace pR := am (Kd.gW (ok := (F20 w (.slice nJ j7.length nB) (.slice iG fI.length iD))) (by refine rR ?_; exact Kd.aM pR.1 (fun _ hk => ⟨⟨hk.1.1.1.1, ⟨hk.1.1.2, hk.1.2⟩⟩, hk.2⟩)) hg hat)
         replace HB := am hb
         have xS := am ho
         clear mH
         clear ho hb hg hat
         refine hK.out _ _ ⟨(bF gM.1 0).trans rfl, (bF gM.1 1).trans rfl, HS2_, HS3_, HS4_⟩ (fun hHeld => ?_)
         clear hK K
         refine nM ?_
         exact rW xY (hCont (y6, I2, uC) _ ⟨hHeld, (by refine rV ?_; exact Kd.fG lL.out (fun _ hk => ⟨hk.1.1, ⟨hk.2, ⟨hk.1.2.2.2.2.1, ⟨hk.1.2.2.1, ⟨hk.1.2.2.2.1, ⟨hk.1.2.1, ⟨hk.1.2.2.2.2.2.1, ⟨hk.1.2.2.2.2.2.2.2, hk.1.2.2.2.2.2.2.1⟩⟩⟩⟩⟩⟩⟩⟩)), (by refine rV ?_; exact Kd.fG lM.out (fun _ hk => ⟨hk.1.1, ⟨hk.2, ⟨hk.1.2.2.2.2.1, ⟨hk.1.2.2.1, ⟨hk.1.2.2.2.1, ⟨hk.1.2.1, ⟨hk.1.2.2.2.2.2.1, ⟨hk.1.2.2.2.2.2.2.2, hk.1.2.2.2.2.2.2.1⟩⟩⟩⟩⟩⟩⟩⟩)), (by refine rV ?_; exact Kd.fG mQ.1 (fun _ hk => ⟨hk.1.1, ⟨hk.2, ⟨hk.1.2.2.2.1, ⟨hk.1.2.1, ⟨hk.1.2.2.1, ⟨hk.1.2.2.2.2.1, ⟨hk.1.2.2.2.2.2.2, hk.1.2.2.2.2.2.1⟩⟩⟩⟩⟩⟩⟩)), (by refine rR ?_; exact Kd.aM xS.1 (fun _ hk => ⟨hk.1, ⟨hk.2.2.2, ⟨hk.2.2.1, hk.2.1⟩⟩⟩)), (by refine rR ?_; exact Kd.aM pR.1 (fun _ hk => ⟨hk.1.1, ⟨hk.2, ⟨hk.1.2.2, hk.1.2.1⟩⟩⟩)), (by refine rV ?_; exact Kd.fG r7.1 (fun _ hk => ⟨hk.1.1, ⟨hk.2, ⟨hk.1.2.2.2.1, ⟨hk.1.2.1, ⟨hk.1.2.2.1, ⟨hk.1.2.2.2.2.1, ⟨hk.1.2.2.2.2.2.2, hk.1.2.2.2.2.2.1⟩⟩⟩⟩⟩⟩⟩)), (by refine rR ?_; exact Kd.aM eZ.1 (fun _ hk => ⟨hk.1.1, ⟨hk.2, ⟨hk.1.2.2, hk.1.2.1⟩⟩⟩)), (by refine rN ?_; exact Kd.aU dW.1 (fun _ hk => ⟨hk.1.1, ⟨hk.2, ⟨hk.1.2.2.2.1, ⟨hk.1.2.2.1, ⟨hk.1.2.1, ⟨hk.1.2.2.2.2.1, ⟨hk.1.2.2.2.2.2.2, hk.1.2.2.2.2.2.1⟩⟩⟩⟩⟩⟩⟩)), (by refine rR ?_; exact Kd.aM gO.1 (fun _ hk => ⟨hk.1.1, ⟨hk.2, ⟨hk.1.2.2, hk.1.2.1⟩⟩⟩)), aQ, uP, qZ, mX⟩)
       rintro ⟨y6, I2, uC⟩ QF ⟨hS_, h0_, h1_, h2_, h3_, h4_, h5_, h6_, h7_, h8_, h9_, h10_, h11_, h12_⟩
       have lL : aA (Kd.V Kd.string 9 QF w.heap.size (fun k_ => (w.heap.size ≤ k_) ∧ some k_ ≠ (I2 : Value).ownBlock ∧ some k_ ≠ (uC : Value).ownBlock ∧ some k_ ≠ (.slice iG fI.length iD : Value).ownBlock ∧ some k_ ≠ (.slice (some kF) fW.length mW : Value).ownBlock ∧ some k_ ≠ (.slice nJ j7.length nB : Value).ownBlock ∧ k_ ≠ aJ ∧ k_ ≠ g104 ∧ k_ ≠ hY) (.slice OS ((aC fW oB).f1).length PG) ((aC fW oB).f1)) := ⟨h0_⟩
       have lM : aA (Kd.V Kd.string 9 QF w.heap.size (fun k_ => (w.heap.size ≤ k_) ∧ some k_ ≠ (I2 : Value).ownBlock ∧ some k_ ≠ (uC : Value).ownBlock ∧ some k_ ≠ (.slice iG fI.length iD : Value).ownBlock ∧ some k_ ≠ (.slice (some kF) fW.length mW : Value).ownBlock ∧ some k_ ≠ (.slice nJ j7.length nB : Value).ownBlock ∧ k_ ≠ aJ ∧ k_ ≠ g104 ∧ k_ ≠ hY) (.slice OT ((aC fW oB).f2).length PH) ((aC fW oB).f2)) := ⟨h1_⟩
       have mQ : aA (Kd.V Kd.string 9 QF w.heap.size (fun k_ => (w.heap.size ≤ k_) ∧ some k_ ≠ (I2 : Value).ownBlock ∧ some k_ ≠ (uC : Value).ownBlock ∧ some k_ ≠ (.slice iG fI.length iD : Value).ownBlock ∧ some k_ ≠ (.slice (some kF) fW.length mW : Value).ownBlock ∧ k_ ≠ aJ ∧ k_ ≠ g104 ∧ k_ ≠ hY) (.slice nJ yL.length nB) yL) := ⟨h2_⟩
       have xS : aA (Kd.R Kd.string 9 QF w.heap.size (F30 w uC (.slice iG fI.length iD) (.slice nJ j7.length nB)) I2 FF) := ⟨h3_⟩
       have pR : aA (Kd.R Kd.string 9 QF w.heap.size (F30 w I2 (.slice iG fI.length iD) (.slice nJ j7.length nB)) uC rU) := ⟨h4_⟩
       have r7 : aA (Kd.V Kd.string 9 QF w.heap.size (fun k_ => (w.heap.size ≤ k_) ∧ some k_ ≠ (I2 : Value).ownBlock ∧ some k_ ≠ (uC : Value).ownBlock ∧ some k_ ≠ (.slice iG fI.length iD : Value).ownBlock ∧ some k_ ≠ (.slice (some kF) fW.length mW : Value).ownBlock ∧ k_ ≠ aJ ∧ k_ ≠ g104 ∧ k_ ≠ hY) (.slice xh FG.length jy) FG) := ⟨h5_⟩
       replace eZ : aA (Kd.R Kd.string 9 QF w.heap.size (F30 w I2 uC (.slice nJ j7.length nB)) (.slice iG fI.length iD) fI) := ⟨h6_⟩
       replace dW : aA (Kd.N k56 56 QF w.heap.size (fun k_ => (w.heap.size ≤ k_) ∧ some k_ ≠ (I2 : Value).ownBlock ∧ some k_ ≠ (uC : Value).ownBlock ∧ some k_ ≠ (.slice iG fI.length iD : Value).ownBlock ∧ some k_ ≠ (.slice nJ j7.length nB : Value).ownBlock ∧ k_ ≠ aJ ∧ k_ ≠ g104 ∧ k_ ≠ hY) (.slice (some kF) fW.length mW) fW) := ⟨h7_⟩
       replace gO : aA (Kd.R Kd.string 9 QF w.heap.size (F30 w I2 uC (.slice iG fI.length iD)) (.slice nJ j7.length nB) j7) := ⟨h8_⟩
       replace a3 : aA (QF.heap[aJ]? = some (.cells #[.slice none 0 0, .slice none 0 0] 31 (0, 0))) := ⟨h9_⟩
       replace gM : aA (QF.heap[hY]? = some (.cells #[.slice iG fI.length iD, .slice (some kF) fW.length mW] 31 (0, 0))) := ⟨h10_⟩
       replace l4 : aA (aD w QF g104 kQ wQ) := ⟨h11_⟩
       replace HB : aA (Below w.heap.size w QF) := ⟨h12_⟩
       clear h0_ h1_ h2_ h3_ h4_ h5_ h6_ h7_ h8_ h9_ h10_ h11_ h12_
       have hHeld : QF.cell? ⟨hY, 0, none⟩ = some (.slice iG fI.length iD) ∧ QF.cell? ⟨hY, 1, none⟩ = some (.slice (some kF) fW.length mW) ∧ QF.cell? (kF.add ((oB).toNat * 3)) = some (.string ((aC fW oB).f0)) ∧ QF.cell? ⟨(kF.add ((oB).toNat * 3)).block, (kF.add ((oB).toNat * 3)).off + 1, none⟩ = some (.slice OS ((aC fW oB).f1).length PG) ∧ QF.cell? ⟨(kF.add ((oB).toNat * 3)).block, (kF.add ((oB).toNat * 3)).off + 2, none⟩ = some (.slice OT ((aC fW oB).f2).length PH) := hS_
       obtain ⟨HX, HZ, su⟩ := Kd.bN pR.1
       (first | subst su | (obtain ⟨f4_, f5_⟩ := sj su; subst f4_; subst f5_))
       refine rW (a' := ?_) ?_ ?_
       rotate_left
       ·simp only [CX, Act.put, List.setIfInBounds_toArray, List.set_cons_zero, List.set_cons_succ]
        rfl
       refine oN 12 (some 51) fun K hK => ?_
       refine Kd.dV Kd.string (w0 := w) w.heap.size (by rfl) (.tmp 43) (.tmp 50) 23 9 (.string ⟨#[]⟩) 16 rfl Try.underlying23 jT rfl (by decide) (by omega) I2 FF rU _ _ _ (F30 w (.slice nJ j7.length nB) (.slice iG fI.length iD) (.slice HX rU.length HZ)) (fun _ => False) rfl rfl ?aO ?aR (fun _ _ h => h) (fun _ h => h.elim) ?aF ?aB ?aS ?aL ?_
       (case aR => repeat (first | exact (Kd.aT pR.1).2.2 | (with_reducible refine Kd.gU ?_ _) | (with_reducible refine Kd.gV ?_ _) | (with_reducible refine Kd.iW ?_)))
       (case aB => exact mX)
       (case aF => exact (fun k_ hk => ⟨(Nat.le_trans (aG mX) hk), Kd.fresh' (Kd.R_lt jU) k_ hk, Kd.fresh' (Kd.R_lt rX) k_ hk, Kd.fresh' (Kd.R_lt (rR pR.1)) k_ hk⟩))
       (case aO => exact (by refine rR ?_; exact Kd.aM xS.1 (fun _ hk => ⟨hk.1, ⟨hk.2.2.2, ⟨hk.2.2.1, hk.2.1⟩⟩⟩)))
       (case aS => exact (aG mX))
       (case aL => have := Jc.out; omega)
       intro wk w47 ho hb hg hat
       have HS2_ := cell_grown hg (hHeld.2.2.1) gw
       have HS3_ := cell_grown hg (hHeld.2.2.2.1) gw
       have HS4_ := cell_grown hg (hHeld.2.2.2.2) gw
       rw [← X1.out] at ho
       replace gO := am (Kd.gW (ok := (F20 w (.slice iG fI.length iD) (.slice HX rU.length HZ))) (by refine rR ?_; exact Kd.aM gO.1 (fun _ hk => ⟨⟨hk.1, ⟨hk.2.2.2, hk.2.2.1⟩⟩, hk.2.1⟩)) hg hat)
       replace eZ := am (Kd.gW (ok := (F20 w (.slice nJ j7.length nB) (.slice HX rU.length HZ))) (by refine rR ?_; exact Kd.aM eZ.1 (fun _ hk => ⟨⟨hk.1, ⟨hk.2.2.2, hk.2.2.1⟩⟩, hk.2.1⟩)) hg hat)
       replace dW := am (Kd.nT (ok := (fun k_ => (w.heap.size ≤ k_) ∧ some k_ ≠ (.slice nJ j7.length nB : Value).ownBlock ∧ some k_ ≠ (.slice iG fI.length iD : Value).ownBlock ∧ some k_ ≠ (.slice HX rU.length HZ : Value).ownBlock ∧ k_ ≠ aJ ∧ k_ ≠ g104 ∧ k_ ≠ hY)) (by refine rN ?_; exact Kd.aU dW.1 (fun _ hk => ⟨⟨hk.1, ⟨hk.2.2.2.2.1, ⟨hk.2.2.2.1, ⟨hk.2.2.1, ⟨hk.2.2.2.2.2.1, ⟨hk.2.2.2.2.2.2.1, hk.2.2.2.2.2.2.2⟩⟩⟩⟩⟩⟩, hk.2.1⟩)) hg hat)
       replace a3 := gkR aQ hg xS a3
       replace gM := gkR uP hg xS gM
       replace l4 := am (aD.grown qZ hg (aD.own_ne l4.out xS.1 (by decide)))
       replace mQ := am (Kd.fM (ok := (fun k_ => (w.heap.size ≤ k_) ∧ some k_ ≠ (.slice iG fI.length iD : Value).ownBlock ∧ some k_ ≠ (.slice (some kF) fW.length mW : Value).ownBlock ∧ some k_ ≠ (.slice HX rU.length HZ : Value).ownBlock ∧ k_ ≠ aJ ∧ k_ ≠ g104 ∧ k_ ≠ hY)) (by refine rV ?_; exact Kd.fG mQ.1 (fun _ hk => ⟨⟨hk.1, ⟨hk.2.2.2.1, ⟨hk.2.2.2.2.1, ⟨hk.2.2.1, ⟨hk.2.2.2.2.2.1, ⟨hk.2.2.2.2.2.2.1, hk.2.2.2.2.2.2.2⟩⟩⟩⟩⟩⟩, hk.2.1⟩)) hg hat)
       replace lL := am (Kd.fM (ok := (fun k_ => (w.heap.size ≤ k_) ∧ some k_ ≠ (.slice nJ j7.length nB : Value).ownBlock ∧ some k_ ≠ (.slice iG fI.length iD : Value).ownBlock ∧ some k_ ≠ (.slice (some kF) fW.length mW : Value).ownBlock ∧ some k_ ≠ (.slice HX rU.length HZ : Value).ownBlock ∧ k_ ≠ aJ ∧ k_ ≠ g104 ∧ k_ ≠ hY)) (by refine rV ?_; exact Kd.fG lL.out (fun _ hk => ⟨⟨hk.1, ⟨hk.2.2.2.2.2.1, ⟨hk.2.2.2.1, ⟨hk.2.2.2.2.1, ⟨hk.2.2.1, ⟨hk.2.2.2.2.2.2.1, ⟨hk.2.2.2.2.2.2.2.1, hk.2.2.2.2.2.2.2.2⟩⟩⟩⟩⟩⟩⟩, hk.2.1⟩)) hg hat)
       replace lM := am (Kd.fM (ok := (fun k_ => (w.heap.size ≤ k_) ∧ some k_ ≠ (.slice nJ j7.length nB : Value).ownBlock ∧ some k_ ≠ (.slice iG fI.length iD : Value).ownBlock ∧ some k_ ≠ (.slice (some kF) fW.length mW : Value).ownBlock ∧ some k_ ≠ (.slice HX rU.length HZ : Value).ownBlock ∧ k_ ≠ aJ ∧ k_ ≠ g104 ∧ k_ ≠ hY)) (by refine rV ?_; exact Kd.fG lM.out (fun _ hk => ⟨⟨hk.1, ⟨hk.2.2.2.2.2.1, ⟨hk.2.2.2.1, ⟨hk.2.2.2.2.1, ⟨hk.2.2.1, ⟨hk.2.2.2.2.2.2.1, ⟨hk.2.2.2.2.2.2.2.1, hk.2.2.2.2.2.2.2.2⟩⟩⟩⟩⟩⟩⟩, hk.2.1⟩)) hg hat)
       replace r7 := am (Kd.fM (ok := (fun k_ => (w.heap.size ≤ k_) ∧ some k_ ≠ (.slice iG fI.length iD : Value).ownBlock ∧ some k_ ≠ (.slice (some kF) fW.length mW : Value).ownBlock ∧ some k_ ≠ (.slice HX rU.length HZ : Value).ownBlock ∧ k_ ≠ aJ ∧ k_ ≠ g104 ∧ k_ ≠ hY)) (by refine rV ?_; exact Kd.fG r7.1 (fun _ hk => ⟨⟨hk.1, ⟨hk.2.2.2.1, ⟨hk.2.2.2.2.1, ⟨hk.2.2.1, ⟨hk.2.2.2.2.2.1, ⟨hk.2.2.2.2.2.2.1, hk.2.2.2.2.2.2.2⟩⟩⟩⟩⟩⟩, hk.2.1⟩)) hg hat)
       replace pR := am (Kd.gW (ok := (F20 w (.slice nJ j7.length nB) (.slice iG fI.length iD))) (by refine rR ?_; exact Kd.aM pR.1 (fun _ hk => ⟨⟨hk.1, ⟨hk.2.2.2, hk.2.2.1⟩⟩, hk.2.1⟩)) hg hat)
       replace HB := am hb
       have FV := am ho
       clear xS
       clear ho hb hg hat
       refine hK.out _ _ ⟨(bF gM.1 0).trans rfl, (bF gM.1 1).trans rfl, HS2_, HS3_, HS4_⟩ (fun hHeld => ?_)
       clear hK K
       refine nM ?_
       refine oN 16 (some 55) fun K hK => ?_
       refine Kd.dV Kd.string (w0 := w) w.heap.size (by rfl) (.tmp 51) (.tmp 54) 23 9 (.string ⟨#[]⟩) 16 rfl Try.underlying23 jT rfl (by decide) (by omega) wk Bw FG _ _ _ (F30 w (.slice nJ j7.length nB) (.slice iG fI.length iD) (.slice HX rU.length HZ)) (fun _ => False) rfl rfl ?aO ?aR (fun _ _ h => h) (fun _ h => h.elim) ?aF ?aB ?aS ?aL ?_
       (case aR => repeat (first | exact (Kd.G5 r7.1).2.2 | (with_reducible refine Kd.gU ?_ _) | (with_reducible refine Kd.gV ?_ _) | (with_reducible refine Kd.iW ?_)))
       (case aB => exact mX)
       (case aF => exact (fun k_ hk => ⟨(Nat.le_trans (aG mX) hk), Kd.fresh' (Kd.R_lt jU) k_ hk, Kd.fresh' (Kd.R_lt rX) k_ hk, Kd.fresh' (Kd.R_lt (rR pR.1)) k_ hk⟩))
       (case aO => exact (rR FV.1))
       (case aS => exact (aG mX))
       (case aL => have := Je.out; omega)
       intro aOC w49 ho hb hg hat
       have HS2_ := cell_grown hg (hHeld.2.2.1) gx
       have HS3_ := cell_grown hg (hHeld.2.2.2.1) gx
       have HS4_ := cell_grown hg (hHeld.2.2.2.2) gx
       rw [← Jy.out] at ho
       replace gO := am (Kd.gW (ok := (F20 w (.slice iG fI.length iD) (.slice HX rU.length HZ))) jU hg hat)
       replace eZ := am (Kd.gW (ok := (F20 w (.slice nJ j7.length nB) (.slice HX rU.length HZ))) rX hg hat)
       replace dW := am (Kd.nT (ok := (fun k_ => (w.heap.size ≤ k_) ∧ some k_ ≠ (.slice nJ j7.length nB : Value).ownBlock ∧ some k_ ≠ (.slice iG fI.length iD : Value).ownBlock ∧ some k_ ≠ (.slice HX rU.length HZ : Value).ownBlock ∧ k_ ≠ aJ ∧ k_ ≠ g104 ∧ k_ ≠ hY)) DN hg hat)
       replace a3 := gkR aQ hg FV a3
       replace gM := gkR uP hg FV gM
       replace l4 := am (aD.grown qZ hg (aD.own_ne l4.out FV.1 (by decide)))
       replace mQ := am (Kd.fM (ok := (fun k_ => (w.heap.size ≤ k_) ∧ some k_ ≠ (.slice iG fI.length iD : Value).ownBlock ∧ some k_ ≠ (.slice (some kF) fW.length mW : Value).ownBlock ∧ some k_ ≠ (.slice HX rU.length HZ : Value).ownBlock ∧ k_ ≠ aJ ∧ k_ ≠ g104 ∧ k_ ≠ hY)) (rV mQ.1) hg hat)
       replace lL := am (Kd.fM (ok := (fun k_ => (w.heap.size ≤ k_) ∧ some k_ ≠ (.slice nJ j7.length nB : Value).ownBlock ∧ some k_ ≠ (.slice iG fI.length iD : Value).ownBlock ∧ some k_ ≠ (.slice (some kF) fW.length mW : Value).ownBlock ∧ some k_ ≠ (.slice HX rU.length HZ : Value).ownBlock ∧ k_ ≠ aJ ∧ k_ ≠ g104 ∧ k_ ≠ hY)) (rV lL.out) hg hat)
       replace lM := am (Kd.fM (ok := (fun k_ => (w.heap.size ≤ k_) ∧ some k_ ≠ (.slice nJ j7.length nB : Value).ownBlock ∧ some k_ ≠ (.slice iG fI.length iD : Value).ownBlock ∧ some k_ ≠ (.slice (some kF) fW.length mW : Value).ownBlock ∧ some k_ ≠ (.slice HX rU.length HZ : Value).ownBlock ∧ k_ ≠ aJ ∧ k_ ≠ g104 ∧ k_ ≠ hY)) (rV lM.out) hg hat)
       replace r7 := am (Kd.fM (ok := (fun k_ => (w.heap.size ≤ k_) ∧ some k_ ≠ (.slice iG fI.length iD : Value).ownBlock ∧ some k_ ≠ (.slice (some kF) fW.length mW : Value).ownBlock ∧ some k_ ≠ (.slice HX rU.length HZ : Value).ownBlock ∧ k_ ≠ aJ ∧ k_ ≠ g104 ∧ k_ ≠ hY)) (rV r7.1) hg hat)
       replace pR := am (Kd.gW (ok := (F20 w (.slice nJ j7.length nB) (.slice iG fI.length iD))) (rR pR.1) hg hat)
       replace HB := am hb
       have ng := am ho
       clear FV
       clear ho hb hg hat
       refine hK.out _ _ ⟨(bF gM.1 0).trans rfl, (bF gM.1 1).trans rfl, HS2_, HS3_, HS4_⟩ (fun hHeld => ?_)
       clear hK K
       refine nM ?_
       refine pU1 17 ?_
       refine dN ?_
       try go_wp2
       go_roundg k2
       case measure => have := HJ4.out; have := HK2.out; omega
       case rel => exact ⟨(aB3), (wrap64 (oB + 1)), (wQ), dH, H', ⟨by have := HJ4.out; have := HK2.out; omega⟩, ⟨by refine rR ?_; exact Kd.aM ng.1 (fun _ hk => ⟨hk.1, hk.2.2.1⟩)⟩, ⟨by refine rR ?_; exact Kd.aM eZ.1 (fun _ hk => ⟨hk.1.1, hk.2⟩)⟩, ⟨by refine rN ?_; exact Kd.aU dW.1 (fun _ hk => ⟨hk.1.1, ⟨hk.2, ⟨hk.1.2.2.1, ⟨hk.1.2.2.2.2.1, ⟨hk.1.2.2.2.2.2.2, hk.1.2.2.2.2.2.1⟩⟩⟩⟩⟩)⟩, ⟨rB a3.1⟩, ⟨rB gM.1⟩, ⟨qZ⟩, ⟨mX⟩⟩
      ·(first | rw [PI] | (simp only [mV, pE]; rw [PI]) | skip)
       have H' := am H
       repeat clear H
       have Z50 := nZ2 D7 zM rY zN
       have Z52 := cz2 gM
       go_wp2
       go_meet
       case rel => exact ⟨_, (j7), (xG), H', ⟨by have := HJ4.out; have := HK2.out; first | omega | exact Nat.le_refl _⟩, ⟨rR gO.1⟩, ⟨rR eZ.1⟩, ⟨rN dW.1⟩, ⟨rB a3.1⟩, ⟨rB gM.1⟩, ⟨qZ⟩, ⟨mX⟩⟩
   ·have H' := am H
    repeat clear H
    go_wp2
    go_meet
    case rel => exact ⟨_, (DS), (zP), H', ⟨by have := HJ4.out; first | omega | exact Nat.le_refl _⟩, ⟨rR gO.1⟩, ⟨rR eZ.1⟩, ⟨rN dW.1⟩, ⟨rB a3.1⟩, ⟨rB gM.1⟩, ⟨qZ⟩, ⟨mX⟩⟩
  case rest => as_aux_lemma =>
   clear ZC
   obtain ⟨kq, tL, vE, HA, ZE, gO, eZ, dW, a3, gM, l4, HB⟩ := hcut
   cases kq with
   | zero => exact absurd HA.out (by simp [aZ.j2])
   | succ kj18 =>
    have H := HA.out
    clear HA
    simp only [aZ.j2] at H
    have Zc := am H
    clear H
    go_upto_region 11 with ((fail))
    go_cut [63] (fun v63 wc => ∃ (kq : Nat) (Bq : Bool) (xH : Int), v63 = .bool Bq ∧ aA (aZ.j3 kq tL Bq kQ xH fI fW = some (r1, r2, r3)) ∧ aA (kq ≤ kj18) ∧ aA (Kd.R Kd.string 9 wc w.heap.size (F10 w (.slice iG fI.length iD)) u6 tL) ∧ aA (Kd.R Kd.string 9 wc w.heap.size (F10 w u6) (.slice iG fI.length iD) fI) ∧ aA (Kd.N k56 56 wc w.heap.size (fun k_ => (w.heap.size ≤ k_) ∧ some k_ ≠ (u6 : Value).ownBlock ∧ some k_ ≠ ((.slice iG fI.length iD) : Value).ownBlock ∧ k_ ≠ aJ ∧ k_ ≠ hY ∧ k_ ≠ g104) (.slice DY fW.length mW) fW) ∧ aA (wc.heap[aJ]? = some (.cells #[(.slice none 0 0), (.slice none 0 0)] 31 (0, 0))) ∧ aA (wc.heap[hY]? = some (.cells #[(.slice iG fI.length iD), (.slice DY fW.length mW)] 31 (0, 0))) ∧ aA (aD w wc g104 kQ xH) ∧ aA (Below w.heap.size w wc))
    case first => as_aux_lemma =>
     have H := Zc.1
     clear Zc
     by_cases jz : (tL.length : Int) > 0
     ·rw [if_pos jz] at H
      have S4 : decide (0 < (tL.length : Int)) = true := decide_eq_true jz
      have rh : decide (0 < tL.length) = true := decide_eq_true (by omega)
      clear jz
      (first | rw [S4] | (simp only [mV, pE]; rw [S4]) | skip)
      obtain ⟨⟨vr, Om⟩, A55, H⟩ := bd H
      dsimp only at H
      have H' := am H
      repeat clear H
      obtain ⟨a4M, a6S, a7X⟩ := Kd.bN gO.1
      subst a7X
      go_wp2_with (first | (go_at_call 100; refine cM (bE.calls kj18 g104 kQ vE 12 vr Om w _ (qZ) (mX) A55.out) ?_; rintro w57 ⟨hi, hb, hk⟩; replace gO := am (Kd.aM (Kd.lQ (aD.apart (show aD w _ g104 kQ vE from qZ) jU (by decide)) hk (fun _ h => h.2)) (fun _ h => h.1)); replace eZ := am (Kd.aM (Kd.lQ (aD.apart (show aD w _ g104 kQ vE from qZ) rX (by decide)) hk (fun _ h => h.2)) (fun _ h => h.1)); replace dW := am (Kd.aU (Kd.y9 (Kd.aU (ok := fun k_ => (((w.heap.size ≤ k_)) ∧ (some k_ ≠ (.slice a4M tL.length a6S : Value).ownBlock ∧ (some k_ ≠ (.slice iG fI.length iD : Value).ownBlock ∧ (k_ ≠ aJ ∧ (k_ ≠ hY ∧ k_ ≠ g104)))))) DN (fun k_ hk_ => (⟨hk_, hk_.2.2.2.2.2⟩ : _ ∧ k_ ≠ g104))) hk (fun _ h => h.2)) (fun _ h => h.1)); replace a3 := kb aQ hk l8; replace gM := kb uP hk rY; replace HB := am hb; replace l4 := am hi; clear hb hk hi))
      go_meet
      case rel => exact ⟨_, ((vr == 0)), (Om), dH, H', ⟨by have := HJ4.out; have := ZE.out; first | omega | exact Nat.le_refl _⟩, ⟨rR gO.1⟩, ⟨rR eZ.1⟩, ⟨rN dW.1⟩, ⟨rB a3.1⟩, ⟨rB gM.1⟩, ⟨qZ⟩, ⟨mX⟩⟩
     ·rw [if_neg jz] at H
      have S4 : decide (0 < (tL.length : Int)) = false := decide_eq_false jz
      have rh : decide (0 < tL.length) = false := decide_eq_false (by omega)
      clear jz
      (first | rw [S4] | (simp only [mV, pE]; rw [S4]) | skip)
      have H' := am H
      repeat clear H
      obtain ⟨aL8, aN6, a7Z⟩ := Kd.bN gO.1
      subst a7Z
      go_wp2
      go_meet
      case rel => exact ⟨_, (false), (vE), dH, H', ⟨by have := HJ4.out; have := ZE.out; first | omega | exact Nat.le_refl _⟩, ⟨rR gO.1⟩, ⟨rR eZ.1⟩, ⟨rN dW.1⟩, ⟨rB a3.1⟩, ⟨rB gM.1⟩, ⟨qZ⟩, ⟨mX⟩⟩
    case rest => as_aux_lemma =>
     clear Zc
     obtain ⟨kq, Bq, xH, rfl, HA, aLD, gO, eZ, dW, a3, gM, l4, HB⟩ := hcut
     cases kq with
     | zero => exact absurd HA.out (by simp [aZ.j3])
     | succ kj52 =>
      have H := HA.out
      clear HA
      simp only [aZ.j3] at H
      refine tC H ?_ ?_ <;> (repeat clear H) <;> intro yl H <;> subst yl
      ·obtain ⟨⟨NV, L1⟩, A60, H⟩ := bd H
       dsimp only at H
       obtain ⟨LD, JT⟩ := yv (([(⟨#[]⟩ : ByteArray), (⟨#[97, 108, 101]⟩ : ByteArray), (⟨#[122, 122]⟩ : ByteArray)] : List ByteArray)); first | replace H := bW JT H | rw [← JT.1] at H
       obtain ⟨⟨L2, aA2⟩, A61, H⟩ := bd H
       dsimp only at H
       obtain ⟨rk, H⟩ := cN H
       obtain ⟨Wf, H⟩ := cN H
       obtain ⟨aB4, Jz⟩ := yv (tL.set (NV : Int).toNat L2); first | replace H := bW Jz H | rw [← Jz.1] at H
       obtain ⟨rfl, rfl, rfl⟩ := sZ3 H
       repeat clear H
       obtain ⟨mh, UG, a81⟩ := Kd.bN gO.1
       subst a81
       go_wp2_with (first | ((with_reducible refine gC 100 ?_); refine cQ (some 68) Try.func100 (bE.calls kj52 g104 kQ xH (tL.length : Int) NV L1 w _ (qZ) (mX) A60.out) ?_; rintro w66 ⟨hi, hb, hk⟩; replace gO := am (Kd.aM (Kd.lQ (aD.apart (show aD w _ g104 kQ xH from qZ) jU (by decide)) hk (fun _ h => h.2)) (fun _ h => h.1)); replace eZ := am (Kd.aM (Kd.lQ (aD.apart (show aD w _ g104 kQ xH from qZ) rX (by decide)) hk (fun _ h => h.2)) (fun _ h => h.1)); replace dW := am (Kd.aU (Kd.y9 (Kd.aU (ok := fun k_ => (((w.heap.size ≤ k_)) ∧ (some k_ ≠ (.slice mh tL.length UG : Value).ownBlock ∧ (some k_ ≠ (.slice iG fI.length iD : Value).ownBlock ∧ (k_ ≠ aJ ∧ (k_ ≠ hY ∧ k_ ≠ g104)))))) DN (fun k_ hk_ => (⟨hk_, hk_.2.2.2.2.2⟩ : _ ∧ k_ ≠ g104))) hk (fun _ h => h.2)) (fun _ h => h.1)); replace a3 := kb aQ hk l8; replace gM := kb uP hk rY; replace HB := am hb; replace l4 := am hi; clear hb hk hi) | ((with_reducible refine jD (N := 70) rfl ?_); refine lS 9 70 JT ?_; intro Hr w67 PV hb; replace dW := am (Kd.kL DN (Kd.bL PV) hb); have uE := am (Kd.cO (Kd.eF (Kd.eF (Kd.jK (M := fun k_ => (w.heap.size ≤ k_)) PV (aG mX) (fun k_ h_ => h_)) (Kd.R_lt jU)) (Kd.R_lt rX)) (aG mX)); replace gO := am (Kd.dJ jU (Kd.bL PV) hb); replace eZ := am (Kd.dJ rX (Kd.bL PV) hb); replace a3 := bB aQ hb; replace gM := bB uP hb; replace HB := bS mX hb; replace l4 := am (aD.below qZ hb); clear hb PV; obtain ⟨Z2, Ah, dp⟩ := Kd.bN uE.1; subst dp) | ((with_reducible refine gC 101 ?_); refine cQ (some 71) Try.func101 (fU.calls kj52 g104 kQ L1 _ _ LD L2 aA2 w _ (qZ) (mX) (pC (Kd.aT uE.1).2.2) ((Kd.aT uE.1).2.1) (oO (aD.own_ne l4.out uE.1 (by decide))) A61.out) ?_; rintro w70 ⟨hi, hb, hk⟩; replace gO := am (Kd.aM (Kd.lQ (aD.apart (show aD w _ g104 kQ L1 from qZ) jU (by decide)) hk (fun _ h => h.2)) (fun _ h => h.1)); replace eZ := am (Kd.aM (Kd.lQ (aD.apart (show aD w _ g104 kQ L1 from qZ) rX (by decide)) hk (fun _ h => h.2)) (fun _ h => h.1)); replace dW := am (Kd.aU (Kd.y9 (Kd.aU (ok := fun k_ => ((((w.heap.size ≤ k_)) ∧ (some k_ ≠ (.slice mh tL.length UG : Value).ownBlock ∧ (some k_ ≠ (.slice iG fI.length iD : Value).ownBlock ∧ (k_ ≠ aJ ∧ (k_ ≠ hY ∧ k_ ≠ g104))))) ∧ some k_ ≠ (.slice Z2 LD.length Ah : Value).ownBlock)) DN (fun k_ hk_ => (⟨hk_, hk_.1.2.2.2.2.2⟩ : _ ∧ k_ ≠ g104))) hk (fun _ h => h.2)) (fun _ h => h.1)); replace a3 := kb aQ hk l8; replace gM := kb uP hk rY; replace uE := am (Kd.aM (Kd.lQ (aD.apart (show aD w _ g104 kQ L1 from qZ) (rR uE.1) (by decide)) hk (fun _ h => h.2)) (fun _ h => h.1)); replace HB := am hb; replace l4 := am hi; clear hb hk hi; have gt : 0 ≤ (NV : Int) := oT; have ie : (NV : Int) < ((tL.length : Int) : Int) := oT; obtain ⟨r6, a6U, Lz, Mf, gl64, cl64, HG64⟩ := Kd.ZJ gO.1 (by omega); (first | cases Lz | (injection Lz with ea_ en_ ec_; (first | subst ea_ | (injection ea_ with ea_; subst ea_)); subst ec_; clear en_)); have GB64 := am Mf; have GG64 := am HG64; clear Mf gl64 HG64; obtain ⟨fe, hf64_0⟩ := Kd.Dk (⟨#[]⟩ : ByteArray) gO.1 (NV : Int) gt ie; replace gt := eq_true gt; replace ie := eq_true ie; replace gO := am (Kd.aM (ok' := (F20 w (.slice iG fI.length iD) (.slice Z2 LD.length Ah))) gO.1 (fun k_ hk => ⟨hk.1.1, ⟨hk.1.2, hk.2⟩⟩)); obtain ⟨hy71_, hz71_⟩ := Kd.Dk (⟨#[]⟩ : ByteArray) gO.1 (NV : Int) (oT) (oT); have HP71 := Kd.Zw gO.1 (NV : Int) L2) | ((with_reducible refine PT (t := 9) (p := 72) rfl ?_); refine NN (t := 9) (p := 72) (v := ?vo_w72) (w1 := (w70.setCell ⟨r6, (NV : Int).toNat, none⟩ (.string L2))) ?hg ?ho ?hn ?hr ?_; (case ho => rfl); (case hg => rfl); (case hn => rfl); (case hr => first | (go_simp; done) | (go_simp; rfl)); intro w72 hw; have hg : w70.grownBy w72 (some r6) := (by rw [hw]; exact HP71.2); have hp_ : Kd.R Kd.string 9 w72 w.heap.size (F20 w (.slice iG fI.length iD) (.slice Z2 LD.length Ah)) (.slice (some ⟨r6, 0, none⟩) tL.length UG) aB4 := (by rw [hw, Jz.out]; exact HP71.1); clear HP71; replace eZ := am (Kd.gW (v := (.slice (some ⟨r6, 0, none⟩) tL.length UG)) (v1 := (.slice (some ⟨r6, 0, none⟩) tL.length UG)) (ok := (F10 w (.slice Z2 LD.length Ah))) (by refine rR ?_; exact Kd.aM eZ.1 (fun _ hk => ⟨⟨hk.1.1, hk.2⟩, hk.1.2⟩)) hg (.inl rfl)); replace dW := am (Kd.nT (v := (.slice (some ⟨r6, 0, none⟩) tL.length UG)) (v1 := (.slice (some ⟨r6, 0, none⟩) tL.length UG)) (ok := (fun k_ => (w.heap.size ≤ k_) ∧ some k_ ≠ (.slice iG fI.length iD : Value).ownBlock ∧ some k_ ≠ (.slice Z2 LD.length Ah : Value).ownBlock ∧ k_ ≠ aJ ∧ k_ ≠ hY ∧ k_ ≠ g104)) (by refine rN ?_; exact Kd.aU dW.1 (fun _ hk => ⟨⟨hk.1.1, ⟨hk.1.2.2.1, ⟨hk.2, ⟨hk.1.2.2.2.1, ⟨hk.1.2.2.2.2.1, hk.1.2.2.2.2.2⟩⟩⟩⟩⟩, hk.1.2.1⟩)) hg (.inl rfl)); replace a3 := gkR aQ hg gO a3; replace gM := gkR uP hg gO gM; replace l4 := am (aD.grown qZ hg (aD.own_ne l4.out gO.1 (by decide))); replace gO := am hp_; replace uE := am (Kd.gW (v := (.slice (some ⟨r6, 0, none⟩) tL.length UG)) (v1 := (.slice (some ⟨r6, 0, none⟩) tL.length UG)) (ok := (F10 w (.slice iG fI.length iD))) (by refine rR ?_; exact Kd.aM uE.1 (fun _ hk => ⟨⟨hk.1.1.1, hk.2⟩, hk.1.2⟩)) hg (.inl rfl)); replace HB := am (by rw [hw]; exact bI (HB.1) GB64.out : Below w.heap.size w w72); clear hg hw hp_; have Z73 := nZ2 D7 zM rY zN; have Z75 := cz2 gM; have Z76 := nZ1 l8 vI; have Z77 := cz2 a3))
       refine cT aJ 31 #[.slice iG fI.length iD, .slice DY fW.length mW] (qP a3) Try.underlying31 ?_
       exact ⟨_, _, _, eR, by refine rR ?_; exact Kd.aM (fR (fR (tR eZ a3))) (fun _ hk => ⟨hk.1.1.1, hk.1.2⟩), by refine rN ?_; exact Kd.aU (fN (fN (Kd.aU dW.1 (fun k_ hk => (⟨hk, hk.1.2.2.2.1⟩ : _ ∧ k_ ≠ aJ))))) (fun _ hk => ⟨hk.1.1.1, ⟨hk.1.1.2.1, hk.1.2⟩⟩), by refine rR ?_; exact Kd.aM (fR (fR (tR gO a3))) (fun _ hk => ⟨hk.1.1, hk.1.2.1⟩), mX⟩
      ·obtain ⟨rfl, rfl, rfl⟩ := sZ3 H
       repeat clear H
       have Z78 := nZ2 D7 zM rY zN
       have Z80 := cz2 gM
       have Z81 := nZ1 l8 vI
       have Z82 := cz2 a3
       go_wp2
       refine cT aJ 31 #[.slice iG fI.length iD, .slice DY fW.length mW] (qP a3) Try.underlying31 ?_
       exact ⟨_, _, _, eR, by refine rR ?_; exact Kd.aM (fR (fR (tR eZ a3))) (fun _ hk => ⟨hk.1.1, hk.1.2⟩), by refine rN ?_; exact Kd.aU (fN (fN (Kd.aU dW.1 (fun k_ hk => (⟨hk, hk.2.2.2.1⟩ : _ ∧ k_ ≠ aJ))))) (fun _ hk => ⟨hk.1.1, ⟨hk.1.2.2.1, hk.1.2.1⟩⟩), by refine rR ?_; exact Kd.aM (fR (fR (tR gO a3))) (fun _ hk => ⟨hk.1.1, hk.1.2⟩), mX⟩
end Go.Proofs.Ytaofjgnhapnndaa.Q
namespace Go.Proofs.Ytaofjgnhapnndaa.Q
open Go.RowKit Go.Proofs.YtaofjgnhapnndaaW.PrintWords Go.Proofs.YtaofjgnhapnndaaW.PrintLast Go.Proofs.YtaofjgnhapnndaaW.PrintMore
set_option linter.unusedVariables false
set_option linter.unusedSimpArgs false
mutual
def bP.j0 : Nat → List Int → List Int → Bool → Option (Bool)
 | 0, _, _, _ => none
 | k + 1, e, c, g => if g = true then (some true) else ((lF.f k e).bind fun a => ((dU.f k a.1 a.2).bind fun b => ((fC.f k a.1 a.2).bind fun d => (if (b.2 != d.2) = true then (bP.j1 k c b.1 b.2 true a.1 a.2) else ((jF.f k b.1 d.1).bind fun h => (if h = true then ((mK.f k a.1 a.2).bind fun i => (if (b.2 != i) = true then (bP.j1 k c b.1 b.2 true a.1 a.2) else ((aN.f k a.1 a.2).bind fun j => ((aH.f k a.1 a.2).bind fun l => (bP.j1 k c b.1 b.2 (j != l) a.1 a.2))))) else (bP.j1 k c b.1 b.2 true a.1 a.2)))))))
def bP.j1 : Nat → List Int → List ByteArray → Bool → Bool → List ByteArray → List (S56) → Option (Bool)
 | 0, _, _, _, _, _, _ => none
 | k + 1, a, e, d, g, b, c => if g = true then (some false) else ((aH.f k b c).bind fun h => (if h = true then ((eB.f k b c (([] : List ByteArray))).bind fun i => (if (d != i) = true then (bP.j2 k a true) else (if d = true then ((bQ.f k b c e).bind fun j => (bP.j2 k a (!j))) else (bP.j2 k a false)))) else (if d = true then ((bQ.f k b c e).bind fun l => (bP.j2 k a (!l))) else (bP.j2 k a false))))
def bP.j2 : Nat → List Int → Bool → Option (Bool)
 | 0, _, _ => none
 | k + 1, c, d => if d = true then (some false) else ((aZ.f k c).bind fun a => ((bQ.f k a.1 a.2.1 a.2.2).bind fun b => ((cK.f k a.1 a.2.1 a.2.2).bind fun e => (if (b == e) = true then (if b = true then ((mK.f k a.1 a.2.1).bind fun g => (some g)) else (some true)) else (some false)))))
end
def bP.f (k : Nat) (l0 : List Int) (l1 : List Int) : Option (Bool) := if (l0.length : Int) > 1048576 then (bP.j0 k l0 l1 true) else (bP.j0 k l0 l1 (decide ((l1.length : Int) > 1048576)))
def bP.T6 : Bool × List (List Nat × List Nat) := (true, [([], []), ([], []), ([0, 1], [0, 1]), ([2], [2]), ([3], [3]), ([3], [3]), ([4, 5, 3, 3], [3, 4, 5]), ([6, 3], [3, 6]), ([3, 7], [3, 7]), ([8, 6], [8]), ([9], [9]), ([9], [9]), ([11, 9, 9], [9, 11]), ([10, 12, 9], [9, 10, 12]), ([9, 13], [9, 13]), ([14, 12], [14]), ([15], [15]), ([16, 15, 15], [15, 16]), ([15], [15]), ([18, 17, 15], [15, 18]), ([17, 19, 15], [15, 17, 19]), ([15, 20], [15, 20])])
def bP.B6 : List Nat := [0, 0, 3, 7, 15, 15, 63, 127, 255, 511, 1023, 1023, 3071, 8191, 16383, 32767, 65535, 131071, 65535, 524287, 1048575, 2097151]
theorem bP.tab6 : rtab .any (opsOf Try.f15 6) = bP.T6 := by kernel_rfl
theorem bP.wX : kM bP.T6.2 bP.B6 = true := by kernel_rfl
theorem bP.calls (k : Nat) (A0 : Option Addr) (c0 : Nat) (l0 : List Int) (A1 : Option Addr) (c1 : Nat) (l1 : List Int) (r : Bool) (w : World) (r5 : Kd.C (Kd.int .u8) w A0 l0.length l0) (xK : l0.length ≤ c0) (BF : Kd.C (Kd.int .u8) w A1 l1.length l1) (DK : l1.length ≤ c1) (h : bP.f k l0 l1 = some r) :
  Calls Try.prog 15 #[.slice A0 l0.length c0, .slice A1 l1.length c1] w fun e w' => e = .returned (.bool r) ∧ Below w.heap.size w w' := by
 have hu31 := Try.underlying31
 obtain ⟨rD, O0⟩ := mZ2 r5 xK
 obtain ⟨tO, zK⟩ := mZ2 BF DK
 clear r5 xK BF DK
 have HB := am (Below.refl w.heap.size w)
 unfold bP.f at h
 have H := h
 clear h
 have ZD := am H
 clear H
 go_enter Try.func15, Try.ntmps15
 go_upto_region 1 with ((fail))
 go_cut [20] (fun v20 wc => ∃ (kq : Nat) (Pd : Bool), v20 = .bool Pd ∧ aA (bP.j0 kq l0 l1 Pd = some r) ∧ aA (kq ≤ k) ∧ aA (Below w.heap.size w wc))
 case first =>
  have H := ZD.1
  clear ZD
  by_cases c4 : (l0.length : Int) > 1048576
  ·rw [if_pos c4] at H
   have vT : decide (1048576 < (l0.length : Int)) = true := decide_eq_true c4
   have Gh : decide (1048576 < l0.length) = true := decide_eq_true (by omega)
   clear c4
   (first | rw [vT] | (simp only [mV, pE]; rw [vT]) | skip)
   have H' := am H
   repeat clear H
   go_wp2
   go_meet
   exact ⟨_, (true), dH, H', ⟨by first | omega | exact Nat.le_refl _⟩, ⟨eI⟩⟩
  rw [if_neg c4] at H
  have vT : decide (1048576 < (l0.length : Int)) = false := decide_eq_false c4
  have Gh : decide (1048576 < l0.length) = false := decide_eq_false (by omega)
  clear c4
  (first | rw [vT] | (simp only [mV, pE]; rw [vT]) | skip)
  have H' := am H
  repeat clear H
  go_wp2
  go_meet
  exact ⟨_, (decide ((l1.length : Int) > 1048576)), dH, H', ⟨by first | omega | exact Nat.le_refl _⟩, ⟨eI⟩⟩
 clear ZD
 try clear c1
 obtain ⟨kq, Pd, rfl, HA, HJ2, HB⟩ := hcut
 cases kq with
 | zero => exact absurd HA.out (by simp [bP.j0])
 | succ kj2 =>
  have H := HA.out
  clear HA
  simp only [bP.j0] at H
  refine tC H ?_ ?_ <;> (repeat clear H) <;> intro c5 H <;> subst c5
  ·obtain rfl := Option.some.inj H
   repeat clear H
   go_wp2
   go_ret
   exact ⟨eR, eI⟩
  ·obtain ⟨⟨sR, dI⟩, A6, H⟩ := bd H
   dsimp only at H
   obtain ⟨⟨fW, dD⟩, A7, H⟩ := bd H
   dsimp only at H
   obtain ⟨⟨l6, oS⟩, A8, H⟩ := bd H
   dsimp only at H
   have HC9 := am H
   clear H
   go_upto_region 6 with (first | ((with_reducible refine gC 53 ?_); refine cE (some 22) Try.func53 (lF.calls kj2 _ _ l0 sR dI _ (pB rD) O0.1 A6.out) ?_; rintro e w10 ⟨Hp, JI, rfl, hD, rM, hb⟩; refine ⟨_, rfl, ?_⟩; have l5 := am (Kd.cO (Kd.aM (ok' := fun k_ => True) hD (fun _ hk_ => trivial)) (aG eI)); have eG := am (Kd.l9 (Kd.aU (ok' := fun k_ => some k_ ≠ (Hp : Value).ownBlock) rM (fun k_ hk_ => hk_.2)) (aG eI)); replace HB := bS eI hb; clear hb hD rM) | ((with_reducible refine gD 5 ?_); (try (refine nE (by rfl) ?_; dsimp only)); refine bX 5 #[.slice none 0 0, .slice none 0 0] 31 ?_; intro uH hg wm hbox hb; replace l5 := RB NI hb; replace eG := am (Kd.iI (Kd.pX (rN eG.1) uH (Nat.le_of_eq hg.symm)) hb); have gL := am hbox; have JM := am (u0 : w.heap.size ≤ uH); have R9 := JM; replace HB := bS eI hb; clear hb hbox hg; obtain ⟨o3, nW, Lv⟩ := Kd.bN l5.1; subst Lv; have Ki := cz2 gL; obtain ⟨DY, mW, Lw⟩ := Kd.iJ eG.1; subst Lw) | ((with_reducible refine mU (f := 45) rfl ?_); refine wE (some 25) rfl rfl Try.func45 (by kernel_rfl) rfl #[.agg #[.slice o3 sR.length nW, .slice DY dI.length mW]] rfl FO ?_; (with_reducible refine (dU.calls kj2 _ _ sR _ _ dI fW dD _ ?side1 ?side2 ?side3 ?side4 A7.out).mono ?_); (case side1 => refine (Kd.aT (e := 9) (base := w.heap.size) (ok := fun k_ => True) (n := sR.length) (c := nW) ?_).2.2; exact (by refine rR ?_; exact (Kd.aM (fR (fR (tR l5 gL))) (fun _ h_ => h_.1)))); (case side2 => exact (Kd.aT l5.1).2.1); (case side3 => refine (Kd.cB (e := 56) (base := w.heap.size) (ok := fun k_ => (some k_ ≠ (.slice o3 sR.length nW : Value).ownBlock ∧ k_ ≠ uH)) (n := dI.length) (c := mW) ?_).2.2; exact (by refine rN ?_; exact (Kd.aU (fN (fN (Kd.aU eG.1 (fun k_ hk => (⟨hk, hk.2⟩ : _ ∧ k_ ≠ uH))))) (fun _ h_ => h_.1)))); (case side4 => exact (Kd.cB eG.1).2.1); rintro e wo ⟨yI, rfl, hD, hb⟩; refine ⟨_, rfl, ?_⟩; replace eG := am (Kd.kL (by refine rN ?_; exact (Kd.aU (fN (fN (Kd.aU eG.1 (fun k_ hk => (⟨hk, hk.2⟩ : _ ∧ k_ ≠ uH))))) (fun _ h_ => h_.1))) (Kd.bL hD) hb); have iL := am (Kd.cO (Kd.eF hD (Kd.R_lt (by refine rR ?_; exact (Kd.aM (fR (fR (tR l5 gL))) (fun _ h_ => h_.1))))) (aG vB)); replace l5 := am (Kd.dJ (by refine rR ?_; exact (Kd.aM (fR (fR (tR l5 gL))) (fun _ h_ => h_.1))) (Kd.bL hD) hb); replace gL := am (dL (g := uH) (o := .cells #[.slice o3 sR.length nW, .slice DY dI.length mW] 31 (0, 0)) (qP gL) hb); replace HB := bS vB hb; clear hb hD; have Z16 := cz2 gL) | ((with_reducible refine gC 44 ?_); refine cE (some 30) Try.func44 (fC.calls kj2 _ _ sR _ _ dI l6 oS _ (pC (Kd.aT l5.1).2.2) ((Kd.aT l5.1).2.1) (pC (Kd.cB eG.1).2.2) ((Kd.cB eG.1).2.1) A8.out) ?_; rintro e Pu ⟨rQ, rfl, hD, hb⟩; refine ⟨_, rfl, ?_⟩; replace eG := am (Kd.kL (rN eG.1) (Kd.bL hD) hb); have fX := am (Kd.cO (Kd.eF (Kd.eF hD (Kd.R_lt NI)) (Kd.R_lt yU)) (aG vB)); replace l5 := am (Kd.dJ NI (Kd.bL hD) hb); replace iL := am (Kd.dJ yU (Kd.bL hD) hb); replace gL := bB xX hb; replace HB := bS vB hb; clear hb hD))
   (try simp only [Act.put, List.setIfInBounds_toArray, List.set_cons_zero, List.set_cons_succ])
   go_cut [54] (fun v54 wc => ∃ (kq : Nat) (Pi : Bool), v54 = .bool Pi ∧ aA (bP.j1 kq l1 fW dD Pi sR dI = some r) ∧ aA (kq ≤ kj2) ∧ aA (Kd.R Kd.string 9 wc w.heap.size (fun k_ => some k_ ≠ ((.slice o3 sR.length nW) : Value).ownBlock) yI fW) ∧ aA (Kd.R Kd.string 9 wc w.heap.size (fun k_ => some k_ ≠ (yI : Value).ownBlock) (.slice o3 sR.length nW) sR) ∧ aA (Kd.N k56 56 wc w.heap.size (fun k_ => some k_ ≠ (yI : Value).ownBlock ∧ some k_ ≠ ((.slice o3 sR.length nW) : Value).ownBlock ∧ k_ ≠ uH) (.slice DY dI.length mW) dI) ∧ aA (wc.heap[uH]? = some (.cells #[(.slice o3 sR.length nW), (.slice DY dI.length mW)] 31 (0, 0))) ∧ aA (Below w.heap.size w wc))
   case first =>
    have H := HC9.1
    clear HC9
    by_cases MW : (dD != oS) = true
    ·rw [if_pos MW] at H
     have vO : (dD != oS) = true := MW
     (try (have Lb : decide (dD = oS) = false := by simpa using MW))
     (try (have Vt : (dD == oS) = false := by simpa using MW))
     (try (have aEQ : ¬ (dD = oS) := by simpa using MW))
     clear MW
     (first | rw [vO] | (simp only [mV, pE]; rw [vO]) | skip)
     have H' := am H
     repeat clear H
     try go_wp2
     replace l5 := RD l5
     replace eG := ND eG
     replace iL := RD iL
     replace fX := RD fX
     replace gL := BD gL
     replace HB := am (aV HB.1)
     refine sT (S := fun w' => True) [] 22 ⟨trivial⟩ (fun hHeld => ?_)
     refine dZ bP.tab6 bP.wX (fun HT_ HW_ => ?_)
     generalize Pu.drew = wq at l5 eG iL fX gL HB hHeld ⊢
     refine pU4 0 1 2 3 ?_
     refine pV4 4 5 6 7 ?_
     refine pU2 8 9 ?_
     refine pV4 10 11 12 13 ?_
     refine pU2 14 15 ?_
     refine pV5 16 17 18 19 20 ?_
     refine pU1 21 ?_
     refine dN ?_
     try go_wp2
     go_meet
     case rel => exact ⟨_, (true), dH, H', ⟨by have := HJ2.out; first | omega | exact Nat.le_refl _⟩, ⟨by refine rR ?_; exact Kd.aM iL.1 (fun _ hk => hk.1.2)⟩, ⟨by refine rR ?_; exact Kd.aM l5.1 (fun _ hk => hk.1.2)⟩, ⟨by refine rN ?_; exact Kd.aU eG.1 (fun _ hk => ⟨hk.1.2, ⟨hk.1.1.1, hk.1.1.2⟩⟩)⟩, ⟨rB gL.1⟩, ⟨vB⟩⟩
    ·rw [if_neg MW] at H
     have vO : (dD != oS) = false := by simpa using MW
     (try (have Lb : decide (dD = oS) = true := by simpa using MW))
     (try (have Vt : (dD == oS) = true := by simpa using MW))
     clear MW
     (first | rw [vO] | (simp only [mV, pE]; rw [vO]) | skip)
     obtain ⟨QV, ls, H⟩ := bd H
     refine tC H ?_ ?_ <;> clear H <;> intro c21 H <;> subst c21
     ·obtain ⟨y4, jt, H⟩ := bd H
      by_cases Gg : (dD != y4) = true
      ·rw [if_pos Gg] at H
       have PI : (dD != y4) = true := Gg
       (try (have qu : decide (dD = y4) = false := by simpa using Gg))
       (try (have qv : (dD == y4) = false := by simpa using Gg))
       (try (have aEV : ¬ (dD = y4) := by simpa using Gg))
       clear Gg
       have H' := am H
       repeat clear H
       try go_wp2
       replace l5 := RD l5
       replace eG := ND eG
       replace iL := RD iL
       replace fX := RD fX
       replace gL := BD gL
       replace HB := am (aV HB.1)
       obtain ⟨Px, Rq, Ao⟩ := Kd.bN iL.1
       (first | subst Ao | (obtain ⟨f4_, f5_⟩ := sj Ao; subst f4_; subst f5_))
       obtain ⟨mb, sa, Ry⟩ := Kd.bN fX.1
       (first | subst Ry | (obtain ⟨f4_, f5_⟩ := sj Ry; subst f4_; subst f5_))
       refine sT [] 22 (uA2 gL) (fun hHeld => ?_)
       refine dZ bP.tab6 bP.wX (fun HT_ HW_ => ?_)
       generalize Pu.drew = ws at l5 eG iL fX gL HB hHeld ⊢
       refine pU6 0 1 2 3 4 5 ?_
       refine oN 6 (some 39) fun K hK => ?_
       refine gQ Try.func54 (jF.calls kj2 _ _ fW _ _ l6 true _ (pC (Kd.aT iL.1).2.2) ((Kd.aT iL.1).2.1) (pC (Kd.aT fX.1).2.2) ((Kd.aT fX.1).2.1) ls.out) ?_
       rintro w' ⟨nd, rfl⟩
       refine nK hK (uA2 gL).1 fun hHeld => ?_
       clear hK K
       refine pU4 7 8 9 10 ?_
       refine tK2 11 (some 44) ?_
       refine oN 12 (some 45) fun K hK => ?_
       refine gQ Try.func36 (mK.calls kj2 _ _ sR _ _ dI y4 _ (pC (Kd.aT l5.1).2.2) ((Kd.aT l5.1).2.1) (pC (Kd.cB eG.1).2.2) ((Kd.cB eG.1).2.1) jt.out) ?_
       rintro YM hb
       replace l5 := RB NI hb
       replace eG := am (Kd.iI (rN eG.1) hb)
       replace iL := RB yU hb
       replace fX := RB sP hb
       replace gL := bB xX hb
       replace HB := bS vB hb
       clear hb
       refine nK hK (uA2 gL).1 fun hHeld => ?_
       clear hK K
       refine pU3 13 14 15 ?_
       refine pV5 16 17 18 19 20 ?_
       refine pU1 21 ?_
       refine dN ?_
       try go_wp2
       go_meet
       case rel => exact ⟨_, (true), dH, H', ⟨by have := HJ2.out; first | omega | exact Nat.le_refl _⟩, ⟨by refine rR ?_; exact Kd.aM iL.1 (fun _ hk => hk.1.2)⟩, ⟨by refine rR ?_; exact Kd.aM l5.1 (fun _ hk => hk.1.2)⟩, ⟨by refine rN ?_; exact Kd.aU eG.1 (fun _ hk => ⟨hk.1.2, ⟨hk.1.1.1, hk.1.1.2⟩⟩)⟩, ⟨rB gL.1⟩, ⟨vB⟩⟩
      ·rw [if_neg Gg] at H
       have PI : (dD != y4) = false := by simpa using Gg
       (try (have qu : decide (dD = y4) = true := by simpa using Gg))
       (try (have qv : (dD == y4) = true := by simpa using Gg))
       clear Gg
       obtain ⟨wU, Xx, H⟩ := bd H
       obtain ⟨Oj, A29, H⟩ := bd H
       have H' := am H
       repeat clear H
       try go_wp2
       replace l5 := RD l5
       replace eG := ND eG
       replace iL := RD iL
       replace fX := RD fX
       replace gL := BD gL
       replace HB := am (aV HB.1)
       obtain ⟨aL3, aN0, sp⟩ := Kd.bN iL.1
       (first | subst sp | (obtain ⟨f4_, f5_⟩ := sj sp; subst f4_; subst f5_))
       obtain ⟨aL4, aN1, sq⟩ := Kd.bN fX.1
       (first | subst sq | (obtain ⟨f4_, f5_⟩ := sj sq; subst f4_; subst f5_))
       refine sT [] 22 (uA2 gL) (fun hHeld => ?_)
       refine dZ bP.tab6 bP.wX (fun HT_ HW_ => ?_)
       generalize Pu.drew = wt at l5 eG iL fX gL HB hHeld ⊢
       refine pU6 0 1 2 3 4 5 ?_
       refine oN 6 (some 39) fun K hK => ?_
       refine gQ Try.func54 (jF.calls kj2 _ _ fW _ _ l6 true _ (pC (Kd.aT iL.1).2.2) ((Kd.aT iL.1).2.1) (pC (Kd.aT fX.1).2.2) ((Kd.aT fX.1).2.1) ls.out) ?_
       rintro w' ⟨nd, rfl⟩
       refine nK hK (uA2 gL).1 fun hHeld => ?_
       clear hK K
       refine pU4 7 8 9 10 ?_
       refine tK2 11 (some 44) ?_
       refine oN 12 (some 45) fun K hK => ?_
       refine gQ Try.func36 (mK.calls kj2 _ _ sR _ _ dI y4 _ (pC (Kd.aT l5.1).2.2) ((Kd.aT l5.1).2.1) (pC (Kd.cB eG.1).2.2) ((Kd.cB eG.1).2.1) jt.out) ?_
       rintro Pv hb
       replace l5 := RB NI hb
       replace eG := am (Kd.iI (rN eG.1) hb)
       replace iL := RB yU hb
       replace fX := RB sP hb
       replace gL := bB xX hb
       replace HB := bS vB hb
       clear hb
       refine nK hK (uA2 gL).1 fun hHeld => ?_
       clear hK K
       refine pU3 13 14 15 ?_
       refine tK2 16 (some 49) ?_
       refine tK2 18 (some 51) ?_
       refine oN 17 (some 50) fun K hK => ?_
       refine gQ Try.func24 (aN.calls kj2 _ _ sR _ _ dI wU _ (pC (Kd.aT l5.1).2.2) ((Kd.aT l5.1).2.1) (pC (Kd.cB eG.1).2.2) ((Kd.cB eG.1).2.1) Xx.out) ?_
       rintro ln hb
       replace l5 := RB NI hb
       replace eG := am (Kd.iI (rN eG.1) hb)
       replace iL := RB yU hb
       replace fX := RB sP hb
       replace gL := bB xX hb
       replace HB := bS vB hb
       clear hb
       refine nK hK (uA2 gL).1 fun hHeld => ?_
       clear hK K
       refine oN 19 (some 52) fun K hK => ?_
       refine gQ Try.func22 (aH.calls kj2 _ _ sR _ _ dI Oj _ (pC (Kd.aT l5.1).2.2) ((Kd.aT l5.1).2.1) (pC (Kd.cB eG.1).2.2) ((Kd.cB eG.1).2.1) A29.out) ?_
       rintro jj hb
       replace l5 := RB NI hb
       replace eG := am (Kd.iI (rN eG.1) hb)
       replace iL := RB yU hb
       replace fX := RB sP hb
       replace gL := bB xX hb
       replace HB := bS vB hb
       clear hb
       refine nK hK (uA2 gL).1 fun hHeld => ?_
       clear hK K
       refine pU2 20 21 ?_
       refine dN ?_
       try go_wp2
       go_meet
       case rel => exact ⟨_, ((wU != Oj)), dH, H', ⟨by have := HJ2.out; first | omega | exact Nat.le_refl _⟩, ⟨by refine rR ?_; exact Kd.aM iL.1 (fun _ hk => hk.1.2)⟩, ⟨by refine rR ?_; exact Kd.aM l5.1 (fun _ hk => hk.1.2)⟩, ⟨by refine rN ?_; exact Kd.aU eG.1 (fun _ hk => ⟨hk.1.2, ⟨hk.1.1.1, hk.1.1.2⟩⟩)⟩, ⟨rB gL.1⟩, ⟨vB⟩⟩
     ·have H' := am H
      repeat clear H
      try go_wp2
      replace l5 := RD l5
      replace eG := ND eG
      replace iL := RD iL
      replace fX := RD fX
      replace gL := BD gL
      replace HB := am (aV HB.1)
      obtain ⟨Ic, Ab, Aq⟩ := Kd.bN iL.1
      (first | subst Aq | (obtain ⟨f4_, f5_⟩ := sj Aq; subst f4_; subst f5_))
      obtain ⟨xQ, xU, Ar⟩ := Kd.bN fX.1
      (first | subst Ar | (obtain ⟨f4_, f5_⟩ := sj Ar; subst f4_; subst f5_))
      refine sT (S := fun w' => True) [] 22 ⟨trivial⟩ (fun hHeld => ?_)
      refine dZ bP.tab6 bP.wX (fun HT_ HW_ => ?_)
      generalize Pu.drew = Ou at l5 eG iL fX gL HB hHeld ⊢
      refine pU6 0 1 2 3 4 5 ?_
      refine oN 6 (some 39) fun K hK => ?_
      refine gQ Try.func54 (jF.calls kj2 _ _ fW _ _ l6 false _ (pC (Kd.aT iL.1).2.2) ((Kd.aT iL.1).2.1) (pC (Kd.aT fX.1).2.2) ((Kd.aT fX.1).2.1) ls.out) ?_
      rintro w' ⟨nd, rfl⟩
      refine hK.out _ _ trivial (fun hHeld => ?_)
      clear hK K
      refine nM ?_
      refine pU3 7 8 9 ?_
      refine pV4 10 11 12 13 ?_
      refine pU2 14 15 ?_
      refine pV5 16 17 18 19 20 ?_
      refine pU1 21 ?_
      refine dN ?_
      try go_wp2
      go_meet
      case rel => exact ⟨_, (true), dH, H', ⟨by have := HJ2.out; first | omega | exact Nat.le_refl _⟩, ⟨by refine rR ?_; exact Kd.aM iL.1 (fun _ hk => hk.1.2)⟩, ⟨by refine rR ?_; exact Kd.aM l5.1 (fun _ hk => hk.1.2)⟩, ⟨by refine rN ?_; exact Kd.aU eG.1 (fun _ hk => ⟨hk.1.2, ⟨hk.1.1.1, hk.1.1.2⟩⟩)⟩, ⟨rB gL.1⟩, ⟨vB⟩⟩
   case rest =>
    clear HC9
    try clear c5
    obtain ⟨kq, Pi, rfl, HA, HJ8, gO, iY, iZ, gL, HB⟩ := hcut
    cases kq with
    | zero => exact absurd HA.out (by simp [bP.j1])
    | succ kj8 =>
     have H := HA.out
     clear HA
     simp only [bP.j1] at H
     refine tC H ?_ ?_ <;> (repeat clear H) <;> intro c39 H <;> subst c39
     ·obtain rfl := Option.some.inj H
      repeat clear H
      go_wp2
      go_ret
      exact ⟨eR, vB⟩
     ·have Za := am H
      clear H
      go_upto_region 8 with ((fail))
      go_cut [72] (fun v72 wc => ∃ (kq : Nat) (Bt : Bool), v72 = .bool Bt ∧ aA (bP.j2 kq l1 Bt = some r) ∧ aA (kq ≤ kj8) ∧ aA (Below w.heap.size w wc))
      case first =>
       have H := Za.1
       clear Za
       obtain ⟨eV, lu, H⟩ := bd H
       refine tC H ?_ ?_ <;> clear H <;> intro Ro H <;> subst Ro
       obtain ⟨jn, hy121⟩ : ∃ y_ : List ByteArray, y_ = (([] : List ByteArray)) := ⟨_, rfl⟩
       replace H : ((eB.f kj8 sR dI jn).bind fun F7 => (if (dD != F7) = true then (bP.j2 kj8 l1 true) else (if dD = true then ((bQ.f kj8 sR dI fW).bind fun QW => (bP.j2 kj8 l1 (!QW))) else (bP.j2 kj8 l1 false)))) = some r := by first | (rw [hy121]; with_reducible exact H) | (have H2_ := (Option.bind_some _ _).symm.trans H; rw [hy121]; with_reducible exact H2_) | (have H2_ := (Option.bind_some _ _).symm.trans H; with_reducible exact H2_) | with_reducible exact H | (rw [hy121]; exact H) | exact H
       have Js := am hy121
       clear hy121
       obtain ⟨F7, Ub, H⟩ := bd H
       by_cases Lf : (dD != F7) = true
       rw [if_pos Lf] at H
       have S3 : (dD != F7) = true := Lf
       (try (have ra : decide (dD = F7) = false := by simpa using Lf))
       (try (have rb : (dD == F7) = false := by simpa using Lf))
       (try (have aF8 : ¬ (dD = F7) := by simpa using Lf))
       clear Lf
       (first | rw [S3] | (simp only [mV, pE]; rw [S3]) | skip)
       have H' := am H
       repeat clear H
       have pw := cz2 gL
       have De := trivial
       have Vb := trivial
       have Jh := trivial
       rotate_left
       rw [if_neg Lf] at H
       have S3 : (dD != F7) = false := by simpa using Lf
       (try (have ra : decide (dD = F7) = true := by simpa using Lf))
       (try (have rb : (dD == F7) = true := by simpa using Lf))
       clear Lf
       (first | rw [S3] | (simp only [mV, pE]; rw [S3]) | skip)
       refine tC H ?_ ?_ <;> (repeat clear H) <;> intro c52 H <;> subst c52
       obtain ⟨QW, jv, H⟩ := bd H
       have H' := am H
       repeat clear H
       have Z54 := cz2 gL
       have De := trivial
       have RI := trivial
       rotate_left
       have H' := am H
       repeat clear H
       have Z64 := cz2 gL
       have De := trivial
       have Jh := trivial
       have Vc := trivial
       rotate_left
       refine tC H ?_ ?_ <;> (repeat clear H) <;> intro c71 H <;> subst c71
       obtain ⟨zI, xj, H⟩ := bd H
       have H' := am H
       repeat clear H
       have Z73 := cz2 gL
       have Df := trivial
       rotate_left
       have H' := am H
       repeat clear H
       have Z78 := cz2 gL
       have Vd := trivial
       rotate_left
       all_goals
        go_wp2_with (first | ((with_reducible refine gC 22 ?_); revert De; intro De; refine cQ (some 56) Try.func22 (aH.calls kj8 _ _ sR _ _ dI true _ (pC (Kd.aT iY.1).2.2) ((Kd.aT iY.1).2.1) (pC (Kd.cB iZ.1).2.2) ((Kd.cB iZ.1).2.1) lu.out) ?_; rintro aK5 hb; replace gO := RB jU hb; replace iY := RB DO hb; replace iZ := NE IL hb; replace gL := bB xX hb; replace HB := bS vB hb; clear hb; have aEA := cz2 gL) | ((with_reducible refine jD (N := 60) rfl ?_); revert Vb; intro Vb; (try (refine nE (by rfl) ?_; dsimp only)); refine lS 9 60 Js ?_; intro jf aK6 Mp hb; replace iZ := am (Kd.kL IL (Kd.bL Mp) hb); have wV := am (Kd.cO (Kd.eF (Kd.eF Mp (Kd.R_lt jU)) (Kd.R_lt DO)) (aG vB)); replace gO := am (Kd.dJ jU (Kd.bL Mp) hb); replace iY := am (Kd.dJ DO (Kd.bL Mp) hb); replace gL := bB xX hb; replace HB := bS vB hb; clear hb Mp; obtain ⟨a4Q, a6X, dx⟩ := Kd.bN wV.1; subst dx) | (go_at_call 55; revert Jh; intro Jh; revert Ub; intro Ub; refine cM (eB.calls kj8 _ _ sR _ _ dI _ _ jn F7 _ (pC (Kd.aT iY.1).2.2) ((Kd.aT iY.1).2.1) (pC (Kd.cB iZ.1).2.2) ((Kd.cB iZ.1).2.1) (pC (Kd.aT wV.1).2.2) ((Kd.aT wV.1).2.1) Ub.out) ?_; rintro aK7 hb; replace gO := RB jU hb; replace iY := RB DO hb; replace iZ := NE IL hb; replace wV := am (Kd.jY (rR wV.1) hb); replace gL := bB xX hb; replace HB := bS vB hb; clear hb; clear Ub) | ((with_reducible refine jD (N := 60) rfl ?_); revert RI; intro RI; (try (refine nE (by rfl) ?_; dsimp only)); refine lS 9 60 Js ?_; intro jf aK8 Mq hb; replace iZ := am (Kd.kL IL (Kd.bL Mq) hb); have wV := am (Kd.cO (Kd.eF (Kd.eF Mq (Kd.R_lt jU)) (Kd.R_lt DO)) (aG vB)); replace gO := am (Kd.dJ jU (Kd.bL Mq) hb); replace iY := am (Kd.dJ DO (Kd.bL Mq) hb); replace gL := bB xX hb; replace HB := bS vB hb; clear hb Mq; obtain ⟨a4R, a6Y, dy⟩ := Kd.bN wV.1; subst dy) | (go_at_call 55; revert RI; intro RI; revert Ub; intro Ub; refine cM (eB.calls kj8 _ _ sR _ _ dI _ _ jn F7 _ (pC (Kd.aT iY.1).2.2) ((Kd.aT iY.1).2.1) (pC (Kd.cB iZ.1).2.2) ((Kd.cB iZ.1).2.1) (pC (Kd.aT wV.1).2.2) ((Kd.aT wV.1).2.1) Ub.out) ?_; rintro aK9 hb; replace gO := RB jU hb; replace iY := RB DO hb; replace iZ := NE IL hb; replace wV := am (Kd.jY (rR wV.1) hb); replace gL := bB xX hb; replace HB := bS vB hb; clear hb; have aEC := cz2 gL; obtain ⟨a4S, a6Z, dz⟩ := Kd.bN gO.1; subst dz; clear Ub) | (go_at_call 33; revert RI; intro RI; revert jv; intro jv; refine cM (bQ.calls kj8 _ _ sR _ _ dI _ _ fW QW _ (pC (Kd.aT iY.1).2.2) ((Kd.aT iY.1).2.1) (pC (Kd.cB iZ.1).2.2) ((Kd.cB iZ.1).2.1) (pC (Kd.aT gO.1).2.2) ((Kd.aT gO.1).2.1) jv.out) ?_; rintro aKA hb; replace gO := RB jU hb; replace iY := RB DO hb; replace iZ := NE IL hb; replace wV := am (Kd.jY (rR wV.1) hb); replace gL := bB xX hb; replace HB := bS vB hb; clear hb; clear jv) | ((with_reducible refine jD (N := 60) rfl ?_); revert Vc; intro Vc; (try (refine nE (by rfl) ?_; dsimp only)); refine lS 9 60 Js ?_; intro jf aKB PV hb; replace iZ := am (Kd.kL IL (Kd.bL PV) hb); have wV := am (Kd.cO (Kd.eF (Kd.eF PV (Kd.R_lt jU)) (Kd.R_lt DO)) (aG vB)); replace gO := am (Kd.dJ jU (Kd.bL PV) hb); replace iY := am (Kd.dJ DO (Kd.bL PV) hb); replace gL := bB xX hb; replace HB := bS vB hb; clear hb PV; obtain ⟨a4U, a7B, ea⟩ := Kd.bN wV.1; subst ea) | ((with_reducible refine gC 22 ?_); revert Df; intro Df; refine cQ (some 56) Try.func22 (aH.calls kj8 _ _ sR _ _ dI false _ (pC (Kd.aT iY.1).2.2) ((Kd.aT iY.1).2.1) (pC (Kd.cB iZ.1).2.2) ((Kd.cB iZ.1).2.1) lu.out) ?_; rintro aKC hb; replace gO := RB jU hb; replace iY := RB DO hb; replace iZ := NE IL hb; replace gL := bB xX hb; replace HB := bS vB hb; clear hb; have aEE := cz2 gL; obtain ⟨a4V, a7C, ec⟩ := Kd.bN gO.1; subst ec) | (go_at_call 33; revert Df; intro Df; revert xj; intro xj; refine cM (bQ.calls kj8 _ _ sR _ _ dI _ _ fW zI _ (pC (Kd.aT iY.1).2.2) ((Kd.aT iY.1).2.1) (pC (Kd.cB iZ.1).2.2) ((Kd.cB iZ.1).2.1) (pC (Kd.aT gO.1).2.2) ((Kd.aT gO.1).2.1) xj.out) ?_; rintro aKD hb; replace gO := RB jU hb; replace iY := RB DO hb; replace iZ := NE IL hb; replace gL := bB xX hb; replace HB := bS vB hb; clear hb; clear xj) | ((with_reducible refine gC 22 ?_); revert Vd; intro Vd; refine cQ (some 56) Try.func22 (aH.calls kj8 _ _ sR _ _ dI false _ (pC (Kd.aT iY.1).2.2) ((Kd.aT iY.1).2.1) (pC (Kd.cB iZ.1).2.2) ((Kd.cB iZ.1).2.1) lu.out) ?_; rintro aKE hb; replace gO := RB jU hb; replace iY := RB DO hb; replace iZ := NE IL hb; replace gL := bB xX hb; replace HB := bS vB hb; clear hb))
       ·go_meet
        case rel => exact ⟨_, (true), dH, H', ⟨by have := HJ2.out; have := HJ8.out; first | omega | exact Nat.le_refl _⟩, ⟨vB⟩⟩
       ·go_meet
        case rel => exact ⟨_, (!QW), dH, H', ⟨by have := HJ2.out; have := HJ8.out; first | omega | exact Nat.le_refl _⟩, ⟨vB⟩⟩
       ·go_meet
        case rel => exact ⟨_, (false), dH, H', ⟨by have := HJ2.out; have := HJ8.out; first | omega | exact Nat.le_refl _⟩, ⟨vB⟩⟩
       ·go_meet
        case rel => exact ⟨_, (!zI), dH, H', ⟨by have := HJ2.out; have := HJ8.out; first | omega | exact Nat.le_refl _⟩, ⟨vB⟩⟩
       ·go_meet
        case rel => exact ⟨_, (false), dH, H', ⟨by have := HJ2.out; have := HJ8.out; first | omega | exact Nat.le_refl _⟩, ⟨vB⟩⟩
      case rest =>
       clear Za
       try clear c5
       try clear c39
       obtain ⟨kq, Bt, rfl, HA, aLC, HB⟩ := hcut
       cases kq with
       | zero => exact absurd HA.out (by simp [bP.j2])
       | succ kj39 =>
        have H := HA.out
        clear HA
        simp only [bP.j2] at H
        refine tC H ?_ ?_ <;> (repeat clear H) <;> intro c80 H <;> subst c80
        obtain rfl := Option.some.inj H
        repeat clear H
        rotate_left
        obtain ⟨⟨o9, wR, CZ⟩, A81, H⟩ := bd H
        dsimp only at H
        obtain ⟨WH, A82, H⟩ := bd H
        obtain ⟨QY, A83, H⟩ := bd H
        by_cases Lg : (WH == QY) = true
        rw [if_pos Lg] at H
        have rn : (WH == QY) = true := Lg
        (try (have ro : decide (WH = QY) = true := by simpa using Lg))
        (try (have rp : (WH == QY) = true := by simpa using Lg))
        clear Lg
        refine tC H ?_ ?_ <;> (repeat clear H) <;> intro c85 H <;> subst c85
        obtain ⟨Tq, A86, H⟩ := bd H
        obtain rfl := Option.some.inj H
        repeat clear H
        have RJ := trivial
        have RK := trivial
        rotate_left
        obtain rfl := Option.some.inj H
        repeat clear H
        have RJ := trivial
        have Ve := trivial
        have Ji := trivial
        rotate_left
        rw [if_neg Lg] at H
        have rn : (WH == QY) = false := by simpa using Lg
        (try (have ro : decide (WH = QY) = false := by simpa using Lg))
        (try (have rp : (WH == QY) = false := by simpa using Lg))
        (try (have aFS : ¬ (WH = QY) := by simpa using Lg))
        clear Lg
        obtain rfl := Option.some.inj H
        repeat clear H
        have RJ := trivial
        have Ji := trivial
        have Vf := trivial
        rotate_left
        all_goals
         go_wp2_with (first | ((with_reducible refine gC 56 ?_); revert RJ; intro RJ; refine cE (some 75) Try.func56 (aZ.calls kj39 _ _ l1 o9 wR CZ _ (pB tO) zK.1 A81.out) ?_; rintro e aKF ⟨I1, Ot, jh, rfl, hD, rM, eu, hb⟩; refine ⟨_, rfl, ?_⟩; have lE := am (Kd.cO (Kd.aM (ok' := fun k_ => some k_ ≠ (jh : Value).ownBlock) hD (fun _ hk_ => hk_.2)) (aG eI)); have nI := am (Kd.l9 (Kd.aU (ok' := fun k_ => some k_ ≠ (I1 : Value).ownBlock ∧ some k_ ≠ (jh : Value).ownBlock) rM (fun k_ hk_ => ⟨hk_.2.1, hk_.2.2⟩)) (aG eI)); have qE := am (Kd.cO (Kd.aM (ok' := fun k_ => some k_ ≠ (I1 : Value).ownBlock) eu (fun _ hk_ => hk_.2)) (aG eI)); replace HB := bS eI hb; clear hb hD rM eu) | ((with_reducible refine gD 10 ?_); revert RJ; intro RJ; (try (refine nE (by rfl) ?_; dsimp only)); refine bX 10 #[.slice none 0 0, .slice none 0 0] 31 ?_; intro xW hg aKG hbox hb; replace lE := RB DP hb; replace nI := am (Kd.iI (Kd.pX (rN nI.1) xW (Nat.le_of_eq hg.symm)) hb); replace qE := am (Kd.jY (rR qE.1) hb); have pM := am hbox; have ne := am (u0 : w.heap.size ≤ xW); have mv := ne; replace HB := bS eI hb; clear hb hbox hg; obtain ⟨uY, sF, ed⟩ := Kd.bN lE.1; subst ed; have aEF := cz2 pM; obtain ⟨DZ, yC, ee⟩ := Kd.iJ nI.1; subst ee; obtain ⟨E0, yD, ef⟩ := Kd.bN qE.1; subst ef) | ((with_reducible refine mU (f := 33) rfl ?_); revert RK; intro RK; refine wE (some 80) rfl rfl Try.func33 (by kernel_rfl) rfl #[.agg #[.slice uY o9.length sF, .slice DZ wR.length yC], .slice E0 CZ.length yD] rfl FO ?_; (with_reducible refine (bQ.calls kj39 _ _ o9 _ _ wR _ _ CZ true _ ?side1 ?side2 ?side3 ?side4 ?side5 ?side6 A82.out).mono ?_); (case side1 => refine (Kd.aT (e := 9) (base := w.heap.size) (ok := fun k_ => some k_ ≠ (.slice E0 CZ.length yD : Value).ownBlock) (n := o9.length) (c := sF) ?_).2.2; exact (by refine rR ?_; exact (Kd.aM (fR (fR (tR lE pM))) (fun _ h_ => h_.1)))); (case side2 => exact (Kd.aT lE.1).2.1); (case side3 => refine (Kd.cB (e := 56) (base := w.heap.size) (ok := fun k_ => ((some k_ ≠ (.slice uY o9.length sF : Value).ownBlock ∧ some k_ ≠ (.slice E0 CZ.length yD : Value).ownBlock) ∧ k_ ≠ xW)) (n := wR.length) (c := yC) ?_).2.2; exact (by refine rN ?_; exact (Kd.aU (fN (fN (Kd.aU nI.1 (fun k_ hk => (⟨hk, hk.2⟩ : _ ∧ k_ ≠ xW))))) (fun _ h_ => h_.1)))); (case side4 => exact (Kd.cB nI.1).2.1); (case side5 => refine (Kd.aT (e := 9) (base := w.heap.size) (ok := fun k_ => some k_ ≠ (.slice uY o9.length sF : Value).ownBlock) (n := CZ.length) (c := yD) ?_).2.2; exact (by refine rR ?_; exact (Kd.aM (fR (fR (tR qE pM))) (fun _ h_ => h_.1)))); (case side6 => exact (Kd.aT qE.1).2.1); rintro e aKH ⟨rfl, hb⟩; refine ⟨_, rfl, ?_⟩; replace lE := am (Kd.jY (by refine rR ?_; exact (Kd.aM (fR (fR (tR lE pM))) (fun _ h_ => h_.1))) hb); replace nI := am (Kd.iI (by refine rN ?_; exact (Kd.aU (fN (fN (Kd.aU nI.1 (fun k_ hk => (⟨hk, hk.2⟩ : _ ∧ k_ ≠ xW))))) (fun _ h_ => h_.1))) hb); replace qE := am (Kd.jY (by refine rR ?_; exact (Kd.aM (fR (fR (tR qE pM))) (fun _ h_ => h_.1))) hb); replace pM := am (dL (g := xW) (o := .cells #[.slice uY o9.length sF, .slice DZ wR.length yC] 31 (0, 0)) (qP pM) hb); replace HB := bS W0 hb; clear hb; have aEG := cz2 pM) | ((with_reducible refine gC 31 ?_); revert RK; intro RK; refine cQ (some 84) Try.func31 (cK.calls kj39 _ _ o9 _ _ wR _ _ CZ QY _ (pC (Kd.aT lE.1).2.2) ((Kd.aT lE.1).2.1) (pC (Kd.cB nI.1).2.2) ((Kd.cB nI.1).2.1) (pC (Kd.aT qE.1).2.2) ((Kd.aT qE.1).2.1) A83.out) ?_; rintro aKI hb; replace lE := RB DP hb; replace nI := am (Kd.iI (rN nI.1) hb); replace qE := am (Kd.jY (rR qE.1) hb); replace pM := am (dL (g := xW) (o := .cells #[.slice uY o9.length sF, .slice DZ wR.length yC] 31 (0, 0)) (rB pM.1) hb); replace HB := bS W0 hb; clear hb; have aEH := cz2 pM) | (go_at_call 36; revert RK; intro RK; refine cM (mK.calls kj39 _ _ o9 _ _ wR Tq _ (pC (Kd.aT lE.1).2.2) ((Kd.aT lE.1).2.1) (pC (Kd.cB nI.1).2.2) ((Kd.cB nI.1).2.1) A86.out) ?_; rintro aKJ hb; replace lE := RB DP hb; replace nI := am (Kd.iI (rN nI.1) hb); replace qE := am (Kd.jY (rR qE.1) hb); replace pM := am (dL (g := xW) (o := .cells #[.slice uY o9.length sF, .slice DZ wR.length yC] 31 (0, 0)) (rB pM.1) hb); replace HB := bS W0 hb; clear hb) | ((with_reducible refine mU (f := 33) rfl ?_); revert Ve; intro Ve; refine wE (some 80) rfl rfl Try.func33 (by kernel_rfl) rfl #[.agg #[.slice uY o9.length sF, .slice DZ wR.length yC], .slice E0 CZ.length yD] rfl FO ?_; (with_reducible refine (bQ.calls kj39 _ _ o9 _ _ wR _ _ CZ false _ ?side1 ?side2 ?side3 ?side4 ?side5 ?side6 A82.out).mono ?_); (case side1 => refine (Kd.aT (e := 9) (base := w.heap.size) (ok := fun k_ => some k_ ≠ (.slice E0 CZ.length yD : Value).ownBlock) (n := o9.length) (c := sF) ?_).2.2; exact (by refine rR ?_; exact (Kd.aM (fR (fR (tR lE pM))) (fun _ h_ => h_.1)))); (case side2 => exact (Kd.aT lE.1).2.1); (case side3 => refine (Kd.cB (e := 56) (base := w.heap.size) (ok := fun k_ => ((some k_ ≠ (.slice uY o9.length sF : Value).ownBlock ∧ some k_ ≠ (.slice E0 CZ.length yD : Value).ownBlock) ∧ k_ ≠ xW)) (n := wR.length) (c := yC) ?_).2.2; exact (by refine rN ?_; exact (Kd.aU (fN (fN (Kd.aU nI.1 (fun k_ hk => (⟨hk, hk.2⟩ : _ ∧ k_ ≠ xW))))) (fun _ h_ => h_.1)))); (case side4 => exact (Kd.cB nI.1).2.1); (case side5 => refine (Kd.aT (e := 9) (base := w.heap.size) (ok := fun k_ => some k_ ≠ (.slice uY o9.length sF : Value).ownBlock) (n := CZ.length) (c := yD) ?_).2.2; exact (by refine rR ?_; exact (Kd.aM (fR (fR (tR qE pM))) (fun _ h_ => h_.1)))); (case side6 => exact (Kd.aT qE.1).2.1); rintro e aKK ⟨rfl, hb⟩; refine ⟨_, rfl, ?_⟩; replace lE := am (Kd.jY (by refine rR ?_; exact (Kd.aM (fR (fR (tR lE pM))) (fun _ h_ => h_.1))) hb); replace nI := am (Kd.iI (by refine rN ?_; exact (Kd.aU (fN (fN (Kd.aU nI.1 (fun k_ hk => (⟨hk, hk.2⟩ : _ ∧ k_ ≠ xW))))) (fun _ h_ => h_.1))) hb); replace qE := am (Kd.jY (by refine rR ?_; exact (Kd.aM (fR (fR (tR qE pM))) (fun _ h_ => h_.1))) hb); replace pM := am (dL (g := xW) (o := .cells #[.slice uY o9.length sF, .slice DZ wR.length yC] 31 (0, 0)) (qP pM) hb); replace HB := bS W0 hb; clear hb; have aEI := cz2 pM) | ((with_reducible refine gC 31 ?_); revert Ji; intro Ji; refine cQ (some 84) Try.func31 (cK.calls kj39 _ _ o9 _ _ wR _ _ CZ QY _ (pC (Kd.aT lE.1).2.2) ((Kd.aT lE.1).2.1) (pC (Kd.cB nI.1).2.2) ((Kd.cB nI.1).2.1) (pC (Kd.aT qE.1).2.2) ((Kd.aT qE.1).2.1) A83.out) ?_; rintro aKL hb; replace lE := RB DP hb; replace nI := am (Kd.iI (rN nI.1) hb); replace qE := am (Kd.jY (rR qE.1) hb); replace pM := am (dL (g := xW) (o := .cells #[.slice uY o9.length sF, .slice DZ wR.length yC] 31 (0, 0)) (rB pM.1) hb); replace HB := bS W0 hb; clear hb) | ((with_reducible refine mU (f := 33) rfl ?_); revert Vf; intro Vf; refine wE (some 80) rfl rfl Try.func33 (by kernel_rfl) rfl #[.agg #[.slice uY o9.length sF, .slice DZ wR.length yC], .slice E0 CZ.length yD] rfl FO ?_; (with_reducible refine (bQ.calls kj39 _ _ o9 _ _ wR _ _ CZ WH _ ?side1 ?side2 ?side3 ?side4 ?side5 ?side6 A82.out).mono ?_); (case side1 => refine (Kd.aT (e := 9) (base := w.heap.size) (ok := fun k_ => some k_ ≠ (.slice E0 CZ.length yD : Value).ownBlock) (n := o9.length) (c := sF) ?_).2.2; exact (by refine rR ?_; exact (Kd.aM (fR (fR (tR lE pM))) (fun _ h_ => h_.1)))); (case side2 => exact (Kd.aT lE.1).2.1); (case side3 => refine (Kd.cB (e := 56) (base := w.heap.size) (ok := fun k_ => ((some k_ ≠ (.slice uY o9.length sF : Value).ownBlock ∧ some k_ ≠ (.slice E0 CZ.length yD : Value).ownBlock) ∧ k_ ≠ xW)) (n := wR.length) (c := yC) ?_).2.2; exact (by refine rN ?_; exact (Kd.aU (fN (fN (Kd.aU nI.1 (fun k_ hk => (⟨hk, hk.2⟩ : _ ∧ k_ ≠ xW))))) (fun _ h_ => h_.1)))); (case side4 => exact (Kd.cB nI.1).2.1); (case side5 => refine (Kd.aT (e := 9) (base := w.heap.size) (ok := fun k_ => some k_ ≠ (.slice uY o9.length sF : Value).ownBlock) (n := CZ.length) (c := yD) ?_).2.2; exact (by refine rR ?_; exact (Kd.aM (fR (fR (tR qE pM))) (fun _ h_ => h_.1)))); (case side6 => exact (Kd.aT qE.1).2.1); rintro e aKM ⟨rfl, hb⟩; refine ⟨_, rfl, ?_⟩; replace lE := am (Kd.jY (by refine rR ?_; exact (Kd.aM (fR (fR (tR lE pM))) (fun _ h_ => h_.1))) hb); replace nI := am (Kd.iI (by refine rN ?_; exact (Kd.aU (fN (fN (Kd.aU nI.1 (fun k_ hk => (⟨hk, hk.2⟩ : _ ∧ k_ ≠ xW))))) (fun _ h_ => h_.1))) hb); replace qE := am (Kd.jY (by refine rR ?_; exact (Kd.aM (fR (fR (tR qE pM))) (fun _ h_ => h_.1))) hb); replace pM := am (dL (g := xW) (o := .cells #[.slice uY o9.length sF, .slice DZ wR.length yC] 31 (0, 0)) (qP pM) hb); replace HB := bS W0 hb; clear hb; have aEJ := cz2 pM))
        ·go_ret
         exact ⟨eR, eI⟩
        ·go_ret
         exact ⟨eR, W0⟩
        ·go_ret
         exact ⟨eR, W0⟩
        ·go_ret
         exact ⟨eR, W0⟩
def bP.Pure : Prop := ∀ (l0 : List Int) (l1 : List Int), l0.length ≤ maxLen → l0.length * 1 ≤ 140737488351232 → (∀ x ∈ l0, (Lit.int .u8 x).wf = true) → l1.length ≤ maxLen → l1.length * 1 ≤ 140737488351232 → (∀ x ∈ l1, (Lit.int .u8 x).wf = true) → ∃ k, bP.f k l0 l1 = some true
theorem bP.walk (P : bP.Pure) (a0 : Option Addr) (len0 cap0 : Nat) (z0 : List Int) (a1 : Option Addr) (len1 cap1 : Nat) (z1 : List Int) (w : World) (w0 : (a0 = none ∧ len0 = 0 ∧ cap0 = 0 ∧ z0 = []) ∨ ∃ x, a0 = some x ∧ len0 ≤ cap0 ∧ cap0 ≤ maxLen ∧ z0.length = cap0 ∧ (∀ i, i < z0.length → w.cell? (x.add i) = some (.int .u8 (z0.getD i 0))) ∧ ∀ n ∈ z0, (Lit.int .u8 n).wf = true) (y0 : len0 * 1 ≤ 140737488351232) (w1 : (a1 = none ∧ len1 = 0 ∧ cap1 = 0 ∧ z1 = []) ∨ ∃ x, a1 = some x ∧ len1 ≤ cap1 ∧ cap1 ≤ maxLen ∧ z1.length = cap1 ∧ (∀ i, i < z1.length → w.cell? (x.add i) = some (.int .u8 (z1.getD i 0))) ∧ ∀ n ∈ z1, (Lit.int .u8 n).wf = true) (y1 : len1 * 1 ≤ 140737488351232) :
  Calls Try.prog 15 #[.slice a0 len0 cap0, .slice a1 len1 cap1] w fun e w' => e = .returned (.bool true) ∧ Below w.heap.size w w' := by
 obtain ⟨l0, rfl, r5, hm0, hw0, xK⟩ := jH.Nl w0
 obtain ⟨l1, rfl, BF, hm1, hw1, DK⟩ := jH.Nl w1
 obtain ⟨k, h⟩ := P l0 l1 hm0 y0 hw0 hm1 y1 hw1
 refine (bP.calls k _ _ l0 _ _ l1 true w (Kd.kI (d := (0 : Int)) (h1 := fun _ => rfl) r5) xK (Kd.kI (d := (0 : Int)) (h1 := fun _ => rfl) BF) DK h).mono ?_
 rintro e w' ⟨rfl, hd⟩
 exact ⟨rfl, hd⟩
end Go.Proofs.Ytaofjgnhapnndaa.Q
namespace Go.Proofs.Ytaofjgnhapnndaa.Q
open Go.RowKit Go.Proofs.YtaofjgnhapnndaaW.PrintWords Go.Proofs.YtaofjgnhapnndaaW.PrintLast Go.Proofs.YtaofjgnhapnndaaW.PrintMore
set_option linter.unusedVariables false
set_option linter.unusedSimpArgs false
abbrev EC := ByteArray × (Option Addr × Nat × Nat) × (Option Addr × Nat × Nat)
end Go.Proofs.Ytaofjgnhapnndaa.Q
