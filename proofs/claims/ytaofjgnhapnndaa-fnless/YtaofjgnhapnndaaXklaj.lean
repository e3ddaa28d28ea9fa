/- Texts that the row needs: words on memory and rows, the contracts of the functions it reaches, and the plain lemmas on what they compute. -/
import Derived.Ground.GgsProg
import Derived.Test.YtaofjgnhapnndaaXklai
open Go.Proofs.YtaofjgnhapnndaaFkl
namespace Go.Proofs.Ytaofjgnhapnndaa.Q
open Go.RowKit Go.Proofs.YtaofjgnhapnndaaW.PrintWords Go.Proofs.YtaofjgnhapnndaaW.PrintLast Go.Proofs.YtaofjgnhapnndaaW.PrintMore
set_option linter.unusedVariables false
set_option linter.unusedSimpArgs false
open Go.Shelf Go.Lib Go.Sort
def gG : Go.Shelf.Ren :=
{
  f := fun x =>
    match x with
    | 6 => 103
    | 10 => 122
    | 11 => 123
    | 12 => 124
    | 13 => 125
    | 14 => 126
    | 24 => 142
    | 25 => 143
    | 26 => 144
    | 27 => 145
    | 28 => 146
    | 29 => 147
    | 30 => 148
    | 31 => 149
    | 32 => 150
    | 33 => 151
    | 34 => 153
    | 35 => 154
    | 36 => 155
    | 37 => 156
    | 38 => 157
    | 39 => 167
    | n => n,
  t := fun x =>
    match x with
    | 20 => 20
    | 26 => 89
    | 35 => 111
    | 0 => 0
    | 37 => 113
    | 3 => 3
    | 41 => 117
    | 44 => 120
    | 49 => 127
    | 51 => 129
    | 4 => 4
    | 54 => 132
    | 53 => 131
    | 58 => 136
    | 5 => 5
    | 9 => 9
    | 60 => 139
    | 64 => 143
    | 66 => 153
    | 67 => 154
    | 17 => 17
    | 32 => 108
    | 33 => 109
    | 82 => 174
    | 12 => 12
    | 75 => 167
    | 76 => 168
    | 77 => 169
    | 78 => 170
    | 79 => 171
    | 80 => 172
    | n => n,
  g := fun x => x }
set_option maxRecDepth 100000 in
theorem Cn : Go.Proofs.LaysGg.n6 Try.prog gG :=
{ mixed := Eq.refl true, f6 := Eq.trans Try.func103 (congrArg some (Eq.refl (BodyGg.n6 gG))),
  f10 := Eq.trans Try.func122 (congrArg some (Eq.refl (BodyGg.n10 gG))),
  f11 := Eq.trans Try.func123 (congrArg some (Eq.refl (BodyGg.n11 gG))),
  f12 := Eq.trans Try.func124 (congrArg some (Eq.refl (BodyGg.n12 gG))),
  f13 := Eq.trans Try.func125 (congrArg some (Eq.refl (BodyGg.n13 gG))),
  f14 := Eq.trans Try.func126 (congrArg some (Eq.refl (BodyGg.n14 gG))),
  f24 := Eq.trans Try.func142 (congrArg some (Eq.refl (BodyGg.n24 gG))),
  f25 := Eq.trans Try.func143 (congrArg some (Eq.refl (BodyGg.n25 gG))),
  f26 := Eq.trans Try.func144 (congrArg some (Eq.refl (BodyGg.n26 gG))),
  f27 := Eq.trans Try.func145 (congrArg some (Eq.refl (BodyGg.n27 gG))),
  f28 := Eq.trans Try.func146 (congrArg some (Eq.refl (BodyGg.n28 gG))),
  f29 := Eq.trans Try.func147 (congrArg some (Eq.refl (BodyGg.n29 gG))),
  f30 := Eq.trans Try.func148 (congrArg some (Eq.refl (BodyGg.n30 gG))),
  f31 := Eq.trans Try.func149 (congrArg some (Eq.refl (BodyGg.n31 gG))),
  f32 := Eq.trans Try.func150 (congrArg some (Eq.refl (BodyGg.n32 gG))),
  f33 := Eq.trans Try.func151 (congrArg some (Eq.refl (BodyGg.n33 gG))),
  f34 := Eq.trans Try.func153 (congrArg some (Eq.refl (BodyGg.n34 gG))),
  f35 := Eq.trans Try.func154 (congrArg some (Eq.refl (BodyGg.n35 gG))),
  f36 := Eq.trans Try.func155 (congrArg some (Eq.refl (BodyGg.n36 gG))),
  f37 := Eq.trans Try.func156 (congrArg some (Eq.refl (BodyGg.n37 gG))),
  f38 := Eq.trans Try.func157 (congrArg some (Eq.refl (BodyGg.n38 gG))),
  f39 := Eq.trans Try.func167 (congrArg some (Eq.refl (BodyGg.n39 gG))), t0 := Try.underlying0,
  a0 := Try.isAgg0, z0 := Try.sizeOf0, v0 := Try.zeroValue0, i0 := Eq.refl (some (some (Value.tuple #[]), 1, 0)),
  t3 := Try.underlying3, a3 := Try.isAgg3, z3 := Try.sizeOf3, v3 := Try.zeroValue3,
  i3 := Eq.refl (some (some (Value.int IntKind.i64 0), 1, 8)), t4 := Try.underlying4, a4 := Try.isAgg4,
  z4 := Try.sizeOf4, v4 := Try.zeroValue4, i4 := Eq.refl (some (some (Value.bool false), 1, 1)), t5 := Try.underlying5,
  a5 := Try.isAgg5, z5 := Try.sizeOf5, v5 := Try.zeroValue5, i5 := Eq.refl (some (some (Value.int IntKind.u8 0), 1, 1)),
  t9 := Try.underlying9, a9 := Try.isAgg9, z9 := Try.sizeOf9, v9 := Try.zeroValue9,
  i9 := Eq.refl (some (some (Value.string { data := #[] }), 1, 16)), t12 := Try.underlying12, a12 := Try.isAgg12,
  z12 := Try.sizeOf12, v12 := Try.zeroValue12, i12 := Eq.refl (some (some (Value.int IntKind.u64 0), 1, 8)),
  t17 := Try.underlying17, a17 := Try.isAgg17, z17 := Try.sizeOf17, v17 := Try.zeroValue17,
  i17 := Eq.refl (some (some (Value.pointer none), 1, 8)), t20 := Try.underlying20, a20 := Try.isAgg20,
  z20 := Try.sizeOf20, v20 := Try.zeroValue20, i20 := Eq.refl (some (some Value.nilIface, 1, 16)),
  t26 := Try.underlying89, a26 := Try.isAgg89, z26 := Try.sizeOf89, v26 := Try.zeroValue89,
  i26 := Eq.refl (some (some Value.nilFunc, 1, 8)), t32 := Try.underlying108, a32 := Try.isAgg108, z32 := Try.sizeOf108,
  v32 := Try.zeroValue108, i32 := Eq.refl (some (some (Value.pointer none), 1, 8)), t33 := Try.underlying109,
  a33 := Try.isAgg109, z33 := Try.sizeOf109, v33 := Try.zeroValue109,
  i33 := Eq.refl (some (some (Value.int IntKind.u64 0), 1, 8)), t35 := Try.underlying111, a35 := Try.isAgg111,
  z35 := Try.sizeOf111, v35 := Try.zeroValue111,
  i35 := Eq.refl (some (some (Value.agg #[Value.pointer none, Value.pointer none, Value.int IntKind.u64 0]), 3, 24)),
  t37 := Try.underlying113, a37 := Try.isAgg113, z37 := Try.sizeOf113, v37 := Try.zeroValue113,
  i37 := Eq.refl (some (some Value.nilFunc, 1, 8)), t41 := Try.underlying117, a41 := Try.isAgg117, z41 := Try.sizeOf117,
  v41 := Try.zeroValue117, i41 := Eq.refl (some (some (Value.int IntKind.u64 0), 1, 8)), t44 := Try.underlying120,
  a44 := Try.isAgg120, z44 := Try.sizeOf120, v44 := Try.zeroValue120,
  i44 := Eq.refl (some (some (Value.agg #[Value.nilFunc, Value.nilFunc]), 2, 16)), t49 := Try.underlying127,
  a49 := Try.isAgg127, z49 := Try.sizeOf127, v49 := Try.zeroValue127,
  i49 := Eq.refl (some (some (Value.int IntKind.u32 0), 1, 4)), t51 := Try.underlying129, a51 := Try.isAgg129,
  z51 := Try.sizeOf129, v51 := Try.zeroValue129, i51 := Eq.refl (some (some (Value.int IntKind.u64 0), 1, 8)),
  t53 := Try.underlying131, a53 := Try.isAgg131, z53 := Try.sizeOf131, v53 := Try.zeroValue131,
  i53 := Eq.refl (some (some (Value.int IntKind.i64 0), 1, 8)), t54 := Try.underlying132, a54 := Try.isAgg132,
  z54 := Try.sizeOf132, v54 := Try.zeroValue132,
  i54 := Eq.refl (some (some (Value.tuple #[Value.int IntKind.i64 0, Value.int IntKind.i64 0]), 1, 0)),
  t58 := Try.underlying136, a58 := Try.isAgg136, z58 := Try.sizeOf136, v58 := Try.zeroValue136,
  i58 := Eq.refl (some (some (Value.tuple #[Value.int IntKind.i64 0, Value.bool false]), 1, 0)),
  t60 := Try.underlying139, a60 := Try.isAgg139, z60 := Try.sizeOf139, v60 := Try.zeroValue139,
  i60 := Eq.refl (some (some (Value.int IntKind.u64 0), 1, 8)), t64 := Try.underlying143, a64 := Try.isAgg143,
  z64 := Try.sizeOf143, v64 := Try.zeroValue143, i64 := Eq.refl (some (some (Value.pointer none), 1, 8)),
  t66 := Try.underlying153, a66 := Try.isAgg153, z66 := Try.sizeOf153, v66 := Try.zeroValue153,
  i66 := Eq.refl (some (some (Value.pointer none), 1, 8)), t67 := Try.underlying154, a67 := Try.isAgg154,
  z67 := Try.sizeOf154, v67 := Try.zeroValue154,
  i67 := Eq.refl (some (some (Value.tuple #[Value.int IntKind.i64 0, Value.int IntKind.i64 0]), 1, 0)),
  t75 := Try.underlying167, a75 := Try.isAgg167, z75 := Try.sizeOf167, v75 := Try.zeroValue167,
  i75 := Eq.refl (some (some (Value.int IntKind.u8 0), 1, 1)), t76 := Try.underlying168, a76 := Try.isAgg168,
  z76 := Try.sizeOf168, v76 := Try.zeroValue168, i76 := Eq.refl (some (some (Value.int IntKind.u8 0), 1, 1)),
  t77 := Try.underlying169, a77 := Try.isAgg169, z77 := Try.sizeOf169, v77 := Try.zeroValue169,
  i77 := Eq.refl (some (some Value.nilFunc, 1, 8)), t78 := Try.underlying170, a78 := Try.isAgg170, z78 := Try.sizeOf170,
  v78 := Try.zeroValue170, i78 := Eq.refl (some (some (Value.pointer none), 1, 8)), t79 := Try.underlying171,
  a79 := Try.isAgg171, z79 := Try.sizeOf171, v79 := Try.zeroValue171,
  i79 := Eq.refl (some (some (Value.int IntKind.i32 0), 1, 4)), t80 := Try.underlying172, a80 := Try.isAgg172,
  z80 := Try.sizeOf172, v80 := Try.zeroValue172, i80 := Eq.refl (some (some (Value.int IntKind.i32 0), 1, 4)),
  t82 := Try.underlying174, a82 := Try.isAgg174, z82 := Try.sizeOf174, v82 := Try.zeroValue174,
  i82 :=
    Eq.refl
      (some
        (some
            (Value.agg
              #[Value.int IntKind.u64 0, Value.int IntKind.u64 0, Value.int IntKind.u32 0, Value.int IntKind.u8 0,
                Value.int IntKind.u8 0, Value.int IntKind.u8 0, Value.int IntKind.u8 0, Value.nilFunc,
                Value.pointer none, Value.int IntKind.i32 0, Value.int IntKind.i32 0]),
          11, 48)) }
end Go.Proofs.Ytaofjgnhapnndaa.Q
