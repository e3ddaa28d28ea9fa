/- Texts that the row needs: words on memory and rows, the contracts of the functions it reaches, and the plain lemmas on what they compute. -/
import Derived.Ground.GgsProg
import Derived.Test.YtaofjgnhapnndaaGreatDoorXksai
open Go.Proofs.YtaofjgnhapnndaaGreatDoorFks
namespace Go.Proofs.YtaofjgnhapnndaaGreatDoor.Q
open Go.RowKit Go.Proofs.YtaofjgnhapnndaaGreatDoorW.PrintWords Go.Proofs.YtaofjgnhapnndaaGreatDoorW.PrintLast Go.Proofs.YtaofjgnhapnndaaGreatDoorW.PrintMore
set_option linter.unusedVariables false
set_option linter.unusedSimpArgs false
open Go.Shelf Go.Lib Go.Sort
def fV : Go.Shelf.Ren :=
{
  f := fun x =>
    match x with
    | 6 => 73
    | 10 => 94
    | 11 => 95
    | 12 => 96
    | 13 => 97
    | 14 => 98
    | 24 => 118
    | 25 => 119
    | 26 => 120
    | 27 => 121
    | 28 => 122
    | 29 => 123
    | 30 => 124
    | 31 => 125
    | 32 => 126
    | 33 => 127
    | 34 => 137
    | 35 => 138
    | 36 => 139
    | 37 => 140
    | 38 => 141
    | 39 => 157
    | n => n,
  t := fun x =>
    match x with
    | 20 => 20
    | 26 => 83
    | 35 => 101
    | 0 => 0
    | 37 => 103
    | 3 => 3
    | 41 => 107
    | 44 => 110
    | 49 => 125
    | 51 => 127
    | 4 => 4
    | 54 => 130
    | 53 => 129
    | 58 => 134
    | 5 => 5
    | 9 => 9
    | 60 => 148
    | 64 => 152
    | 66 => 168
    | 67 => 169
    | 17 => 17
    | 32 => 98
    | 33 => 99
    | 82 => 189
    | 12 => 12
    | 75 => 183
    | 76 => 184
    | 77 => 185
    | 78 => 137
    | 79 => 186
    | 80 => 187
    | n => n,
  g := fun x => x }
set_option maxRecDepth 100000 in
theorem WR : Go.Proofs.LaysGg.n6 Tryz.prog fV :=
{ mixed := Eq.refl true, f6 := Eq.trans Tryz.func73 (congrArg some (Eq.refl (BodyGg.n6 fV))),
  f10 := Eq.trans Tryz.func94 (congrArg some (Eq.refl (BodyGg.n10 fV))),
  f11 := Eq.trans Tryz.func95 (congrArg some (Eq.refl (BodyGg.n11 fV))),
  f12 := Eq.trans Tryz.func96 (congrArg some (Eq.refl (BodyGg.n12 fV))),
  f13 := Eq.trans Tryz.func97 (congrArg some (Eq.refl (BodyGg.n13 fV))),
  f14 := Eq.trans Tryz.func98 (congrArg some (Eq.refl (BodyGg.n14 fV))),
  f24 := Eq.trans Tryz.func118 (congrArg some (Eq.refl (BodyGg.n24 fV))),
  f25 := Eq.trans Tryz.func119 (congrArg some (Eq.refl (BodyGg.n25 fV))),
  f26 := Eq.trans Tryz.func120 (congrArg some (Eq.refl (BodyGg.n26 fV))),
  f27 := Eq.trans Tryz.func121 (congrArg some (Eq.refl (BodyGg.n27 fV))),
  f28 := Eq.trans Tryz.func122 (congrArg some (Eq.refl (BodyGg.n28 fV))),
  f29 := Eq.trans Tryz.func123 (congrArg some (Eq.refl (BodyGg.n29 fV))),
  f30 := Eq.trans Tryz.func124 (congrArg some (Eq.refl (BodyGg.n30 fV))),
  f31 := Eq.trans Tryz.func125 (congrArg some (Eq.refl (BodyGg.n31 fV))),
  f32 := Eq.trans Tryz.func126 (congrArg some (Eq.refl (BodyGg.n32 fV))),
  f33 := Eq.trans Tryz.func127 (congrArg some (Eq.refl (BodyGg.n33 fV))),
  f34 := Eq.trans Tryz.func137 (congrArg some (Eq.refl (BodyGg.n34 fV))),
  f35 := Eq.trans Tryz.func138 (congrArg some (Eq.refl (BodyGg.n35 fV))),
  f36 := Eq.trans Tryz.func139 (congrArg some (Eq.refl (BodyGg.n36 fV))),
  f37 := Eq.trans Tryz.func140 (congrArg some (Eq.refl (BodyGg.n37 fV))),
  f38 := Eq.trans Tryz.func141 (congrArg some (Eq.refl (BodyGg.n38 fV))),
  f39 := Eq.trans Tryz.func157 (congrArg some (Eq.refl (BodyGg.n39 fV))), t0 := Tryz.underlying0,
  a0 := Tryz.isAgg0, z0 := Tryz.sizeOf0, v0 := Tryz.zeroValue0, i0 := Eq.refl (some (some (Value.tuple #[]), 1, 0)),
  t3 := Tryz.underlying3, a3 := Tryz.isAgg3, z3 := Tryz.sizeOf3, v3 := Tryz.zeroValue3,
  i3 := Eq.refl (some (some (Value.int IntKind.i64 0), 1, 8)), t4 := Tryz.underlying4, a4 := Tryz.isAgg4,
  z4 := Tryz.sizeOf4, v4 := Tryz.zeroValue4, i4 := Eq.refl (some (some (Value.bool false), 1, 1)),
  t5 := Tryz.underlying5, a5 := Tryz.isAgg5, z5 := Tryz.sizeOf5, v5 := Tryz.zeroValue5,
  i5 := Eq.refl (some (some (Value.int IntKind.u8 0), 1, 1)), t9 := Tryz.underlying9, a9 := Tryz.isAgg9,
  z9 := Tryz.sizeOf9, v9 := Tryz.zeroValue9, i9 := Eq.refl (some (some (Value.string { data := #[] }), 1, 16)),
  t12 := Tryz.underlying12, a12 := Tryz.isAgg12, z12 := Tryz.sizeOf12, v12 := Tryz.zeroValue12,
  i12 := Eq.refl (some (some (Value.int IntKind.u64 0), 1, 8)), t17 := Tryz.underlying17, a17 := Tryz.isAgg17,
  z17 := Tryz.sizeOf17, v17 := Tryz.zeroValue17, i17 := Eq.refl (some (some (Value.pointer none), 1, 8)),
  t20 := Tryz.underlying20, a20 := Tryz.isAgg20, z20 := Tryz.sizeOf20, v20 := Tryz.zeroValue20,
  i20 := Eq.refl (some (some Value.nilIface, 1, 16)), t26 := Tryz.underlying83, a26 := Tryz.isAgg83,
  z26 := Tryz.sizeOf83, v26 := Tryz.zeroValue83, i26 := Eq.refl (some (some Value.nilFunc, 1, 8)),
  t32 := Tryz.underlying98, a32 := Tryz.isAgg98, z32 := Tryz.sizeOf98, v32 := Tryz.zeroValue98,
  i32 := Eq.refl (some (some (Value.pointer none), 1, 8)), t33 := Tryz.underlying99, a33 := Tryz.isAgg99,
  z33 := Tryz.sizeOf99, v33 := Tryz.zeroValue99, i33 := Eq.refl (some (some (Value.int IntKind.u64 0), 1, 8)),
  t35 := Tryz.underlying101, a35 := Tryz.isAgg101, z35 := Tryz.sizeOf101, v35 := Tryz.zeroValue101,
  i35 := Eq.refl (some (some (Value.agg #[Value.pointer none, Value.pointer none, Value.int IntKind.u64 0]), 3, 24)),
  t37 := Tryz.underlying103, a37 := Tryz.isAgg103, z37 := Tryz.sizeOf103, v37 := Tryz.zeroValue103,
  i37 := Eq.refl (some (some Value.nilFunc, 1, 8)), t41 := Tryz.underlying107, a41 := Tryz.isAgg107,
  z41 := Tryz.sizeOf107, v41 := Tryz.zeroValue107, i41 := Eq.refl (some (some (Value.int IntKind.u64 0), 1, 8)),
  t44 := Tryz.underlying110, a44 := Tryz.isAgg110, z44 := Tryz.sizeOf110, v44 := Tryz.zeroValue110,
  i44 := Eq.refl (some (some (Value.agg #[Value.nilFunc, Value.nilFunc]), 2, 16)), t49 := Tryz.underlying125,
  a49 := Tryz.isAgg125, z49 := Tryz.sizeOf125, v49 := Tryz.zeroValue125,
  i49 := Eq.refl (some (some (Value.int IntKind.u32 0), 1, 4)), t51 := Tryz.underlying127, a51 := Tryz.isAgg127,
  z51 := Tryz.sizeOf127, v51 := Tryz.zeroValue127, i51 := Eq.refl (some (some (Value.int IntKind.u64 0), 1, 8)),
  t53 := Tryz.underlying129, a53 := Tryz.isAgg129, z53 := Tryz.sizeOf129, v53 := Tryz.zeroValue129,
  i53 := Eq.refl (some (some (Value.int IntKind.i64 0), 1, 8)), t54 := Tryz.underlying130, a54 := Tryz.isAgg130,
  z54 := Tryz.sizeOf130, v54 := Tryz.zeroValue130,
  i54 := Eq.refl (some (some (Value.tuple #[Value.int IntKind.i64 0, Value.int IntKind.i64 0]), 1, 0)),
  t58 := Tryz.underlying134, a58 := Tryz.isAgg134, z58 := Tryz.sizeOf134, v58 := Tryz.zeroValue134,
  i58 := Eq.refl (some (some (Value.tuple #[Value.int IntKind.i64 0, Value.bool false]), 1, 0)),
  t60 := Tryz.underlying148, a60 := Tryz.isAgg148, z60 := Tryz.sizeOf148, v60 := Tryz.zeroValue148,
  i60 := Eq.refl (some (some (Value.int IntKind.u64 0), 1, 8)), t64 := Tryz.underlying152, a64 := Tryz.isAgg152,
  z64 := Tryz.sizeOf152, v64 := Tryz.zeroValue152, i64 := Eq.refl (some (some (Value.pointer none), 1, 8)),
  t66 := Tryz.underlying168, a66 := Tryz.isAgg168, z66 := Tryz.sizeOf168, v66 := Tryz.zeroValue168,
  i66 := Eq.refl (some (some (Value.pointer none), 1, 8)), t67 := Tryz.underlying169, a67 := Tryz.isAgg169,
  z67 := Tryz.sizeOf169, v67 := Tryz.zeroValue169,
  i67 := Eq.refl (some (some (Value.tuple #[Value.int IntKind.i64 0, Value.int IntKind.i64 0]), 1, 0)),
  t75 := Tryz.underlying183, a75 := Tryz.isAgg183, z75 := Tryz.sizeOf183, v75 := Tryz.zeroValue183,
  i75 := Eq.refl (some (some (Value.int IntKind.u8 0), 1, 1)), t76 := Tryz.underlying184, a76 := Tryz.isAgg184,
  z76 := Tryz.sizeOf184, v76 := Tryz.zeroValue184, i76 := Eq.refl (some (some (Value.int IntKind.u8 0), 1, 1)),
  t77 := Tryz.underlying185, a77 := Tryz.isAgg185, z77 := Tryz.sizeOf185, v77 := Tryz.zeroValue185,
  i77 := Eq.refl (some (some Value.nilFunc, 1, 8)), t78 := Tryz.underlying137, a78 := Tryz.isAgg137,
  z78 := Tryz.sizeOf137, v78 := Tryz.zeroValue137, i78 := Eq.refl (some (some (Value.pointer none), 1, 8)),
  t79 := Tryz.underlying186, a79 := Tryz.isAgg186, z79 := Tryz.sizeOf186, v79 := Tryz.zeroValue186,
  i79 := Eq.refl (some (some (Value.int IntKind.i32 0), 1, 4)), t80 := Tryz.underlying187, a80 := Tryz.isAgg187,
  z80 := Tryz.sizeOf187, v80 := Tryz.zeroValue187, i80 := Eq.refl (some (some (Value.int IntKind.i32 0), 1, 4)),
  t82 := Tryz.underlying189, a82 := Tryz.isAgg189, z82 := Tryz.sizeOf189, v82 := Tryz.zeroValue189,
  i82 :=
    Eq.refl
      (some
        (some
            (Value.agg
              #[Value.int IntKind.u64 0, Value.int IntKind.u64 0, Value.int IntKind.u32 0, Value.int IntKind.u8 0,
                Value.int IntKind.u8 0, Value.int IntKind.u8 0, Value.int IntKind.u8 0, Value.nilFunc,
                Value.pointer none, Value.int IntKind.i32 0, Value.int IntKind.i32 0]),
          11, 48)) }
end Go.Proofs.YtaofjgnhapnndaaGreatDoor.Q
