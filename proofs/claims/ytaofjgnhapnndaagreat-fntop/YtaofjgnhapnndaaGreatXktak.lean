/- Texts that the row needs: words on memory and rows, the contracts of the functions it reaches, and the plain lemmas on what they compute. -/
import Derived.Ground.GgsProg
import Derived.Test.YtaofjgnhapnndaaGreatXktaj
open Go.Proofs.YtaofjgnhapnndaaGreatFkt
namespace Go.Proofs.YtaofjgnhapnndaaGreat.Q
open Go.RowKit Go.Proofs.YtaofjgnhapnndaaGreatW.PrintWords Go.Proofs.YtaofjgnhapnndaaGreatW.PrintLast Go.Proofs.YtaofjgnhapnndaaGreatW.PrintMore
set_option linter.unusedVariables false
set_option linter.unusedSimpArgs false
open Go.Shelf Go.Lib Go.Sort
def gT : Go.Shelf.Ren :=
{
  f := fun x =>
    match x with
    | 6 => 29
    | 10 => 59
    | 11 => 60
    | 12 => 61
    | 13 => 62
    | 14 => 63
    | 24 => 81
    | 25 => 82
    | 26 => 83
    | 27 => 84
    | 28 => 85
    | 29 => 86
    | 30 => 87
    | 31 => 88
    | 32 => 89
    | 33 => 90
    | 34 => 93
    | 35 => 94
    | 36 => 95
    | 37 => 96
    | 38 => 97
    | 39 => 108
    | n => n,
  t := fun x =>
    match x with
    | 20 => 20
    | 26 => 54
    | 35 => 77
    | 0 => 0
    | 37 => 79
    | 3 => 3
    | 41 => 83
    | 44 => 86
    | 49 => 95
    | 51 => 97
    | 4 => 4
    | 54 => 100
    | 53 => 99
    | 58 => 104
    | 5 => 5
    | 9 => 9
    | 60 => 108
    | 64 => 112
    | 66 => 122
    | 67 => 123
    | 17 => 17
    | 32 => 74
    | 33 => 75
    | 82 => 143
    | 12 => 12
    | 75 => 136
    | 76 => 137
    | 77 => 138
    | 78 => 139
    | 79 => 140
    | 80 => 141
    | n => n,
  g := fun x => x }
set_option maxRecDepth 100000 in
theorem Cc : Go.Proofs.LaysGg.n6 Tryz.prog gT :=
{ mixed := Eq.refl true, f6 := Eq.trans Tryz.func29 (congrArg some (Eq.refl (BodyGg.n6 gT))),
  f10 := Eq.trans Tryz.func59 (congrArg some (Eq.refl (BodyGg.n10 gT))),
  f11 := Eq.trans Tryz.func60 (congrArg some (Eq.refl (BodyGg.n11 gT))),
  f12 := Eq.trans Tryz.func61 (congrArg some (Eq.refl (BodyGg.n12 gT))),
  f13 := Eq.trans Tryz.func62 (congrArg some (Eq.refl (BodyGg.n13 gT))),
  f14 := Eq.trans Tryz.func63 (congrArg some (Eq.refl (BodyGg.n14 gT))),
  f24 := Eq.trans Tryz.func81 (congrArg some (Eq.refl (BodyGg.n24 gT))),
  f25 := Eq.trans Tryz.func82 (congrArg some (Eq.refl (BodyGg.n25 gT))),
  f26 := Eq.trans Tryz.func83 (congrArg some (Eq.refl (BodyGg.n26 gT))),
  f27 := Eq.trans Tryz.func84 (congrArg some (Eq.refl (BodyGg.n27 gT))),
  f28 := Eq.trans Tryz.func85 (congrArg some (Eq.refl (BodyGg.n28 gT))),
  f29 := Eq.trans Tryz.func86 (congrArg some (Eq.refl (BodyGg.n29 gT))),
  f30 := Eq.trans Tryz.func87 (congrArg some (Eq.refl (BodyGg.n30 gT))),
  f31 := Eq.trans Tryz.func88 (congrArg some (Eq.refl (BodyGg.n31 gT))),
  f32 := Eq.trans Tryz.func89 (congrArg some (Eq.refl (BodyGg.n32 gT))),
  f33 := Eq.trans Tryz.func90 (congrArg some (Eq.refl (BodyGg.n33 gT))),
  f34 := Eq.trans Tryz.func93 (congrArg some (Eq.refl (BodyGg.n34 gT))),
  f35 := Eq.trans Tryz.func94 (congrArg some (Eq.refl (BodyGg.n35 gT))),
  f36 := Eq.trans Tryz.func95 (congrArg some (Eq.refl (BodyGg.n36 gT))),
  f37 := Eq.trans Tryz.func96 (congrArg some (Eq.refl (BodyGg.n37 gT))),
  f38 := Eq.trans Tryz.func97 (congrArg some (Eq.refl (BodyGg.n38 gT))),
  f39 := Eq.trans Tryz.func108 (congrArg some (Eq.refl (BodyGg.n39 gT))), t0 := Tryz.underlying0,
  a0 := Tryz.isAgg0, z0 := Tryz.sizeOf0, v0 := Tryz.zeroValue0, i0 := Eq.refl (some (some (Value.tuple #[]), 1, 0)),
  t3 := Tryz.underlying3, a3 := Tryz.isAgg3, z3 := Tryz.sizeOf3, v3 := Tryz.zeroValue3,
  i3 := Eq.refl (some (some (Value.int IntKind.i64 0), 1, 8)), t4 := Tryz.underlying4, a4 := Tryz.isAgg4,
  z4 := Tryz.sizeOf4, v4 := Tryz.zeroValue4, i4 := Eq.refl (some (some (Value.bool false), 1, 1)),
  t5 := Tryz.underlying5, a5 := Tryz.isAgg5, z5 := Tryz.sizeOf5, v5 := Tryz.zeroValue5,
  i5 := Eq.refl (some (some (Value.int IntKind.u8 0), 1, 1)), t9 := Tryz.underlying9, a9 := Tryz.isAgg9,
  z9 := Tryz.sizeOf9, v9 := Tryz.zeroValue9, i9 := Eq.refl (some (some (Value.string { data := #[] }), 1, 16)),
  t12 := Tryz.underlying12, a12 := Tryz.isAgg12, z12 := Tryz.sizeOf12, v12 := Tryz.zeroValue12,
  i12 := Eq.refl (some (some (Value.int IntKind.u64 0), 1, 8)), t17 := Tryz.underlying17, a17 := Tryz.isAgg17,
  z17 := Tryz.sizeOf17, v17 := Tryz.zeroValue17, i17 := Eq.refl (some (some (Value.pointer none), 1, 8)),
  t20 := Tryz.underlying20, a20 := Tryz.isAgg20, z20 := Tryz.sizeOf20, v20 := Tryz.zeroValue20,
  i20 := Eq.refl (some (some Value.nilIface, 1, 16)), t26 := Tryz.underlying54, a26 := Tryz.isAgg54,
  z26 := Tryz.sizeOf54, v26 := Tryz.zeroValue54, i26 := Eq.refl (some (some Value.nilFunc, 1, 8)),
  t32 := Tryz.underlying74, a32 := Tryz.isAgg74, z32 := Tryz.sizeOf74, v32 := Tryz.zeroValue74,
  i32 := Eq.refl (some (some (Value.pointer none), 1, 8)), t33 := Tryz.underlying75, a33 := Tryz.isAgg75,
  z33 := Tryz.sizeOf75, v33 := Tryz.zeroValue75, i33 := Eq.refl (some (some (Value.int IntKind.u64 0), 1, 8)),
  t35 := Tryz.underlying77, a35 := Tryz.isAgg77, z35 := Tryz.sizeOf77, v35 := Tryz.zeroValue77,
  i35 := Eq.refl (some (some (Value.agg #[Value.pointer none, Value.pointer none, Value.int IntKind.u64 0]), 3, 24)),
  t37 := Tryz.underlying79, a37 := Tryz.isAgg79, z37 := Tryz.sizeOf79, v37 := Tryz.zeroValue79,
  i37 := Eq.refl (some (some Value.nilFunc, 1, 8)), t41 := Tryz.underlying83, a41 := Tryz.isAgg83, z41 := Tryz.sizeOf83,
  v41 := Tryz.zeroValue83, i41 := Eq.refl (some (some (Value.int IntKind.u64 0), 1, 8)), t44 := Tryz.underlying86,
  a44 := Tryz.isAgg86, z44 := Tryz.sizeOf86, v44 := Tryz.zeroValue86,
  i44 := Eq.refl (some (some (Value.agg #[Value.nilFunc, Value.nilFunc]), 2, 16)), t49 := Tryz.underlying95,
  a49 := Tryz.isAgg95, z49 := Tryz.sizeOf95, v49 := Tryz.zeroValue95,
  i49 := Eq.refl (some (some (Value.int IntKind.u32 0), 1, 4)), t51 := Tryz.underlying97, a51 := Tryz.isAgg97,
  z51 := Tryz.sizeOf97, v51 := Tryz.zeroValue97, i51 := Eq.refl (some (some (Value.int IntKind.u64 0), 1, 8)),
  t53 := Tryz.underlying99, a53 := Tryz.isAgg99, z53 := Tryz.sizeOf99, v53 := Tryz.zeroValue99,
  i53 := Eq.refl (some (some (Value.int IntKind.i64 0), 1, 8)), t54 := Tryz.underlying100, a54 := Tryz.isAgg100,
  z54 := Tryz.sizeOf100, v54 := Tryz.zeroValue100,
  i54 := Eq.refl (some (some (Value.tuple #[Value.int IntKind.i64 0, Value.int IntKind.i64 0]), 1, 0)),
  t58 := Tryz.underlying104, a58 := Tryz.isAgg104, z58 := Tryz.sizeOf104, v58 := Tryz.zeroValue104,
  i58 := Eq.refl (some (some (Value.tuple #[Value.int IntKind.i64 0, Value.bool false]), 1, 0)),
  t60 := Tryz.underlying108, a60 := Tryz.isAgg108, z60 := Tryz.sizeOf108, v60 := Tryz.zeroValue108,
  i60 := Eq.refl (some (some (Value.int IntKind.u64 0), 1, 8)), t64 := Tryz.underlying112, a64 := Tryz.isAgg112,
  z64 := Tryz.sizeOf112, v64 := Tryz.zeroValue112, i64 := Eq.refl (some (some (Value.pointer none), 1, 8)),
  t66 := Tryz.underlying122, a66 := Tryz.isAgg122, z66 := Tryz.sizeOf122, v66 := Tryz.zeroValue122,
  i66 := Eq.refl (some (some (Value.pointer none), 1, 8)), t67 := Tryz.underlying123, a67 := Tryz.isAgg123,
  z67 := Tryz.sizeOf123, v67 := Tryz.zeroValue123,
  i67 := Eq.refl (some (some (Value.tuple #[Value.int IntKind.i64 0, Value.int IntKind.i64 0]), 1, 0)),
  t75 := Tryz.underlying136, a75 := Tryz.isAgg136, z75 := Tryz.sizeOf136, v75 := Tryz.zeroValue136,
  i75 := Eq.refl (some (some (Value.int IntKind.u8 0), 1, 1)), t76 := Tryz.underlying137, a76 := Tryz.isAgg137,
  z76 := Tryz.sizeOf137, v76 := Tryz.zeroValue137, i76 := Eq.refl (some (some (Value.int IntKind.u8 0), 1, 1)),
  t77 := Tryz.underlying138, a77 := Tryz.isAgg138, z77 := Tryz.sizeOf138, v77 := Tryz.zeroValue138,
  i77 := Eq.refl (some (some Value.nilFunc, 1, 8)), t78 := Tryz.underlying139, a78 := Tryz.isAgg139,
  z78 := Tryz.sizeOf139, v78 := Tryz.zeroValue139, i78 := Eq.refl (some (some (Value.pointer none), 1, 8)),
  t79 := Tryz.underlying140, a79 := Tryz.isAgg140, z79 := Tryz.sizeOf140, v79 := Tryz.zeroValue140,
  i79 := Eq.refl (some (some (Value.int IntKind.i32 0), 1, 4)), t80 := Tryz.underlying141, a80 := Tryz.isAgg141,
  z80 := Tryz.sizeOf141, v80 := Tryz.zeroValue141, i80 := Eq.refl (some (some (Value.int IntKind.i32 0), 1, 4)),
  t82 := Tryz.underlying143, a82 := Tryz.isAgg143, z82 := Tryz.sizeOf143, v82 := Tryz.zeroValue143,
  i82 :=
    Eq.refl
      (some
        (some
            (Value.agg
              #[Value.int IntKind.u64 0, Value.int IntKind.u64 0, Value.int IntKind.u32 0, Value.int IntKind.u8 0,
                Value.int IntKind.u8 0, Value.int IntKind.u8 0, Value.int IntKind.u8 0, Value.nilFunc,
                Value.pointer none, Value.int IntKind.i32 0, Value.int IntKind.i32 0]),
          11, 48)) }
end Go.Proofs.YtaofjgnhapnndaaGreat.Q
