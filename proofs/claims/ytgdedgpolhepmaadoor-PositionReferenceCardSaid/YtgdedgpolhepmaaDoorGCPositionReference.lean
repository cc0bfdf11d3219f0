/- Part 3 of a proof of the law PositionReference: Go data as trees, the walks of the functions that the law reaches, the plain laws. -/
import Derived.Test.YtgdedgpolhepmaaDoorGBPositionReference
import Derived.Lib.Join
import Derived.Below
import Derived.Laws.StructEq
import Derived.Laws.RangeString
import Derived.Lib.OthersKept
import Derived.Lib.DecodeN
import Derived.Laws.IdiomStrings
import Derived.Lib.LastIndexByte
set_option linter.unusedVariables false
set_option linter.unusedSimpArgs false
namespace Go.Abs
/-! Bundles of rules, for shorter texts. -/
theorem jA : type_of% (And.intro @asq.eq_1 (And.intro @asq.eq_2 (And.intro @as0.eq_1 (And.intro @as0.eq_2 (And.intro @as1.eq_1 (And.intro @as1.eq_2 (And.intro @as1.eq_3 (And.intro @as2.eq_1 (And.intro @as2.eq_2 (@awanted.eq_1)))))))))) := And.intro @asq.eq_1 (And.intro @asq.eq_2 (And.intro @as0.eq_1 (And.intro @as0.eq_2 (And.intro @as1.eq_1 (And.intro @as1.eq_2 (And.intro @as1.eq_3 (And.intro @as2.eq_1 (And.intro @as2.eq_2 (@awanted.eq_1)))))))))
theorem jG : type_of% (And.intro @gsq.eq_1 (And.intro @gsq.eq_2 (And.intro @gs0.eq_1 (And.intro @gs0.eq_2 (And.intro @gs1.eq_1 (And.intro @gs1.eq_2 (And.intro @gs2.eq_1 (And.intro @gs2.eq_2 (And.intro @gcond.eq_1 (And.intro @gop.eq_1 (And.intro @gop.eq_2 (And.intro @Op.operands.eq_1 (And.intro @Op.operands.eq_2 (And.intro @Op.operands.eq_3 (And.intro @Op.operands.eq_4 (And.intro @Op.operands.eq_5 (And.intro @Op.operands.eq_6 (And.intro @Op.operands.eq_7 (And.intro @Op.operands.eq_8 (And.intro @Op.operands.eq_9 (And.intro @Op.operands.eq_10 (And.intro @Op.operands.eq_11 (And.intro @Op.operands.eq_12 (And.intro @Op.operands.eq_13 (And.intro @Op.operands.eq_14 (And.intro @Op.operands.eq_15 (And.intro @Op.operands.eq_16 (And.intro @Op.operands.eq_17 (And.intro @Op.operands.eq_18 (And.intro @Op.operands.eq_19 (And.intro @Op.operands.eq_20 (And.intro @Op.operands.eq_21 (And.intro @Op.operands.eq_22 (And.intro @Op.operands.eq_23 (And.intro @Op.operands.eq_24 (And.intro @Op.operands.eq_25 (And.intro @Op.operands.eq_26 (And.intro @Op.operands.eq_27 (And.intro @Op.operands.eq_28 (And.intro @Op.operands.eq_29 (And.intro @Op.operands.eq_30 (And.intro @Op.operands.eq_31 (And.intro @Op.operands.eq_32 (And.intro @Op.operands.eq_33 (And.intro @Op.operands.eq_34 (And.intro @Op.operands.eq_35 (And.intro @Op.operands.eq_36 (And.intro @Op.operands.eq_37 (And.intro @Op.operands.eq_38 (And.intro @Op.operands.eq_39 (And.intro @Op.operands.eq_40 (And.intro @Op.operands.eq_41 (And.intro @Op.operands.eq_42 (And.intro @Op.operands.eq_43 (And.intro @Call.operands.eq_1 (And.intro @SG (@Array.toList_append.{0}))))))))))))))))))))))))))))))))))))))))))))))))))))))))) := And.intro @gsq.eq_1 (And.intro @gsq.eq_2 (And.intro @gs0.eq_1 (And.intro @gs0.eq_2 (And.intro @gs1.eq_1 (And.intro @gs1.eq_2 (And.intro @gs2.eq_1 (And.intro @gs2.eq_2 (And.intro @gcond.eq_1 (And.intro @gop.eq_1 (And.intro @gop.eq_2 (And.intro @Op.operands.eq_1 (And.intro @Op.operands.eq_2 (And.intro @Op.operands.eq_3 (And.intro @Op.operands.eq_4 (And.intro @Op.operands.eq_5 (And.intro @Op.operands.eq_6 (And.intro @Op.operands.eq_7 (And.intro @Op.operands.eq_8 (And.intro @Op.operands.eq_9 (And.intro @Op.operands.eq_10 (And.intro @Op.operands.eq_11 (And.intro @Op.operands.eq_12 (And.intro @Op.operands.eq_13 (And.intro @Op.operands.eq_14 (And.intro @Op.operands.eq_15 (And.intro @Op.operands.eq_16 (And.intro @Op.operands.eq_17 (And.intro @Op.operands.eq_18 (And.intro @Op.operands.eq_19 (And.intro @Op.operands.eq_20 (And.intro @Op.operands.eq_21 (And.intro @Op.operands.eq_22 (And.intro @Op.operands.eq_23 (And.intro @Op.operands.eq_24 (And.intro @Op.operands.eq_25 (And.intro @Op.operands.eq_26 (And.intro @Op.operands.eq_27 (And.intro @Op.operands.eq_28 (And.intro @Op.operands.eq_29 (And.intro @Op.operands.eq_30 (And.intro @Op.operands.eq_31 (And.intro @Op.operands.eq_32 (And.intro @Op.operands.eq_33 (And.intro @Op.operands.eq_34 (And.intro @Op.operands.eq_35 (And.intro @Op.operands.eq_36 (And.intro @Op.operands.eq_37 (And.intro @Op.operands.eq_38 (And.intro @Op.operands.eq_39 (And.intro @Op.operands.eq_40 (And.intro @Op.operands.eq_41 (And.intro @Op.operands.eq_42 (And.intro @Op.operands.eq_43 (And.intro @Call.operands.eq_1 (And.intro @SG (@Array.toList_append.{0}))))))))))))))))))))))))))))))))))))))))))))))))))))))))
theorem jP : type_of% (And.intro @psq.eq_1 (And.intro @psq.eq_2 (And.intro @ps0.eq_1 (And.intro @ps0.eq_2 (And.intro @ps1.eq_1 (And.intro @ps1.eq_2 (And.intro @ps2.eq_1 (And.intro @ps2.eq_2 (And.intro @gcond.eq_1 (And.intro @gop.eq_1 (And.intro @gop.eq_2 (And.intro @Op.operands.eq_1 (And.intro @Op.operands.eq_2 (And.intro @Op.operands.eq_3 (And.intro @Op.operands.eq_4 (And.intro @Op.operands.eq_5 (And.intro @Op.operands.eq_6 (And.intro @Op.operands.eq_7 (And.intro @Op.operands.eq_8 (And.intro @Op.operands.eq_9 (And.intro @Op.operands.eq_10 (And.intro @Op.operands.eq_11 (And.intro @Op.operands.eq_12 (And.intro @Op.operands.eq_13 (And.intro @Op.operands.eq_14 (And.intro @Op.operands.eq_15 (And.intro @Op.operands.eq_16 (And.intro @Op.operands.eq_17 (And.intro @Op.operands.eq_18 (And.intro @Op.operands.eq_19 (And.intro @Op.operands.eq_20 (And.intro @Op.operands.eq_21 (And.intro @Op.operands.eq_22 (And.intro @Op.operands.eq_23 (And.intro @Op.operands.eq_24 (And.intro @Op.operands.eq_25 (And.intro @Op.operands.eq_26 (And.intro @Op.operands.eq_27 (And.intro @Op.operands.eq_28 (And.intro @Op.operands.eq_29 (And.intro @Op.operands.eq_30 (And.intro @Op.operands.eq_31 (And.intro @Op.operands.eq_32 (And.intro @Op.operands.eq_33 (And.intro @Op.operands.eq_34 (And.intro @Op.operands.eq_35 (And.intro @Op.operands.eq_36 (And.intro @Op.operands.eq_37 (And.intro @Op.operands.eq_38 (And.intro @Op.operands.eq_39 (And.intro @Op.operands.eq_40 (And.intro @Op.operands.eq_41 (And.intro @Op.operands.eq_42 (And.intro @Op.operands.eq_43 (And.intro @Call.operands.eq_1 (And.intro @SG (@Array.toList_append.{0}))))))))))))))))))))))))))))))))))))))))))))))))))))))))) := And.intro @psq.eq_1 (And.intro @psq.eq_2 (And.intro @ps0.eq_1 (And.intro @ps0.eq_2 (And.intro @ps1.eq_1 (And.intro @ps1.eq_2 (And.intro @ps2.eq_1 (And.intro @ps2.eq_2 (And.intro @gcond.eq_1 (And.intro @gop.eq_1 (And.intro @gop.eq_2 (And.intro @Op.operands.eq_1 (And.intro @Op.operands.eq_2 (And.intro @Op.operands.eq_3 (And.intro @Op.operands.eq_4 (And.intro @Op.operands.eq_5 (And.intro @Op.operands.eq_6 (And.intro @Op.operands.eq_7 (And.intro @Op.operands.eq_8 (And.intro @Op.operands.eq_9 (And.intro @Op.operands.eq_10 (And.intro @Op.operands.eq_11 (And.intro @Op.operands.eq_12 (And.intro @Op.operands.eq_13 (And.intro @Op.operands.eq_14 (And.intro @Op.operands.eq_15 (And.intro @Op.operands.eq_16 (And.intro @Op.operands.eq_17 (And.intro @Op.operands.eq_18 (And.intro @Op.operands.eq_19 (And.intro @Op.operands.eq_20 (And.intro @Op.operands.eq_21 (And.intro @Op.operands.eq_22 (And.intro @Op.operands.eq_23 (And.intro @Op.operands.eq_24 (And.intro @Op.operands.eq_25 (And.intro @Op.operands.eq_26 (And.intro @Op.operands.eq_27 (And.intro @Op.operands.eq_28 (And.intro @Op.operands.eq_29 (And.intro @Op.operands.eq_30 (And.intro @Op.operands.eq_31 (And.intro @Op.operands.eq_32 (And.intro @Op.operands.eq_33 (And.intro @Op.operands.eq_34 (And.intro @Op.operands.eq_35 (And.intro @Op.operands.eq_36 (And.intro @Op.operands.eq_37 (And.intro @Op.operands.eq_38 (And.intro @Op.operands.eq_39 (And.intro @Op.operands.eq_40 (And.intro @Op.operands.eq_41 (And.intro @Op.operands.eq_42 (And.intro @Op.operands.eq_43 (And.intro @Call.operands.eq_1 (And.intro @SG (@Array.toList_append.{0}))))))))))))))))))))))))))))))))))))))))))))))))))))))))
theorem jD : type_of% (And.intro @dsq.eq_1 (And.intro @dsq.eq_2 (And.intro @ds0.eq_1 (And.intro @ds0.eq_2 (And.intro @ds1.eq_1 (And.intro @ds1.eq_2 (And.intro @ds1.eq_3 (And.intro @ds2.eq_1 (And.intro @ds2.eq_2 (And.intro @ds3.eq_1 (And.intro @ds3.eq_2 (And.intro @awanted.eq_1 (And.intro @hapB.eq_1 (And.intro @effIds.eq_1 (And.intro @effIds.eq_2 (And.intro @effSet.eq_1 (And.intro @effSet.eq_2 (And.intro @nextFresh.eq_1 (And.intro @nextFresh.eq_2 (And.intro @ard.eq_1 (And.intro @ard.eq_2 (And.intro @ard.eq_3 (And.intro @ard.eq_4 (And.intro @freshOk.eq_1 (And.intro @freshOk.eq_2 (@isUnborn.eq_1)))))))))))))))))))))))))) := And.intro @dsq.eq_1 (And.intro @dsq.eq_2 (And.intro @ds0.eq_1 (And.intro @ds0.eq_2 (And.intro @ds1.eq_1 (And.intro @ds1.eq_2 (And.intro @ds1.eq_3 (And.intro @ds2.eq_1 (And.intro @ds2.eq_2 (And.intro @ds3.eq_1 (And.intro @ds3.eq_2 (And.intro @awanted.eq_1 (And.intro @hapB.eq_1 (And.intro @effIds.eq_1 (And.intro @effIds.eq_2 (And.intro @effSet.eq_1 (And.intro @effSet.eq_2 (And.intro @nextFresh.eq_1 (And.intro @nextFresh.eq_2 (And.intro @ard.eq_1 (And.intro @ard.eq_2 (And.intro @ard.eq_3 (And.intro @ard.eq_4 (And.intro @freshOk.eq_1 (And.intro @freshOk.eq_2 (@isUnborn.eq_1)))))))))))))))))))))))))
theorem jH : type_of% (And.intro @gdq.eq_1 (And.intro @gdq.eq_2 (And.intro @gd0.eq_1 (And.intro @gd0.eq_2 (And.intro @gd1.eq_1 (And.intro @gd1.eq_2 (And.intro @gd2.eq_1 (And.intro @gd2.eq_2 (And.intro @gd3.eq_1 (And.intro @gd3.eq_2 (And.intro @gcond.eq_1 (And.intro @gop.eq_1 (And.intro @gop.eq_2 (And.intro @Op.operands.eq_1 (And.intro @Op.operands.eq_2 (And.intro @Op.operands.eq_3 (And.intro @Op.operands.eq_4 (And.intro @Op.operands.eq_5 (And.intro @Op.operands.eq_6 (And.intro @Op.operands.eq_7 (And.intro @Op.operands.eq_8 (And.intro @Op.operands.eq_9 (And.intro @Op.operands.eq_10 (And.intro @Op.operands.eq_11 (And.intro @Op.operands.eq_12 (And.intro @Op.operands.eq_13 (And.intro @Op.operands.eq_14 (And.intro @Op.operands.eq_15 (And.intro @Op.operands.eq_16 (And.intro @Op.operands.eq_17 (And.intro @Op.operands.eq_18 (And.intro @Op.operands.eq_19 (And.intro @Op.operands.eq_20 (And.intro @Op.operands.eq_21 (And.intro @Op.operands.eq_22 (And.intro @Op.operands.eq_23 (And.intro @Op.operands.eq_24 (And.intro @Op.operands.eq_25 (And.intro @Op.operands.eq_26 (And.intro @Op.operands.eq_27 (And.intro @Op.operands.eq_28 (And.intro @Op.operands.eq_29 (And.intro @Op.operands.eq_30 (And.intro @Op.operands.eq_31 (And.intro @Op.operands.eq_32 (And.intro @Op.operands.eq_33 (And.intro @Op.operands.eq_34 (And.intro @Op.operands.eq_35 (And.intro @Op.operands.eq_36 (And.intro @Op.operands.eq_37 (And.intro @Op.operands.eq_38 (And.intro @Op.operands.eq_39 (And.intro @Op.operands.eq_40 (And.intro @Op.operands.eq_41 (And.intro @Op.operands.eq_42 (And.intro @Op.operands.eq_43 (And.intro @Call.operands.eq_1 (And.intro @SG (And.intro @Array.toList_append.{0} (And.intro @hapB.eq_1 (And.intro @effIds.eq_1 (And.intro @effIds.eq_2 (And.intro @effSet.eq_1 (And.intro @effSet.eq_2 (And.intro @nextFresh.eq_1 (And.intro @nextFresh.eq_2 (And.intro @ard.eq_1 (And.intro @ard.eq_2 (And.intro @ard.eq_3 (And.intro @ard.eq_4 (And.intro @freshOk.eq_1 (And.intro @freshOk.eq_2 (@isUnborn.eq_1))))))))))))))))))))))))))))))))))))))))))))))))))))))))))))))))))))))))) := And.intro @gdq.eq_1 (And.intro @gdq.eq_2 (And.intro @gd0.eq_1 (And.intro @gd0.eq_2 (And.intro @gd1.eq_1 (And.intro @gd1.eq_2 (And.intro @gd2.eq_1 (And.intro @gd2.eq_2 (And.intro @gd3.eq_1 (And.intro @gd3.eq_2 (And.intro @gcond.eq_1 (And.intro @gop.eq_1 (And.intro @gop.eq_2 (And.intro @Op.operands.eq_1 (And.intro @Op.operands.eq_2 (And.intro @Op.operands.eq_3 (And.intro @Op.operands.eq_4 (And.intro @Op.operands.eq_5 (And.intro @Op.operands.eq_6 (And.intro @Op.operands.eq_7 (And.intro @Op.operands.eq_8 (And.intro @Op.operands.eq_9 (And.intro @Op.operands.eq_10 (And.intro @Op.operands.eq_11 (And.intro @Op.operands.eq_12 (And.intro @Op.operands.eq_13 (And.intro @Op.operands.eq_14 (And.intro @Op.operands.eq_15 (And.intro @Op.operands.eq_16 (And.intro @Op.operands.eq_17 (And.intro @Op.operands.eq_18 (And.intro @Op.operands.eq_19 (And.intro @Op.operands.eq_20 (And.intro @Op.operands.eq_21 (And.intro @Op.operands.eq_22 (And.intro @Op.operands.eq_23 (And.intro @Op.operands.eq_24 (And.intro @Op.operands.eq_25 (And.intro @Op.operands.eq_26 (And.intro @Op.operands.eq_27 (And.intro @Op.operands.eq_28 (And.intro @Op.operands.eq_29 (And.intro @Op.operands.eq_30 (And.intro @Op.operands.eq_31 (And.intro @Op.operands.eq_32 (And.intro @Op.operands.eq_33 (And.intro @Op.operands.eq_34 (And.intro @Op.operands.eq_35 (And.intro @Op.operands.eq_36 (And.intro @Op.operands.eq_37 (And.intro @Op.operands.eq_38 (And.intro @Op.operands.eq_39 (And.intro @Op.operands.eq_40 (And.intro @Op.operands.eq_41 (And.intro @Op.operands.eq_42 (And.intro @Op.operands.eq_43 (And.intro @Call.operands.eq_1 (And.intro @SG (And.intro @Array.toList_append.{0} (And.intro @hapB.eq_1 (And.intro @effIds.eq_1 (And.intro @effIds.eq_2 (And.intro @effSet.eq_1 (And.intro @effSet.eq_2 (And.intro @nextFresh.eq_1 (And.intro @nextFresh.eq_2 (And.intro @ard.eq_1 (And.intro @ard.eq_2 (And.intro @ard.eq_3 (And.intro @ard.eq_4 (And.intro @freshOk.eq_1 (And.intro @freshOk.eq_2 (@isUnborn.eq_1))))))))))))))))))))))))))))))))))))))))))))))))))))))))))))))))))))))))
theorem jX : type_of% (And.intro @xq.eq_1 (And.intro @xq.eq_2 (And.intro @xd0.eq_1 (And.intro @xd0.eq_2 (And.intro @xd1.eq_1 (And.intro @xd1.eq_2 (And.intro @xd2.eq_1 (And.intro @xd2.eq_2 (And.intro @xd4.eq_1 (And.intro @xd4.eq_2 (And.intro @xchk.eq_1 (And.intro @gcond.eq_1 (And.intro @gop.eq_1 (And.intro @gop.eq_2 (And.intro @Op.operands.eq_1 (And.intro @Op.operands.eq_2 (And.intro @Op.operands.eq_3 (And.intro @Op.operands.eq_4 (And.intro @Op.operands.eq_5 (And.intro @Op.operands.eq_6 (And.intro @Op.operands.eq_7 (And.intro @Op.operands.eq_8 (And.intro @Op.operands.eq_9 (And.intro @Op.operands.eq_10 (And.intro @Op.operands.eq_11 (And.intro @Op.operands.eq_12 (And.intro @Op.operands.eq_13 (And.intro @Op.operands.eq_14 (And.intro @Op.operands.eq_15 (And.intro @Op.operands.eq_16 (And.intro @Op.operands.eq_17 (And.intro @Op.operands.eq_18 (And.intro @Op.operands.eq_19 (And.intro @Op.operands.eq_20 (And.intro @Op.operands.eq_21 (And.intro @Op.operands.eq_22 (And.intro @Op.operands.eq_23 (And.intro @Op.operands.eq_24 (And.intro @Op.operands.eq_25 (And.intro @Op.operands.eq_26 (And.intro @Op.operands.eq_27 (And.intro @Op.operands.eq_28 (And.intro @Op.operands.eq_29 (And.intro @Op.operands.eq_30 (And.intro @Op.operands.eq_31 (And.intro @Op.operands.eq_32 (And.intro @Op.operands.eq_33 (And.intro @Op.operands.eq_34 (And.intro @Op.operands.eq_35 (And.intro @Op.operands.eq_36 (And.intro @Op.operands.eq_37 (And.intro @Op.operands.eq_38 (And.intro @Op.operands.eq_39 (And.intro @Op.operands.eq_40 (And.intro @Op.operands.eq_41 (And.intro @Op.operands.eq_42 (And.intro @Op.operands.eq_43 (And.intro @Call.operands.eq_1 (And.intro @SG (And.intro @Array.toList_append.{0} (And.intro @hapB.eq_1 (And.intro @effIds.eq_1 (And.intro @effIds.eq_2 (And.intro @effSet.eq_1 (And.intro @effSet.eq_2 (And.intro @nextFresh.eq_1 (And.intro @nextFresh.eq_2 (And.intro @ard.eq_1 (And.intro @ard.eq_2 (And.intro @ard.eq_3 (And.intro @ard.eq_4 (And.intro @freshOk.eq_1 (And.intro @freshOk.eq_2 (And.intro @isUnborn.eq_1 (And.intro @Nat.le_refl (And.intro @decide_true (And.intro @Bool.true_or (And.intro @Bool.or_true (And.intro @List.all_cons.{0} (And.intro @List.all_nil.{0} (@Bool.and_true))))))))))))))))))))))))))))))))))))))))))))))))))))))))))))))))))))))))))))))))) := And.intro @xq.eq_1 (And.intro @xq.eq_2 (And.intro @xd0.eq_1 (And.intro @xd0.eq_2 (And.intro @xd1.eq_1 (And.intro @xd1.eq_2 (And.intro @xd2.eq_1 (And.intro @xd2.eq_2 (And.intro @xd4.eq_1 (And.intro @xd4.eq_2 (And.intro @xchk.eq_1 (And.intro @gcond.eq_1 (And.intro @gop.eq_1 (And.intro @gop.eq_2 (And.intro @Op.operands.eq_1 (And.intro @Op.operands.eq_2 (And.intro @Op.operands.eq_3 (And.intro @Op.operands.eq_4 (And.intro @Op.operands.eq_5 (And.intro @Op.operands.eq_6 (And.intro @Op.operands.eq_7 (And.intro @Op.operands.eq_8 (And.intro @Op.operands.eq_9 (And.intro @Op.operands.eq_10 (And.intro @Op.operands.eq_11 (And.intro @Op.operands.eq_12 (And.intro @Op.operands.eq_13 (And.intro @Op.operands.eq_14 (And.intro @Op.operands.eq_15 (And.intro @Op.operands.eq_16 (And.intro @Op.operands.eq_17 (And.intro @Op.operands.eq_18 (And.intro @Op.operands.eq_19 (And.intro @Op.operands.eq_20 (And.intro @Op.operands.eq_21 (And.intro @Op.operands.eq_22 (And.intro @Op.operands.eq_23 (And.intro @Op.operands.eq_24 (And.intro @Op.operands.eq_25 (And.intro @Op.operands.eq_26 (And.intro @Op.operands.eq_27 (And.intro @Op.operands.eq_28 (And.intro @Op.operands.eq_29 (And.intro @Op.operands.eq_30 (And.intro @Op.operands.eq_31 (And.intro @Op.operands.eq_32 (And.intro @Op.operands.eq_33 (And.intro @Op.operands.eq_34 (And.intro @Op.operands.eq_35 (And.intro @Op.operands.eq_36 (And.intro @Op.operands.eq_37 (And.intro @Op.operands.eq_38 (And.intro @Op.operands.eq_39 (And.intro @Op.operands.eq_40 (And.intro @Op.operands.eq_41 (And.intro @Op.operands.eq_42 (And.intro @Op.operands.eq_43 (And.intro @Call.operands.eq_1 (And.intro @SG (And.intro @Array.toList_append.{0} (And.intro @hapB.eq_1 (And.intro @effIds.eq_1 (And.intro @effIds.eq_2 (And.intro @effSet.eq_1 (And.intro @effSet.eq_2 (And.intro @nextFresh.eq_1 (And.intro @nextFresh.eq_2 (And.intro @ard.eq_1 (And.intro @ard.eq_2 (And.intro @ard.eq_3 (And.intro @ard.eq_4 (And.intro @freshOk.eq_1 (And.intro @freshOk.eq_2 (And.intro @isUnborn.eq_1 (And.intro @Nat.le_refl (And.intro @decide_true (And.intro @Bool.true_or (And.intro @Bool.or_true (And.intro @List.all_cons.{0} (And.intro @List.all_nil.{0} (@Bool.and_true))))))))))))))))))))))))))))))))))))))))))))))))))))))))))))))))))))))))))))))))
theorem jC : type_of% (And.intro @acallR.eq_def (And.intro @acall.eq_1 (And.intro @acall.eq_2 (@awanted.eq_1)))) := And.intro @acallR.eq_def (And.intro @acall.eq_1 (And.intro @acall.eq_2 (@awanted.eq_1)))
theorem jE : type_of% (And.intro @acallR.eq_def (And.intro @acall.eq_1 (And.intro @acall.eq_2 (And.intro @gcond.eq_1 (And.intro @Op.operands.eq_1 (And.intro @Op.operands.eq_2 (And.intro @Op.operands.eq_3 (And.intro @Op.operands.eq_4 (And.intro @Op.operands.eq_5 (And.intro @Op.operands.eq_6 (And.intro @Op.operands.eq_7 (And.intro @Op.operands.eq_8 (And.intro @Op.operands.eq_9 (And.intro @Op.operands.eq_10 (And.intro @Op.operands.eq_11 (And.intro @Op.operands.eq_12 (And.intro @Op.operands.eq_13 (And.intro @Op.operands.eq_14 (And.intro @Op.operands.eq_15 (And.intro @Op.operands.eq_16 (And.intro @Op.operands.eq_17 (And.intro @Op.operands.eq_18 (And.intro @Op.operands.eq_19 (And.intro @Op.operands.eq_20 (And.intro @Op.operands.eq_21 (And.intro @Op.operands.eq_22 (And.intro @Op.operands.eq_23 (And.intro @Op.operands.eq_24 (And.intro @Op.operands.eq_25 (And.intro @Op.operands.eq_26 (And.intro @Op.operands.eq_27 (And.intro @Op.operands.eq_28 (And.intro @Op.operands.eq_29 (And.intro @Op.operands.eq_30 (And.intro @Op.operands.eq_31 (And.intro @Op.operands.eq_32 (And.intro @Op.operands.eq_33 (And.intro @Op.operands.eq_34 (And.intro @Op.operands.eq_35 (And.intro @Op.operands.eq_36 (And.intro @Op.operands.eq_37 (And.intro @Op.operands.eq_38 (And.intro @Op.operands.eq_39 (And.intro @Op.operands.eq_40 (And.intro @Op.operands.eq_41 (And.intro @Op.operands.eq_42 (And.intro @Op.operands.eq_43 (And.intro @Call.operands.eq_1 (And.intro @SG (@Array.toList_append.{0})))))))))))))))))))))))))))))))))))))))))))))))))) := And.intro @acallR.eq_def (And.intro @acall.eq_1 (And.intro @acall.eq_2 (And.intro @gcond.eq_1 (And.intro @Op.operands.eq_1 (And.intro @Op.operands.eq_2 (And.intro @Op.operands.eq_3 (And.intro @Op.operands.eq_4 (And.intro @Op.operands.eq_5 (And.intro @Op.operands.eq_6 (And.intro @Op.operands.eq_7 (And.intro @Op.operands.eq_8 (And.intro @Op.operands.eq_9 (And.intro @Op.operands.eq_10 (And.intro @Op.operands.eq_11 (And.intro @Op.operands.eq_12 (And.intro @Op.operands.eq_13 (And.intro @Op.operands.eq_14 (And.intro @Op.operands.eq_15 (And.intro @Op.operands.eq_16 (And.intro @Op.operands.eq_17 (And.intro @Op.operands.eq_18 (And.intro @Op.operands.eq_19 (And.intro @Op.operands.eq_20 (And.intro @Op.operands.eq_21 (And.intro @Op.operands.eq_22 (And.intro @Op.operands.eq_23 (And.intro @Op.operands.eq_24 (And.intro @Op.operands.eq_25 (And.intro @Op.operands.eq_26 (And.intro @Op.operands.eq_27 (And.intro @Op.operands.eq_28 (And.intro @Op.operands.eq_29 (And.intro @Op.operands.eq_30 (And.intro @Op.operands.eq_31 (And.intro @Op.operands.eq_32 (And.intro @Op.operands.eq_33 (And.intro @Op.operands.eq_34 (And.intro @Op.operands.eq_35 (And.intro @Op.operands.eq_36 (And.intro @Op.operands.eq_37 (And.intro @Op.operands.eq_38 (And.intro @Op.operands.eq_39 (And.intro @Op.operands.eq_40 (And.intro @Op.operands.eq_41 (And.intro @Op.operands.eq_42 (And.intro @Op.operands.eq_43 (And.intro @Call.operands.eq_1 (And.intro @SG (@Array.toList_append.{0})))))))))))))))))))))))))))))))))))))))))))))))))
theorem jO : type_of% (And.intro @aop.eq_1 (And.intro @aop.eq_2 (And.intro @aop.eq_3 (And.intro @aop.eq_4 (And.intro @aop.eq_5 (And.intro @aop.eq_6 (And.intro @aop.eq_7 (And.intro @aop.eq_8 (And.intro @aop.eq_9 (And.intro @aop.eq_10 (And.intro @aop.eq_11 (And.intro @aop.eq_12 (And.intro @aop.eq_13 (And.intro @aop.eq_14 (And.intro @aop.eq_15 (And.intro @aop.eq_16 (And.intro @aop.eq_17 (And.intro @aop.eq_18 (And.intro @aop.eq_19 (And.intro @aop.eq_20 (And.intro @aop.eq_21 (And.intro @aop.eq_22 (And.intro @aop.eq_23 (And.intro @aload.eq_1 (And.intro @aload.eq_2 (And.intro @aload.eq_3 (And.intro @ajust.eq_1 (And.intro @astore.eq_1 (And.intro @astore.eq_2 (And.intro @splice.eq_1 (And.intro @splice.eq_2 (And.intro @afldAddr.eq_1 (And.intro @afld.eq_def (And.intro @aidxAddr.eq_1 (And.intro @aidxAddr.eq_2 (And.intro @aidxAddr.eq_3 (And.intro @aidx.eq_1 (And.intro @aidx.eq_2 (And.intro @abin.eq_1 (And.intro @abin.eq_2 (And.intro @abin.eq_3 (And.intro @abin.eq_4 (And.intro @abin.eq_5 (And.intro @abin.eq_6 (And.intro @abin.eq_7 (And.intro @abin.eq_8 (And.intro @abin.eq_9 (And.intro @abin.eq_10 (And.intro @abin.eq_11 (And.intro @abin.eq_12 (And.intro @abin.eq_13 (And.intro @abin.eq_14 (And.intro @abin.eq_15 (And.intro @abin.eq_16 (And.intro @abin.eq_17 (And.intro @abin.eq_18 (And.intro @abin.eq_19 (And.intro @abin.eq_20 (And.intro @abin.eq_21 (And.intro @abin.eq_22 (And.intro @abin.eq_23 (And.intro @abin.eq_24 (And.intro @abin.eq_25 (And.intro @abin.eq_26 (And.intro @abin.eq_27 (And.intro @abin.eq_28 (And.intro @abin.eq_29 (And.intro @abin.eq_30 (And.intro @aun.eq_1 (And.intro @aun.eq_2 (And.intro @aun.eq_3 (And.intro @abuiltin.eq_1 (And.intro @abuiltin.eq_2 (And.intro @abuiltin.eq_3 (And.intro @abuiltin.eq_4 (And.intro @abuiltin.eq_5 (And.intro @abuild.eq_1 (And.intro @abuild.eq_2 (And.intro @abuildS.eq_1 (And.intro @abuildS.eq_2 (And.intro @aslice.eq_1 (And.intro @aslice.eq_2 (And.intro @aslice.eq_3 (And.intro @aslice.eq_4 (And.intro @aslice.eq_5 (And.intro @abndO.eq_1 (And.intro @abndO.eq_2 (And.intro @abnd.eq_1 (And.intro @abnd.eq_2 (And.intro @amakeSlice.eq_1 (@amakeSlice.eq_2))))))))))))))))))))))))))))))))))))))))))))))))))))))))))))))))))))))))))))))))))))))))))) := And.intro @aop.eq_1 (And.intro @aop.eq_2 (And.intro @aop.eq_3 (And.intro @aop.eq_4 (And.intro @aop.eq_5 (And.intro @aop.eq_6 (And.intro @aop.eq_7 (And.intro @aop.eq_8 (And.intro @aop.eq_9 (And.intro @aop.eq_10 (And.intro @aop.eq_11 (And.intro @aop.eq_12 (And.intro @aop.eq_13 (And.intro @aop.eq_14 (And.intro @aop.eq_15 (And.intro @aop.eq_16 (And.intro @aop.eq_17 (And.intro @aop.eq_18 (And.intro @aop.eq_19 (And.intro @aop.eq_20 (And.intro @aop.eq_21 (And.intro @aop.eq_22 (And.intro @aop.eq_23 (And.intro @aload.eq_1 (And.intro @aload.eq_2 (And.intro @aload.eq_3 (And.intro @ajust.eq_1 (And.intro @astore.eq_1 (And.intro @astore.eq_2 (And.intro @splice.eq_1 (And.intro @splice.eq_2 (And.intro @afldAddr.eq_1 (And.intro @afld.eq_def (And.intro @aidxAddr.eq_1 (And.intro @aidxAddr.eq_2 (And.intro @aidxAddr.eq_3 (And.intro @aidx.eq_1 (And.intro @aidx.eq_2 (And.intro @abin.eq_1 (And.intro @abin.eq_2 (And.intro @abin.eq_3 (And.intro @abin.eq_4 (And.intro @abin.eq_5 (And.intro @abin.eq_6 (And.intro @abin.eq_7 (And.intro @abin.eq_8 (And.intro @abin.eq_9 (And.intro @abin.eq_10 (And.intro @abin.eq_11 (And.intro @abin.eq_12 (And.intro @abin.eq_13 (And.intro @abin.eq_14 (And.intro @abin.eq_15 (And.intro @abin.eq_16 (And.intro @abin.eq_17 (And.intro @abin.eq_18 (And.intro @abin.eq_19 (And.intro @abin.eq_20 (And.intro @abin.eq_21 (And.intro @abin.eq_22 (And.intro @abin.eq_23 (And.intro @abin.eq_24 (And.intro @abin.eq_25 (And.intro @abin.eq_26 (And.intro @abin.eq_27 (And.intro @abin.eq_28 (And.intro @abin.eq_29 (And.intro @abin.eq_30 (And.intro @aun.eq_1 (And.intro @aun.eq_2 (And.intro @aun.eq_3 (And.intro @abuiltin.eq_1 (And.intro @abuiltin.eq_2 (And.intro @abuiltin.eq_3 (And.intro @abuiltin.eq_4 (And.intro @abuiltin.eq_5 (And.intro @abuild.eq_1 (And.intro @abuild.eq_2 (And.intro @abuildS.eq_1 (And.intro @abuildS.eq_2 (And.intro @aslice.eq_1 (And.intro @aslice.eq_2 (And.intro @aslice.eq_3 (And.intro @aslice.eq_4 (And.intro @aslice.eq_5 (And.intro @abndO.eq_1 (And.intro @abndO.eq_2 (And.intro @abnd.eq_1 (And.intro @abnd.eq_2 (And.intro @amakeSlice.eq_1 (@amakeSlice.eq_2))))))))))))))))))))))))))))))))))))))))))))))))))))))))))))))))))))))))))))))))))))))))))
theorem jL : type_of% (And.intro @aload.eq_1 (And.intro @aload.eq_2 (@aload.eq_3))) := And.intro @aload.eq_1 (And.intro @aload.eq_2 (@aload.eq_3))
theorem jN : type_of% (And.intro @true_and (And.intro @and_true (And.intro @LS (And.intro @SS (And.intro @SX (And.intro @HS (And.intro @mkS_cons (And.intro @mkS_nil (And.intro @eq_self' (And.intro @List.map_nil.{0, 0} (And.intro @beq_self_eq_true.{0} (@Nat.succ_ne_self)))))))))))) := And.intro @true_and (And.intro @and_true (And.intro @LS (And.intro @SS (And.intro @SX (And.intro @HS (And.intro @mkS_cons (And.intro @mkS_nil (And.intro @eq_self' (And.intro @List.map_nil.{0, 0} (And.intro @beq_self_eq_true.{0} (@Nat.succ_ne_self)))))))))))
end Go.Abs
namespace Go.Abs
theorem dp_skip {P : Program} {N : Nat} {ops : Array Oper} {Q : Post} {k : Nat} {o : Oper} {l : List Oper} {T : Slots} {G : Nat → Bool} {H : Heap} {r : PV} (hc : gcond ops.toList T G N o = some false)
    (h : DP P N ops Q (k + 1) l (msk (.tup []) (updO T o.dst r) (ugO G o.dst false)) H) : DP P N ops Q k (o :: l) (msk (.tup []) T G) H := by
  intro prev hn
  rw [msk_put_false] at h
  exact dops_skipR [] (fun p hp => .inr ⟨by rw [hn p hp]; simp, by simp⟩) hc (h _ (hn.app _ _))
theorem x1_skip {P : Program} {N : Nat} {ops : Array Oper} {Q : Post} {n0 k m : Nat} {o : Oper} {l : List Oper} {T : Slots} {G : Nat → Bool} {B : Heap} {r : PV} (hc : gcond ops.toList T G N o = some false)
    (h : X1 P N ops Q n0 (k + 1) l (msk (.tup []) (updO T o.dst r) (ugO G o.dst false)) (B ++ List.replicate m .unborn)) : X1 P N ops Q n0 k (o :: l) (msk (.tup []) T G) (B ++ List.replicate m .unborn) := by
  intro prev hn
  rw [msk_put_false] at h
  exact dops_skipR [] (fun p hp => .inr ⟨by rw [hn.noeff p hp]; simp, by simp⟩) hc (h _ (hn.app (by simp)))
/-- Rules for a slice's bounds among operands. -/
theorem jS : (∀ x : Operand, (some x).toArray.toList = [x]) ∧ ((none : Option Operand).toArray.toList = []) ∧ ((none : Option Operand).isNone = true) ∧ (∀ x : Operand, (some x).isNone = false) ∧ (∀ l : List Operand, [] ++ l = l) ∧ (∀ l : List Operand, l ++ [] = l) ∧
    (∀ (x : Operand) (l m : List Operand), (x :: l) ++ m = x :: (l ++ m)) ∧ ((false = true) = False) ∧ (∀ p : Prop, (p ∧ False) = False) ∧ (∀ p : Prop, (False ∧ p) = False) ∧ (∀ (c : Bool) (G : Nat → Bool) (v : Value), gOk c G (.const v) = true) :=
  ⟨fun _ => rfl, rfl, rfl, fun _ => rfl, fun _ => rfl, fun l => List.append_nil l, fun _ _ _ => rfl, by simp, by simp, by simp, fun _ _ _ => rfl⟩
end Go.Abs
namespace Go.Abs
theorem wrap_id' {n : Int} (h0 : -9223372036854775808 ≤ n) (h : n ≤ 9223372036854775807) : IntKind.i64.wrap n = n := by
  simp [IntKind.wrap, IntKind.bits, IntKind.signed]
  omega
section
variable {P : Program} {N nb : Nat} {ops : Array Oper} {Q : Post}
/-- The capacity of a slice that is full. -/
theorem aops_cap {o : Oper} {l : List Oper} {T : Slots} {H : Heap} {x : Operand} {t : TypeId} {es : List PV} (hop : o.op = .call ⟨.builtin .cap, #[x], #[t]⟩) (hx : aev T x = .slice es .full) (hw : awanted ops.toList T N o = some true) (hok : okOpnd N x = true)
    (hte : (telem P t).isSome = true) (h : AOps P N nb ops Q l (updO T o.dst (.int .i64 es.length)) H) : AOps P N nb ops Q (o :: l) T H := by
  refine aops_done hw (fun E a ho hH ht => ?_) h
  have hr := vrel_eval ht x hok
  rw [hx] at hr
  obtain ⟨e, hu⟩ := telem_isSome hte
  obtain ⟨ad, hval⟩ : ∃ ad, a.eval x = .slice ad es.length es.length := by
    generalize a.eval x = y at hr
    cases hr with
    | nils _ _ => exact ⟨none, rfl⟩
    | slice ad len cap sz _ _ vs hlen hcap hmax hsz hc hr ht =>
      have : cap = len := ht
      subst this; subst hlen; exact ⟨some ad, rfl⟩
  refine ⟨E, .int .i64 es.length, .inl ?_, .refl E, ho, hH, .int _ _⟩
  unfold execOp
  rw [hop]
  simp only
  refine (run_builtin (c := ⟨.builtin .cap, #[x], #[t]⟩) (a := a) (E := E) (P := P) (xs := [x]) (ts := [t]) (ty := o.type) rfl rfl rfl (s := Builtin.cap_ #[t] o.type #[a.eval x]) rfl).trans ?_
  simp only [Builtin.cap_, List.getElem?_toArray, List.getElem?_cons_zero, Sem.run_bind, run_under hu, Result.andThen_ok, hval, Sem.run_pure, goInt]
theorem wanted_none {o : Oper} {y : Nat → Option Bool} (h : o.guard = none) : Region.wanted o y = true := by unfold Region.wanted; rw [h]
/-- An empty slice's room: append of a made slice, cut to nothing. -/
theorem aops_grow {o1 o2 o3 o4 : Oper} {l : List Oper} {T : Slots} {H : Heap} {x y s : Nat} {d1 d2 d3 d4 : Nat} {t u : TypeId} {ei : TypeId × TI} {z : PV} {n : Int} (id : Nat) (hid : H[id]? = some .unborn)
    (g1 : o1.guard = none) (g2 : o2.guard = none) (g3 : o3.guard = none) (g4 : o4.guard = none)
    (p1 : o1.op = .call ⟨.builtin .append, #[.tmp x, .tmp y], #[t, u]⟩) (p2 : o2.op = .move (.tmp s)) (p3 : o3.op = .call ⟨.builtin .len, #[.tmp d2], #[t]⟩) (p4 : o4.op = .slice t (.tmp d1) none (some (.tmp d3)) none)
    (e1 : o1.dst = some d1) (e2 : o2.dst = some d2) (e3 : o3.dst = some d3) (e4 : o4.dst = some d4)
    (hd : d1 ≠ d2 ∧ d1 ≠ d3 ∧ d2 ≠ d3 ∧ s ≠ d1 ∧ x < N ∧ y < N ∧ s < N ∧ d1 < N ∧ d2 < N ∧ d3 < N)
    (hx : T x = .slice [] .full) (hy : T y = .int .i64 n) (hs : T s = .slice [] .full) (hn : 0 < n) (hnb : n * ei.2.bytes ≤ 2 ^ 47) (hnm : n ≤ maxLen)
    (hte : telem P t = some ei) (htu : tint P u = some .i64) (hz : tzero P ei.1 = some z) (hzf : z.fits ei.2 = true) (hsz : 0 < ei.2.sz)
    (h : AOps P N nb ops Q l (upd (upd (upd (upd T d1 .junk) d2 (.slice [] .full)) d3 (.int .i64 0)) d4 (.slice [] (.tok id))) (H.set id (.buf 0 ei.2.sz))) : AOps P N nb ops Q (o1 :: o2 :: o3 :: o4 :: l) T H := by
  obtain ⟨q1, q2, q3, q4, q5, q6, q7, q8, q9, q10⟩ := hd
  obtain ⟨e, i⟩ := ei
  obtain ⟨h1, h2⟩ := telem_some hte
  obtain ⟨dd, f, h3, h4, rfl⟩ := tinfo_some h2
  obtain ⟨f', zv, h5, h6, rfl⟩ := tzero_some hz
  simp only at h5 hzf hnb hsz h
  rw [h4] at h5; cases h5
  obtain ⟨hzs, hzj⟩ := PV.fits_spec hzf
  simp only at hzs
  have hue : P.underlying u = some (.int .i64) := by
    unfold tint at htu
    split at htu
    · rename_i k hq; cases htu; exact hq
    · cases htu
  intro E a ho hH ht
  subst hH
  obtain ⟨zc1, zc2⟩ := (vrel_ofConst E.view zv).not_junk_cells hzj
  have hzv : zv.cells.size = f.size := zc1.trans hzs
  have full : ∀ v, VRel E.view v (.slice [] .full) → ∃ ad, v = .slice ad 0 0 := fun v hv => by
    cases hv with
    | nils _ _ => exact ⟨none, rfl⟩
    | slice ad len cap sz _ _ vs hlen hcap hmax hsz' hc hr ht =>
      have : cap = len := ht
      subst this; simp at hlen; subst hlen; exact ⟨some ad, rfl⟩
  have rx := ht.rel x q5
  have rs := ht.rel s q7
  have ry := ht.rel y q6
  rw [hx] at rx; rw [hs] at rs; rw [hy] at ry
  obtain ⟨adx, vx⟩ := full _ rx
  obtain ⟨ads, vs⟩ := full _ rs
  have vy := ry.int_inv
  have vx' : a.eval (.tmp x) = .slice adx 0 0 := vx
  have vy' : a.eval (.tmp y) = .int .i64 n := vy
  obtain ⟨m, rfl⟩ : ∃ m : Nat, n = m := ⟨n.toNat, by omega⟩
  have em : maxLen = 9223372036854775807 := by decide
  have hw : IntKind.i64.wrap (m : Int) = m := wrap_id' (by omega) (by omega)
  obtain ⟨c, hc6, hc7, hc8⟩ := run_choose_cap (P := P) (w := E.w) m 0 e
  have hcm : c ≤ maxLen := by
    have := hc8 (by have e2 : maxLen = 2 ^ 63 - 1 := rfl; omega)
    have e2 : maxLen = 2 ^ 63 - 1 := rfl
    omega
  let arr : Array Value := #[] ++ Builtin.zeroCells zv.cells m ++ Builtin.zeroCells zv.cells (c - m)
  have harr : arr.size = c * f.size := by
    have h0 : (#[] : Array Value).size = 0 := rfl
    simp only [arr, Array.size_append, zeroCells_size, hzv, h0, Nat.zero_add]
    rw [← Nat.add_mul]; congr 1; omega
  have hd' := ho.drew
  have hid' : E.drew.H[id]? = some .unborn ∨ ∃ n0, E.drew.H[id]? = some (.buf n0 f.size) ∧ n0 < 0 := .inl hid
  have hle' := Env.newBuf_le (E := E.drew) hd' (n := 0) (sz := f.size) hid' arr e 0
  have hok' := Env.Ok.newBuf (E := E.drew) hd' (n := 0) (sz := f.size) hid' arr e 0
  have hlen := tok_len (E := E.drew) (n := 0) hid'
  have hle := E.drew_le.trans hle'
  generalize hE' : E.drew.newBuf id 0 f.size arr e 0 = E' at hle' hok' hle
  have hH' : E'.H = E.H.set id (.buf 0 f.size) := by rw [← hE']; rfl
  have run1 : (execOp a.eval o1).run P E.w = .ok (.value (.slice (some ⟨E.w.heap.size, 0, none⟩) m c)) E'.w := by
    unfold execOp
    rw [p1]
    simp only
    refine (run_builtin (c := ⟨.builtin .append, #[.tmp x, .tmp y], #[t, u]⟩) (a := a) (E := E) (P := P) (xs := [.tmp x, .tmp y]) (ts := [t, u]) (ty := o1.type) rfl rfl rfl (s := Builtin.append_ #[t, u] o1.type #[a.eval (.tmp x), a.eval (.tmp y)]) rfl).trans ?_
    have hc6' : (choose (.appendCap m 0 e)).run P E.w = .ok c E.drew.w := hc6
    have n0 : ¬ (m : Int) < 0 := by omega
    have n1 : ¬ (m : Int) * f.bytes > 2 ^ 48 := by omega
    have n2 : ¬ m ≤ 0 := by omega
    have n3 : ¬ ((m : Nat) : Int) > IntKind.i64.max := by
      have e1 : IntKind.i64.max = 9223372036854775807 := by decide
      have e2 : maxLen = 9223372036854775807 := by decide
      rw [e1]; omega
    have n4 : ¬ Builtin.nextslicecap m 0 * f.bytes > 2 ^ 48 := by
      have := nextslicecap_le m 0 (by omega)
      have := Nat.mul_le_mul_right f.bytes this
      rw [Nat.mul_assoc] at this
      have hb : m * f.bytes ≤ 2 ^ 47 := by exact_mod_cast hnb
      omega
    have n5 : ¬ m * f.size = 0 := by
      intro h0
      rcases Nat.mul_eq_zero.1 h0 with h0 | h0 <;> omega
    have hfirst : (Builtin.firstCells f.size 0 (.slice adx 0 0)).run P E.drew.w = .ok #[] E.drew.w := by
      cases adx <;> simp only [Builtin.firstCells, Nat.zero_mul, loadCells, loadCellsFrom, Sem.run_pure]
    have hai : (asInt (.int .i64 (m : Int))).run P E.w = .ok (m : Int) E.w := rfl
    simp only [Builtin.append_, List.getElem?_toArray, List.getElem?_cons_zero, List.getElem?_cons_succ, Sem.run_bind, run_under h1, run_size h4, run_under hue, Result.andThen_ok, Sem.run_pure, vx', vy', hai, hw, n0, n1, n2, n3, n4, n5, if_true, if_false, run_tinfo h4,
      Int.toNat_natCast, Nat.zero_add, Bool.not_true, Bool.false_eq_true, run_zero h4 h6, hc6', run_ask, hfirst, Go.newRow, run_newObj, false_and]
    rw [← hE']
    rfl
  have hb : E'.tb id = some E.w.heap.size := by rw [← hE']; simp [Env.newBuf, Env.drew]
  have hk : E'.κ E.w.heap.size = .buf 0 arr.size := by rw [← hE']; simp only [Env.newBuf]; exact if_pos rfl
  have rel0 : VRel E'.view (.slice (some ⟨E.w.heap.size, 0, none⟩) 0 c) (.slice [] (.tok id)) := by
    refine .slice _ 0 c f.size [] _ (fun _ _ => undef) rfl (Nat.zero_le _) hcm (fun i h => absurd h (by simp)) (fun i j h => absurd h (by omega)) (fun i j h => absurd h (by simp)) ⟨⟨.buf 0 f.size, by rw [hH']; exact List.getElem?_set_self hlen, by simp⟩, fun t' ht' => ?_⟩
    have hg : E'.H[id]? = some (.buf 0 f.size) := by rw [hH']; exact List.getElem?_set_self hlen
    simp only [Env.view, hg, hb, hk, Option.bind_some, Option.some.injEq] at ht'
    subst ht'
    refine ⟨Nat.le_refl _, fun _ => .inr ⟨E.w.heap.size, 0, arr.size, 0, rfl, rfl, by simp, by rw [harr]; simp⟩⟩
  refine wpList_cons (wanted_none g1) ?_
  unfold Oper.wp
  rw [run1]
  show wpList P ops _ _ (a.put o1.dst _) E'.w
  rw [e1]
  have ht1 : TRel E'.view N (a.put (some d1) (.slice (some ⟨E.w.heap.size, 0, none⟩) m c)) (upd T d1 .junk) := (ht.mono hle.view).put (some d1) (.junk _)
  obtain ⟨E2, v2, r2, le2, ok2, hH2, rel2⟩ := aop_sound (o := o2) (P := P) hok' ht1 (by rw [p2]; simp [okOp, Op.operands, okOpnd, q7]) (mt := false) (fresh := 0) (v := .slice [] .full) (eff := none) (by rw [p2]; simp only [aop, aev, upd, if_neg q4, hs]) (by intro ob h; cases h)
  have ht2 := ((ht1.mono le2.view).put (some d2) rel2)
  obtain ⟨E3, v3, r3, le3, ok3, hH3, rel3⟩ := aop_sound (o := o3) (P := P) ok2 ht2 (by rw [p3]; simp [okOp, Op.operands, Call.operands, okOpnd, q9]) (mt := false) (fresh := 0) (v := .int .i64 0) (eff := none) (by rw [p3]; simp [aop, abuiltin, aev, updO, upd, hte]) (by intro ob h; cases h)
  have ht3 := ((ht2.mono le3.view).put (some d3) rel3)
  have key : ∀ (o : Oper) (E1 E2 : Env) (a : Act) (v : Value) (d : Nat) (l : List Oper) (Q2 : Exit → Act → World → Prop), o.guard = none → o.dst = some d → ((execOp a.eval o).run P E1.w = .ok (.value v) E2.w ∨ ((execOp a.eval o).run P E1.w = .ok .skip E2.w ∧ v = undef)) → wpList P ops Q2 l (a.put (some d) v) E2.w → wpList P ops Q2 (o :: l) a E1.w := by
    intro o E1 E2 a v d l Q2 hg hd hr hn
    refine wpList_cons (wanted_none hg) ?_
    unfold Oper.wp
    rcases hr with hr | ⟨hr, rfl⟩
    · rw [hr]; show wpList P ops _ _ (a.put o.dst _) _; rw [hd]; exact hn
    · rw [hr]; show wpList P ops _ _ (a.put o.dst _) _; rw [hd]; exact hn
  refine key o2 E' E2 _ v2 d2 _ _ g2 e2 r2 ?_
  refine key o3 E2 E3 _ v3 d3 _ _ g3 e3 r3 ?_
  have hv3 : v3 = .int .i64 0 := rel3.int_inv
  have hsz3 := ht3.size
  have gd1 : ∀ (b : Act) (d : Nat) (v : Value), d < b.tmps.size → (b.put (some d) v).tmps.getD d undef = v := fun b d v h => by
    simp only [Act.put]
    rw [Array.getD_eq_getD_getElem?, Array.getElem?_setIfInBounds_self_of_lt h]; rfl
  have gd2 : ∀ (b : Act) (d d' : Nat) (v : Value), d ≠ d' → (b.put (some d) v).tmps.getD d' undef = b.tmps.getD d' undef := fun b d d' v h => by
    simp only [Act.put]
    rw [Array.getD_eq_getD_getElem?, Array.getElem?_setIfInBounds_ne h, ← Array.getD_eq_getD_getElem?]
  have run4 : (execOp (Act.eval (((a.put (some d1) (.slice (some ⟨E.w.heap.size, 0, none⟩) m c)).put (some d2) v2).put (some d3) v3)) o4).run P E3.w = .ok (.value (.slice (some ⟨E.w.heap.size, 0, none⟩) 0 c)) E3.w := by
    unfold execOp
    rw [p4]
    have f1 : (((a.put (some d1) (.slice (some ⟨E.w.heap.size, 0, none⟩) m c)).put (some d2) v2).put (some d3) v3).eval (.tmp d1) = .slice (some ⟨E.w.heap.size, 0, none⟩) m c := by
      show Array.getD _ d1 undef = _
      rw [gd2 _ _ _ _ (Ne.symm q2), gd2 _ _ _ _ (Ne.symm q1), gd1 _ _ _ (by rw [ht.size]; exact q8)]
    have f2 : (((a.put (some d1) (.slice (some ⟨E.w.heap.size, 0, none⟩) m c)).put (some d2) v2).put (some d3) v3).eval (.tmp d3) = .int .i64 0 := by
      show Array.getD _ d3 undef = _
      rw [gd1 _ _ _ (by rw [ht2.size]; exact q10), hv3]
    simp only [Option.map_none, Option.map_some, f1, f2]
    have hb0 : (Instr.sliceBounds true m c none (some (.int .i64 0)) none).run P E3.w = .ok (0, 0, c) E3.w := by
      simp [Instr.sliceBounds, Instr.sliceBound, asInt, asIntOf, Sem.run_bind]
    simp only [Instr.sliceAt, Instr.slice, Sem.run_bind, run_under h1, Result.andThen_ok, hb0, run_size h4, Sem.run_pure, Nat.sub_zero, Nat.sub_self]
    have ha0 : ∀ ad : Addr, ad.add 0 = ad := add_zero'
    split <;> simp [ha0]
  refine key o4 E3 E3 _ _ d4 _ _ g4 e4 (.inl run4) ?_
  have ht4 := ht3.put (some d4) ((rel0.mono le2.view).mono le3.view)
  have hfin := h E3 _ ok3 (by rw [hH3, hH2]; exact hH') ht4
  exact wpList_mono (fun e a w hl => lift_mono (((hle.trans le2).trans le3).leN nb) (fun _ _ _ q => q) hl) l _ _ hfin
end
end Go.Abs
namespace Go.Abs
section
variable {P : Program} {N nb : Nat} {ops : Array Oper} {Q : Post}
/-- An append to an empty slice without room: what it makes is taken as a row that may change. -/
theorem aops_appendM {o : Oper} {l : List Oper} {T : Slots} {H : Heap} {x y : Operand} {t u : TypeId} {ei : TypeId × TI} {z : PV} {xs : List PV} {tl : Tail} (id : Nat) (hid : H[id]? = some .unborn) (hw : awanted ops.toList T N o = some true)
    (hop : o.op = .call ⟨.builtin .append, #[x, y], #[t, u]⟩) (okx : okOpnd N x = true) (oky : okOpnd N y = true) (hx : aev T x = .slice [] .full) (hy : aev T y = .slice xs tl) (hne : xs ≠ [])
    (hb : xs.length * ei.2.bytes ≤ 2 ^ 47) (hm : xs.length ≤ maxLen) (hxs : ∀ e ∈ xs, e.cells.length = ei.2.sz) (hsz : 0 < ei.2.sz)
    (hte : telem P t = some ei) (htu : (telem P u).isSome = true) (hz : tzero P ei.1 = some z) (hzf : z.fits ei.2 = true)
    (h : ∀ (c : Nat) (rest : List PV), xs.length ≤ c → c ≤ maxLen → rest = (List.replicate (c - xs.length) z.cells).flatten → AOps P N nb ops Q l (updO T o.dst (.msl id 0 xs.length c)) (H.set id (.row (flatE xs ++ rest)))) : AOps P N nb ops Q (o :: l) T H := by
  intro E a ho hH ht
  subst hH
  obtain ⟨e, i⟩ := ei
  obtain ⟨h1, h2⟩ := telem_some hte
  obtain ⟨dd, f, h3, h4, rfl⟩ := tinfo_some h2
  obtain ⟨f', zv, h5, h6, rfl⟩ := tzero_some hz
  simp only at h5 hzf hb hxs hsz
  rw [h4] at h5; cases h5
  obtain ⟨hzs, hzj⟩ := PV.fits_spec hzf
  simp only at hzs
  obtain ⟨zc1, zc2⟩ := (vrel_ofConst E.view zv).not_junk_cells hzj
  have hzv : zv.cells.size = f.size := zc1.trans hzs
  obtain ⟨eu, hue⟩ := telem_isSome htu
  have hvx := vrel_eval ht x okx
  have hvy := vrel_eval ht y oky
  rw [hx] at hvx; rw [hy] at hvy
  obtain ⟨adx, vx⟩ : ∃ ad, a.eval x = .slice ad 0 0 := by
    generalize a.eval x = w at hvx
    cases hvx with
    | nils _ _ => exact ⟨none, rfl⟩
    | slice ad len cap sz _ _ vs hlen hcap hmax hsz' hc hr ht =>
      have : cap = len := ht
      subst this; simp at hlen; subst hlen; exact ⟨some ad, rfl⟩
  have em : maxLen = 9223372036854775807 := by decide
  have hxl : 0 < xs.length := List.length_pos_iff.2 hne
  obtain ⟨c, hc6, hc7, hc8⟩ := run_choose_cap (P := P) (w := E.w) xs.length 0 e
  have hcm : c ≤ maxLen := by
    have := hc8 (by have e2 : maxLen = 2 ^ 63 - 1 := rfl; omega)
    have e2 : maxLen = 2 ^ 63 - 1 := rfl
    omega
  have hd := ho.drew
  obtain ⟨arrx, r1, r2, ady, capy, vy, hcy1, hcy2, _⟩ := run_first (P := P) (E := E.drew) hvy hxs
  have hxsz : arrx.size = xs.length * f.size := by rw [r2.1, flatE_length xs hxs]
  have hzl := rl_zero (V := E.view) zv hzj (c - xs.length)
  have hzl2 : RL E.view (Builtin.zeroCells zv.cells (c - xs.length)) ((List.replicate (c - xs.length) (ofConst zv).cells).flatten) := by
    have := hzl
    rw [flatE_replicate] at this
    exact this
  let arr : Array Value := #[] ++ arrx ++ Builtin.zeroCells zv.cells (c - xs.length)
  have hrl : RL E.drew.view arr (flatE xs ++ (List.replicate (c - xs.length) (ofConst zv).cells).flatten) := by
    have := rl_append (V := E.drew.view) (a1 := arrx) (c1 := flatE xs) r2 hzl2
    simpa [arr] using this
  have hle' := Env.newRow_le (E := E.drew) hd (id := id) hid arr e (flatE xs ++ (List.replicate (c - xs.length) (ofConst zv).cells).flatten)
  have hok' := Env.Ok.newRow (E := E.drew) hd (id := id) hid arr e (flatE xs ++ (List.replicate (c - xs.length) (ofConst zv).cells).flatten) hrl.1 hrl.2
  have hlen := len_of_get hid
  have run1 : (execOp a.eval o).run P E.w = .ok (.value (.slice (some ⟨E.w.heap.size, 0, none⟩) xs.length c)) (E.drew.newRow id arr e (flatE xs ++ (List.replicate (c - xs.length) (ofConst zv).cells).flatten)).w := by
    unfold execOp
    rw [hop]
    simp only
    refine (run_builtin (c := ⟨.builtin .append, #[x, y], #[t, u]⟩) (a := a) (E := E) (P := P) (xs := [x, y]) (ts := [t, u]) (ty := o.type) rfl rfl rfl (s := Builtin.append_ #[t, u] o.type #[a.eval x, a.eval y]) rfl).trans ?_
    have hc6' : (choose (.appendCap xs.length 0 e)).run P E.w = .ok c E.drew.w := hc6
    have n2 : ¬ xs.length ≤ 0 := by omega
    have n3 : ¬ ((xs.length : Nat) : Int) > IntKind.i64.max := by
      have e1 : IntKind.i64.max = 9223372036854775807 := by decide
      rw [e1]; omega
    have n4 : ¬ Builtin.nextslicecap xs.length 0 * f.bytes > 2 ^ 48 := by
      have := nextslicecap_le xs.length 0 (by omega)
      have := Nat.mul_le_mul_right f.bytes this
      rw [Nat.mul_assoc] at this
      omega
    have hfirst : (Builtin.firstCells f.size 0 (.slice adx 0 0)).run P E.drew.w = .ok #[] E.drew.w := by
      cases adx <;> simp only [Builtin.firstCells, Nat.zero_mul, loadCells, loadCellsFrom, Sem.run_pure]
    have r1' : (Builtin.firstCells f.size xs.length (.slice ady xs.length capy)).run P E.drew.w = .ok arrx E.drew.w := by rw [← vy]; exact r1
    simp only [Builtin.append_, List.getElem?_toArray, List.getElem?_cons_zero, List.getElem?_cons_succ, Sem.run_bind, run_under h1, run_size h4, run_under hue, Result.andThen_ok, Sem.run_pure, vx, vy, Builtin.lenOf, n2, n3, n4, if_true, if_false, run_tinfo h4,
      Nat.zero_add, Bool.not_false, Bool.false_eq_true, run_zero h4 h6, hc6', run_ask, hfirst, r1', Go.newRow, run_newObj, false_and]
    rfl
  have hv : VRel (E.drew.newRow id arr e (flatE xs ++ (List.replicate (c - xs.length) (ofConst zv).cells).flatten)).view (.slice (some ⟨E.w.heap.size, 0, none⟩) xs.length c) (.msl id 0 xs.length c) := by
    have := VRel.msl (V := (E.drew.newRow id arr e (flatE xs ++ (List.replicate (c - xs.length) (ofConst zv).cells).flatten)).view) id 0 xs.length c
      ⟨.row _, by simp only [Env.newRow]; exact List.getElem?_set_self (len_of_get hid), by simp⟩ hcm
    simpa [Env.view, Env.newRow, Env.drew] using this
  refine wpList_cons (awanted_sound ht hw) ?_
  unfold Oper.wp
  rw [run1]
  show wpList P ops _ _ (a.put o.dst _) _
  have hn := h c _ hc7 hcm rfl _ _ hok' rfl ((ht.mono (E.drew_le.trans hle').view).put o.dst hv)
  exact wpList_mono (fun e a w hl => lift_mono ((E.drew_le.trans hle').leN nb) (fun _ _ _ q => q) hl) l _ _ hn
end
end Go.Abs
namespace Go.Abs
/-! A mutable row of a call's own, held by a box, that from here on grows as a plain slice. -/

/-- The box 'ib' holds the slice over the row 'id'. -/
def Env.grw (E : Env) (H1 : Heap) (ib id k cp sz : Nat) (es : List PV) : Env :=
  { E with κ := fun b => if b = E.ρ id then .buf (k * sz) (cp * sz) else E.κ b, ρ := fun i => if i = H1.length then E.ρ ib else E.ρ i,
           tb := fun i => if i = H1.length + 1 then some (E.ρ id) else E.tb i, H := H1 ++ [.row [.slice (es.take k) (.tok (H1.length + 1))], .buf k sz] }

section
variable {E : Env} (ho : E.Ok) {H1 L : Heap} (hE : E.H = H1 ++ L) {ib id k cp sz : Nat} {es : List PV}
  (hib : H1.length ≤ ib) (hid : H1.length ≤ id) (hne : ib ≠ id) (hbox : E.H[ib]? = some (.row [.msl id 0 k cp])) (hrow : E.H[id]? = some (.row (flatE es))) (hk : k ≤ es.length) (hcp : es.length = cp)
  (hes : ∀ e ∈ es, e.cells.length = sz) (hb : ∀ e ∈ es, ∀ x ∈ e.cells, Bel H1.length x)

include ho hrow in
theorem Env.grw_cell (a : Addr) (v : Value) (h : E.view.cell a = some v) : (E.grw H1 ib id k cp sz es).view.cell a = some v := by
  obtain ⟨_, _, _, _, _, h4⟩ := ho.rows id _ hrow
  simp only [Env.view] at h ⊢
  split at h
  · rename_i hs
    have hne : a.block ≠ E.ρ id := by rintro e; rw [e, h4] at hs; cases hs
    have : ((E.grw H1 ib id k cp sz es).κ a.block).stable a.off = true := by
      simp only [Env.grw, if_neg hne]; exact hs
    rw [if_pos this]; exact h
  · cases h

include hE in
theorem Env.grw_get {i : Nat} (hi : i < H1.length) : (E.grw H1 ib id k cp sz es).H[i]? = E.H[i]? := by
  show (H1 ++ _)[i]? = _
  rw [cut_get hE hi, List.getElem?_append_left hi]

include ho hE hrow in
theorem Env.grw_tok {i : Nat} (hi : i < H1.length) {t : TokI} (h : (E.grw H1 ib id k cp sz es).view.tok i = some t) : E.view.tok i = some t := by
  have e1 := Env.grw_get (ib := ib) (id := id) (k := k) (cp := cp) (sz := sz) (es := es) hE hi
  obtain ⟨_, _, _, _, _, h4⟩ := ho.rows id _ hrow
  have e2 : (E.grw H1 ib id k cp sz es).tb i = E.tb i := by simp only [Env.grw]; rw [if_neg (by omega)]
  simp only [Env.view, e1, e2] at h ⊢
  split at h
  · rename_i n s hx
    rw [← h]
    cases htb : E.tb i with
    | none => rfl
    | some b =>
      obtain ⟨arr, elem, pos, _, h6⟩ := ho.bufs i n s b hx htb
      have hne : b ≠ E.ρ id := by rintro e; rw [e, h4] at h6; cases h6
      simp only [Option.bind_some]
      rw [show (E.grw H1 ib id k cp sz es).κ b = E.κ b by simp only [Env.grw, if_neg hne]]
  · cases h

include ho hE hrow in
theorem Env.grw_rel {v : Value} {p : PV} (h : VRel E.view v p) (hp : Bel H1.length p) : VRel (E.grw H1 ib id k cp sz es).view v p := by
  refine VRel.cut (V := E.view) (V' := (E.grw H1 ib id k cp sz es).view) (n := H1.length) (Env.grw_cell ho hrow) (fun i hi hb => ⟨?_, ?_, fun t ht => Env.grw_tok ho hE hrow hi ht⟩) h hp
  · obtain ⟨o, h1, h2⟩ := hb
    exact ⟨o, by rw [Env.grw_get hE hi]; exact h1, h2⟩
  · show (if i = H1.length then _ else _) = _
    rw [if_neg (by omega)]; rfl

include ho hE hbox hrow in
theorem Env.grw_leN {n : Nat} (hn : n ≤ H1.length) : E.leN n (E.grw H1 ib id k cp sz es) := by
  refine ⟨rfl, rfl, rfl, Nat.le_refl _, fun b hb h1 => ⟨?_, rfl⟩, Env.grw_cell ho hrow, fun i hi hb => ⟨?_, ?_, fun t' ht => ⟨t', Env.grw_tok ho hE hrow (by omega) ht, .inl rfl⟩⟩, fun b hb hx => ?_⟩
  · simp only [Env.grw]
    rw [if_neg]
    rintro rfl
    exact h1 (.inl ⟨id, _, hrow, rfl⟩)
  · obtain ⟨o, h1, h2⟩ := hb
    exact ⟨o, by rw [Env.grw_get hE (by omega)]; exact h1, h2⟩
  · show (if i = H1.length then _ else _) = _
    rw [if_neg (by omega)]; rfl
  · have hobj : ∀ i ky, (E.grw H1 ib id k cp sz es).H[i]? = some (.obj ky) → E.H[i]? = some (.obj ky) ∧ (E.grw H1 ib id k cp sz es).ρ i = E.ρ i := by
      intro i ky h1
      by_cases hi : i < H1.length
      · rw [Env.grw_get hE hi] at h1
        refine ⟨h1, ?_⟩
        show (if i = H1.length then _ else _) = _
        rw [if_neg (by omega)]
      · exfalso
        have : (E.grw H1 ib id k cp sz es).H[i]? = ([.row [.slice (es.take k) (.tok (H1.length + 1))], .buf k sz] : Heap)[i - H1.length]? := by
          show (H1 ++ _)[i]? = _
          rw [List.getElem?_append_right (by omega)]
        rw [this] at h1
        match hd : i - H1.length, h1 with
        | 0, h1 => cases h1
        | 1, h1 => cases h1
        | j + 2, h1 => cases h1
    rcases hx with ⟨i, cs, h1, h2⟩ | ⟨i, m, s, h1, h2⟩ | hx
    rotate_left 2
    · exact .inr (.inr (Env.ownsObj_of hobj hx))
    · left
      by_cases hi : i < H1.length
      · rw [Env.grw_get hE hi] at h1
        refine ⟨i, cs, h1, ?_⟩
        rw [← h2]; show _ = (if i = H1.length then _ else _)
        rw [if_neg (by omega)]
      · by_cases he : i = H1.length
        · subst he
          refine ⟨ib, _, hbox, ?_⟩
          rw [← h2]; show _ = (if H1.length = H1.length then _ else _)
          rw [if_pos rfl]
        · exfalso
          have : (E.grw H1 ib id k cp sz es).H[i]? = ([.row [.slice (es.take k) (.tok (H1.length + 1))], .buf k sz] : Heap)[i - H1.length]? := by
            show (H1 ++ _)[i]? = _
            rw [List.getElem?_append_right (by omega)]
          rw [this] at h1
          match hd : i - H1.length, h1 with
          | 0, _ => omega
          | 1, h1 => cases h1
          | j + 2, h1 => cases h1
    · by_cases hi : i < H1.length
      · right; left
        rw [Env.grw_get hE hi] at h1
        refine ⟨i, m, s, h1, ?_⟩
        rw [← h2]; show _ = (if i = H1.length + 1 then _ else _)
        rw [if_neg (by omega)]
      · left
        have : (E.grw H1 ib id k cp sz es).H[i]? = ([.row [.slice (es.take k) (.tok (H1.length + 1))], .buf k sz] : Heap)[i - H1.length]? := by
          show (H1 ++ _)[i]? = _
          rw [List.getElem?_append_right (by omega)]
        rw [this] at h1
        match hd : i - H1.length, h1 with
        | 0, h1 => cases h1
        | 1, _ =>
          have e : i = H1.length + 1 := by omega
          have h2 : (if i = H1.length + 1 then some (E.ρ id) else E.tb i) = some b := h2
          rw [if_pos e] at h2
          exact ⟨id, _, hrow, by cases h2; rfl⟩
        | j + 2, h1 => cases h1

include ho hE hrow hk hcp hes hb in
theorem Env.grw_msl {v : Value} (h : VRel E.view v (.msl id 0 k cp)) : VRel (E.grw H1 ib id k cp sz es).view v (.slice (es.take k) (.tok (H1.length + 1))) := by
  obtain ⟨arr, elem, h1, h2, h3, h4⟩ := ho.rows id _ hrow
  cases h with
  | msl _ _ _ _ hbn hm =>
    have hlenf := flatE_length es hes
    have hκ : (E.grw H1 ib id k cp sz es).κ (E.ρ id) = .buf (k * sz) (cp * sz) := by simp only [Env.grw, if_pos]
    let vs : Nat → Nat → Value := fun i j => arr.getD (i * sz + j) undef
    have hbound : ∀ i j, i < k → j < sz → i * sz + j < k * sz := by
      intro i j hi hj
      have : (i + 1) * sz ≤ k * sz := Nat.mul_le_mul_right _ (by omega)
      rw [Nat.add_mul] at this; omega
    have hks : k * sz ≤ es.length * sz := Nat.mul_le_mul_right _ hk
    have hcell2 : ∀ i j, i < k → j < sz → (E.grw H1 ib id k cp sz es).view.cell ⟨E.ρ id, i * sz + j, none⟩ = some (vs i j) := by
      intro i j hi hj
      have hbd := hbound i j hi hj
      simp only [Env.view, hκ, Kind.stable, decide_eq_true_eq, if_pos hbd]
      show E.w.cell? _ = _
      rw [cell_row h1]
      show _ = some (arr.getD _ undef)
      rw [Array.getD_eq_getD_getElem?, Array.getElem?_eq_getElem (by omega)]; rfl
    have hadd : ∀ n, (⟨E.ρ id, 0, none⟩ : Addr).add n = ⟨E.ρ id, n, none⟩ := by
      intro n; unfold Addr.add; split
      · rename_i e; subst e; rfl
      · simp
    have hget1 : (E.grw H1 ib id k cp sz es).H[H1.length + 1]? = some (.buf k sz) := by
      show (H1 ++ _)[H1.length + 1]? = _
      rw [List.getElem?_append_right (by omega), Nat.add_sub_cancel_left]; rfl
    have htake : (es.take k).length = k := by rw [List.length_take]; omega
    refine .slice ⟨E.ρ id, 0, none⟩ k cp sz (es.take k) _ vs htake (by omega) hm ?_ ?_ ?_ ⟨⟨_, hget1, by simp⟩, fun t ht => ?_⟩
    · intro i hi
      rw [List.getElem_take]
      exact hes _ (List.getElem_mem _)
    · intro i j hi hj
      rw [hadd]; exact hcell2 i j hi hj
    · intro i j hi hj
      rw [List.length_take] at hi
      have hi' : i < es.length := by omega
      have hik : i < k := by omega
      have hjs : j < sz := by rw [List.getElem_take] at hj; rwa [hes _ (List.getElem_mem _)] at hj
      have hlt := hbound i j hik hjs
      have hlt' : i * sz + j < (flatE es).length := by rw [hlenf]; omega
      have hget := flatE_get es hes i j hi' hjs
      have hr := h3 (i * sz + j) hlt'
      rw [List.getElem?_eq_getElem hlt', List.getElem?_eq_getElem (by rw [hes _ (List.getElem_mem _)]; exact hjs)] at hget
      have hget' := Option.some.inj hget
      have hr2 := Env.grw_rel (ib := ib) (id := id) (k := k) (cp := cp) (sz := sz) (es := es) ho hE hrow hr (by
        rw [hget']; exact hb _ (List.getElem_mem _) _ (List.getElem_mem _))
      rw [hget'] at hr2
      simp only [List.getElem_take]
      exact hr2
    · simp only [Env.view, hget1] at ht
      have e2 : (E.grw H1 ib id k cp sz es).tb (H1.length + 1) = some (E.ρ id) := by simp only [Env.grw, if_pos]
      rw [e2] at ht
      simp only [Option.bind_some, hκ, Option.some.injEq] at ht
      subst ht
      exact ⟨by simp, fun _ => .inr ⟨_, _, _, 0, rfl, rfl, by simp, by simp⟩⟩

include ho hE hib hid hne hbox hrow hk hcp hes hb in
theorem Env.Ok.grw (hb1 : HBel H1.length H1) : (E.grw H1 ib id k cp sz es).Ok := by
  have hg : ∀ {i : Nat} {o : AObj}, i < H1.length → (E.grw H1 ib id k cp sz es).H[i]? = some o → E.H[i]? = some o := fun hi h => by rw [← Env.grw_get hE hi]; exact h
  have hρ : ∀ i, i < H1.length → (E.grw H1 ib id k cp sz es).ρ i = E.ρ i := fun i hi => by show (if i = H1.length then _ else _) = _; rw [if_neg (by omega)]
  have hρ0 : (E.grw H1 ib id k cp sz es).ρ H1.length = E.ρ ib := by show (if H1.length = H1.length then _ else _) = _; rw [if_pos rfl]
  have htb : ∀ i, i < H1.length → (E.grw H1 ib id k cp sz es).tb i = E.tb i := fun i hi => by show (if i = H1.length + 1 then _ else _) = _; rw [if_neg (by omega)]
  have htb1 : (E.grw H1 ib id k cp sz es).tb (H1.length + 1) = some (E.ρ id) := by show (if H1.length + 1 = H1.length + 1 then _ else _) = _; rw [if_pos rfl]
  have hκ : ∀ b, b ≠ E.ρ id → (E.grw H1 ib id k cp sz es).κ b = E.κ b := fun b hb => by simp only [Env.grw, if_neg hb]
  have hout : ∀ i o, ¬ i < H1.length → (E.grw H1 ib id k cp sz es).H[i]? = some o → (i = H1.length ∧ o = .row [.slice (es.take k) (.tok (H1.length + 1))]) ∨ (i = H1.length + 1 ∧ o = .buf k sz) := by
    intro i o hi h
    have : (E.grw H1 ib id k cp sz es).H[i]? = ([.row [.slice (es.take k) (.tok (H1.length + 1))], .buf k sz] : Heap)[i - H1.length]? := by
      show (H1 ++ _)[i]? = _
      rw [List.getElem?_append_right (by omega)]
    rw [this] at h
    match hd : i - H1.length, h with
    | 0, h => cases h; exact .inl ⟨by omega, rfl⟩
    | 1, h => cases h; exact .inr ⟨by omega, rfl⟩
    | j + 2, h => cases h
  obtain ⟨arrI, elemI, i1, i2, i3, i4⟩ := ho.rows id _ hrow
  obtain ⟨arrB, elemB, b1, b2, b3, b4⟩ := ho.rows ib _ hbox
  have hbi : E.ρ ib ≠ E.ρ id := fun e => hne (ho.injr ib id _ _ hbox hrow e)
  refine ⟨?_, ?_, ?_, ?_, ho.globs_of (Env.grw_cell ho hrow) (by intro i b vs hi; by_cases hl : i < H1.length; exact hg hl hi; rcases hout i _ hl hi with ⟨_, e⟩ | ⟨_, e⟩ <;> cases e), ⟨fun i ky hi => ?_, fun i i' ky ky' h1 h2 e => ?_⟩⟩
  rotate_left 4
  · have hl : i < H1.length := by
      by_cases hl : i < H1.length
      · exact hl
      · rcases hout i _ hl hi with ⟨_, e⟩ | ⟨_, e⟩ <;> cases e
    obtain ⟨⟨o, a1, a2⟩, a3⟩ := ho.objs.at_ i ky (hg hl hi)
    have hi1 : H1[i]? = some (.obj ky) := by rw [← cut_get hE hl]; exact hg hl hi
    have hni : E.ρ i ≠ E.ρ id := fun e => by rw [e, i1] at a1; cases a1; exact a2.cells
    rw [hρ i hl, hκ _ hni]
    exact ⟨⟨o, a1, a2.cut (fun v p hv hp => Env.grw_rel ho hE hrow hv hp) (hb1 _ (List.mem_of_getElem? hi1))⟩, a3⟩
  · have hlt : ∀ j kj, (E.grw H1 ib id k cp sz es).H[j]? = some (.obj kj) → j < H1.length := by
      intro j kj hj
      by_cases hl : j < H1.length
      · exact hl
      · rcases hout j _ hl hj with ⟨_, e⟩ | ⟨_, e⟩ <;> cases e
    have l1 := hlt _ _ h1
    have l2 := hlt _ _ h2
    rw [hρ i l1, hρ i' l2] at e
    exact ho.objs.inj i i' ky ky' (hg l1 h1) (hg l2 h2) e
  · intro i cs hi
    by_cases hl : i < H1.length
    · have hi1 : H1[i]? = some (.row cs) := by rw [← cut_get hE hl]; exact hg hl hi
      obtain ⟨arr, elem, h1, h2, h3, h4⟩ := ho.rows i cs (hg hl hi)
      have hm : AObj.row cs ∈ H1 := List.mem_of_getElem? hi1
      have hni : E.ρ i ≠ E.ρ id := fun e => by have := ho.injr i id _ _ (hg hl hi) hrow e; omega
      rw [hρ i hl]
      exact ⟨arr, elem, h1, h2, fun j hj => Env.grw_rel ho hE hrow (h3 j hj) (hb1 _ hm _ (List.getElem_mem hj)), by rw [hκ _ hni]; exact h4⟩
    · rcases hout i _ hl hi with ⟨rfl, e⟩ | ⟨_, e⟩
      · cases e
        rw [hρ0]
        refine ⟨arrB, elemB, b1, by simpa using b2, fun j hj => ?_, by rw [hκ _ hbi]; exact b4⟩
        have hj0 : j = 0 := by simp at hj; omega
        subst hj0
        exact Env.grw_msl ho hE hrow hk hcp hes hb (b3 0 (by simp))
      · cases e
  · intro i n s b hi hb'
    by_cases hl : i < H1.length
    · rw [htb i hl] at hb'
      obtain ⟨arr, elem, pos, h1, h2⟩ := ho.bufs i n s b (hg hl hi) hb'
      have hni : b ≠ E.ρ id := by rintro e; rw [e, i4] at h2; cases h2
      exact ⟨arr, elem, pos, h1, by rw [hκ _ hni]; exact h2⟩
    · rcases hout i _ hl hi with ⟨_, e⟩ | ⟨rfl, e⟩
      · cases e
      · cases e
        rw [htb1] at hb'
        cases hb'
        refine ⟨arrI, elemI, k * sz, i1, ?_⟩
        rw [i2, flatE_length es hes, hcp]
        simp only [Env.grw, if_pos]
  · intro i i' cs cs' h1 h2 e
    by_cases hl : i < H1.length
    · by_cases hl' : i' < H1.length
      · rw [hρ i hl, hρ i' hl'] at e
        exact ho.injr i i' cs cs' (hg hl h1) (hg hl' h2) e
      · rcases hout i' _ hl' h2 with ⟨rfl, _⟩ | ⟨_, e'⟩
        · rw [hρ i hl, hρ0] at e
          have := ho.injr i ib _ _ (hg hl h1) hbox e
          omega
        · cases e'
    · rcases hout i _ hl h1 with ⟨rfl, _⟩ | ⟨_, e'⟩
      · by_cases hl' : i' < H1.length
        · rw [hρ i' hl', hρ0] at e
          have := ho.injr ib i' _ _ hbox (hg hl' h2) e
          omega
        · rcases hout i' _ hl' h2 with ⟨rfl, _⟩ | ⟨_, e'⟩
          · rfl
          · cases e'
      · cases e'
  · intro i i' n s n' s' b h1 h2 e e'
    by_cases hl : i < H1.length
    · by_cases hl' : i' < H1.length
      · rw [htb i hl] at e
        rw [htb i' hl'] at e'
        exact ho.injb i i' n s n' s' b (hg hl h1) (hg hl' h2) e e'
      · rcases hout i' _ hl' h2 with ⟨_, q⟩ | ⟨rfl, _⟩
        · cases q
        · rw [htb i hl] at e
          rw [htb1] at e'
          cases e'
          obtain ⟨_, _, _, _, h6⟩ := ho.bufs i n s _ (hg hl h1) e
          rw [i4] at h6; cases h6
    · rcases hout i _ hl h1 with ⟨_, q⟩ | ⟨rfl, _⟩
      · cases q
      · rw [htb1] at e
        cases e
        by_cases hl' : i' < H1.length
        · rw [htb i' hl'] at e'
          obtain ⟨_, _, _, _, h6⟩ := ho.bufs i' n' s' _ (hg hl' h2) e'
          rw [i4] at h6; cases h6
        · rcases hout i' _ hl' h2 with ⟨_, q⟩ | ⟨rfl, _⟩
          · cases q
          · rfl
end

section
variable {P : Program} {N nb : Nat} {Q : Post}
/-- The slots that are kept: the box under its new name, and what lies below. -/
def GrwL (T : Slots) (ib n : Nat) : List (Nat × PV) → Prop
  | [] => True
  | (d, v) :: l => ((T d = v ∧ Bel n v) ∨ (T d = .optr ib 0 ∧ v = .optr n 0)) ∧ GrwL T ib n l

theorem awp_grw {c : Code} {T : Slots} {H : Heap} (l : List (Nat × PV)) {H1 L : Heap} (ib id k cp sz : Nat) (es : List PV) (hl : GrwL T ib H1.length l) (hH : H = H1 ++ L) (hn : nb ≤ H1.length) (hb1 : HBel H1.length H1)
    (hib : H1.length ≤ ib) (hid : H1.length ≤ id) (hne : ib ≠ id) (hbox : H[ib]? = some (.row [.msl id 0 k cp])) (hrow : H[id]? = some (.row (flatE es))) (hk : k ≤ es.length) (hcp : es.length = cp)
    (hes : ∀ e ∈ es, e.cells.length = sz) (hb : ∀ e ∈ es, ∀ x ∈ e.cells, Bel H1.length x)
    (h : AWP P N nb c Q (mkS l) (H1 ++ [.row [.slice (es.take k) (.tok (H1.length + 1))], .buf k sz])) : AWP P N nb c Q T H := by
  intro E a ho hE ht
  have hE' : E.H = H1 ++ L := hE.trans hH
  rw [← hE] at hbox hrow
  have hbx : ∀ {v : Value}, VRel E.view v (.optr ib 0) → VRel (E.grw H1 ib id k cp sz es).view v (.optr H1.length 0) := by
    intro v hv
    cases hv with
    | optr _ _ h =>
      have e : (E.grw H1 ib id k cp sz es).view.rho H1.length = E.view.rho ib := by show (if H1.length = H1.length then _ else _) = _; rw [if_pos rfl]; rfl
      rw [← e]
      refine .optr _ _ ⟨.row [.slice (es.take k) (.tok (H1.length + 1))], ?_, by simp⟩
      show (H1 ++ _)[H1.length]? = _
      rw [List.getElem?_append_right (Nat.le_refl _), Nat.sub_self]; rfl
  refine wp_mono (h (E.grw H1 ib id k cp sz es) a (ho.grw hE' hib hid hne hbox hrow hk hcp hes hb hb1) rfl ⟨ht.size, ht.defers, ?_⟩) fun e a w hl => lift_mono (Env.grw_leN ho hE' hbox hrow hn) (fun _ _ _ q => q) hl
  intro i hi
  have hT := ht.rel i hi
  clear h hi
  induction l with
  | nil => exact .junk _
  | cons x l ih =>
    obtain ⟨d, v⟩ := x
    simp only [mkS, upd]
    split
    · rename_i e
      subst e
      rcases hl.1 with ⟨h1, h2⟩ | ⟨h1, rfl⟩
      · rw [← h1] at h2 ⊢; exact Env.grw_rel ho hE' hrow hT h2
      · rw [h1] at hT; exact hbx hT
    · exact ih hl.2
end
end Go.Abs
namespace Go.Abs
/-! Loads of a struct from a box that keep what is known of its slices' room. -/
theorem sound_loadK {P : Program} {E : Env} {N : Nat} {a : Act} {T : Nat → PV} (ho : E.Ok) (ht : TRel E.view N a T) {t : TypeId} {x : Operand} (hx : okOpnd N x = true) {i : TI} (hi : tinfo P t = some i) (hagg : i.agg = true)
    {id off : Nat} {cs : List PV} (hT : aev T x = .optr id off) (hcs : E.H[id]? = some (.row cs)) (hl : off + i.sz ≤ cs.length) :
    ∃ val, (Instr.loadAt t (a.eval x)).run P E.w = .ok val E.w ∧ VRel E.view val (.agg ((cs.drop off).take i.sz)) := by
  have hr := vrel_eval ht x hx
  rw [hT] at hr
  obtain ⟨hv, hb⟩ := hr.optr_inv
  rw [hv]
  have hc : Cells E ⟨E.ρ id, off, none⟩ (cs.drop off) := .row hcs
  obtain ⟨h1, h2⟩ := hc.loadVar (P := P) ho hi
  obtain ⟨arr, e1, e2⟩ := h1 hagg (by simp; omega)
  exact ⟨_, by simpa [Instr.loadAt, Instr.sureAddr, Env.view] using e1, e2⟩
theorem sound_fill1 {P : Program} {E : Env} {N : Nat} {a : Act} {T : Nat → PV} (ht : TRel E.view N a T) (fl : List (Nat × TI)) (f : Nat) (x : Operand) (arr : Array Value) (cs : List PV) (h : RL E.view arr cs) (hok : okOpnd N x = true) {off : Nat} {i : TI} (hf : fl[f]? = some (off, i))
    (hc1 : (aev T x).isJunk = false) (hc2 : (aev T x).cells.length = i.sz) (hc3 : off + i.sz ≤ cs.length) :
    ∃ arr', Instr.fill ((fl.map fun x => (x.1, x.2.sz)).toArray[·]?) arr [(f, a.eval x)] = some arr' ∧ RL E.view arr' (splice cs off (aev T x).cells) := by
  have hr := vrel_eval ht x hok
  obtain ⟨c1, c2⟩ := hr.not_junk_cells hc1
  have h' := foldl_splice (V := E.view) (a.eval x).cells.toList (aev T x).cells off 0 arr cs h (by simp [c1]) (fun j hj => by
    have := c2 j (by simpa using hj)
    rw [Array.getD_eq_getD_getElem?] at this
    rw [List.getD_eq_getElem?_getD, Array.getElem?_toList]
    exact this)
  rw [Nat.add_zero] at h'
  refine ⟨_, ?_, h'⟩
  simp only [Instr.fill]
  simp only [List.getElem?_toArray, List.getElem?_map, hf, Option.map_some]
  rw [if_neg]
  · congr 1
    rw [← Array.foldl_toList, Array.toList_zipIdx]
  · have c3 : (a.eval x).cells.size = i.sz := c1.trans hc2
    have c4 := h.1
    rw [c3, c4]; simp; omega
theorem sound_buildK {P : Program} {E : Env} {N : Nat} {a : Act} {T : Nat → PV} (ht : TRel E.view N a T) {t : TypeId} {f : Nat} {x : Operand} (hok : okOpnd N x = true) {fl : List (Nat × TI)} (hfl : tflds P t = some fl) {z : PV} (hz : tzero P t = some z) (hj : z.isJunk = false) {off : Nat} {i : TI} (hf : fl[f]? = some (off, i))
    (hc1 : (aev T x).isJunk = false) (hc2 : (aev T x).cells.length = i.sz) (hc3 : off + i.sz ≤ z.cells.length) :
    ∃ val, (Instr.build t #[(f, a.eval x)]).run P E.w = .ok val E.w ∧ VRel E.view val (.agg (splice z.cells off (aev T x).cells)) := by
  obtain ⟨fs, h1, h2⟩ := tflds_some hfl
  obtain ⟨f', v, h3, h4, rfl⟩ := tzero_some hz
  have hr := run_places (P := P) (w := E.w) fs.toList fl h2
  obtain ⟨c1, c2⟩ := (vrel_ofConst E.view v).not_junk_cells hj
  obtain ⟨arr', e1, e2⟩ := sound_fill1 (P := P) ht fl f x v.cells (ofConst v).cells ⟨c1, c2⟩ hok hf hc1 hc2 hc3
  refine ⟨.agg arr', ?_, .agg _ _ e2.1 e2.2⟩
  simp only [Instr.build, Sem.run_bind, run_zero h3 h4, Result.andThen_ok, run_under h1, Array.mapM_eq_mapM_toList, Sem.run_map, hr]
  simp only [e1, Sem.run_pure]
section
variable {P : Program} {N nb : Nat} {ops : Array Oper} {Q : Post}
theorem aops_buildK {o : Oper} {l : List Oper} {T : Slots} {H : Heap} {x : Operand} {t : TypeId} {f : Nat} {fl : List (Nat × TI)} {z v : PV} {off : Nat} {i : TI} (hop : o.op = .build t #[(f, x)]) (hok : okOpnd N x = true) (hfl : tflds P t = some fl) (hz : tzero P t = some z) (hj : z.isJunk = false) (hf : fl[f]? = some (off, i))
    (hc1 : (aev T x).isJunk = false) (hc2 : (aev T x).cells.length = i.sz) (hc3 : off + i.sz ≤ z.cells.length) (hv : .agg (splice z.cells off (aev T x).cells) = v) (hw : awanted ops.toList T N o = some true) (h : AOps P N nb ops Q l (updO T o.dst v) H) : AOps P N nb ops Q (o :: l) T H := by
  subst hv
  refine aops_done hw (fun E a ho hH ht => ?_) h
  subst hH
  obtain ⟨val, h1, h2⟩ := sound_buildK (P := P) ht hok hfl hz hj hf hc1 hc2 hc3
  refine ⟨E, val, .inl ?_, .refl E, ho, rfl, h2⟩
  unfold execOp
  rw [hop]
  simp only [List.map_toArray, List.map_cons, List.map_nil, Sem.run_bind, h1, Result.andThen_ok, Sem.run_pure]
end
section
variable {P : Program} {N nb : Nat} {ops : Array Oper} {Q : Post}
theorem aops_loadK {o : Oper} {l : List Oper} {T : Slots} {H : Heap} {x : Operand} {t : TypeId} {i : TI} {id off : Nat} {cs : List PV} (hop : o.op = .load t x) (hx : aev T x = .optr id off) (hcs : H[id]? = some (.row cs)) (hi : tinfo P t = some i) (hagg : i.agg = true)
    (hl : off + i.sz ≤ cs.length) (hw : awanted ops.toList T N o = some true) (hok : okOpnd N x = true) (h : AOps P N nb ops Q l (updO T o.dst (.agg ((cs.drop off).take i.sz))) H) : AOps P N nb ops Q (o :: l) T H := by
  refine aops_done hw (fun E a ho hH ht => ?_) h
  subst hH
  obtain ⟨val, h1, h2⟩ := sound_loadK (P := P) ho ht hok hi hagg hx hcs hl
  refine ⟨E, val, .inl ?_, .refl E, ho, rfl, h2⟩
  unfold execOp
  rw [hop]
  simp only [Sem.run_bind, h1, Result.andThen_ok, Sem.run_pure]
theorem acalls_ofK {f : FuncId} {fn : Func} {c : Code} {args : List PV} {R : PV → Heap → Prop} {H : Heap} {x : Nat} {t : TypeId} {i : TI} (hf : P.funcs[f]? = some fn) (hb : fn.body = some c) (hN : fn.ntmps = N) (hl : args.length ≤ N) (hrs : fn.results.toList = [.cell x t]) (hxN : x < N) (hi : tinfo P t = some i) (hagg : i.agg = true)
    (h : HBel H.length H → AWP P N H.length c (fun e T H => (e = .normal ∨ e = .ret) ∧ ∃ id off cs, T x = .optr id off ∧ H[id]? = some (.row cs) ∧ off + i.sz ≤ cs.length ∧ R (.agg ((cs.drop off).take i.sz)) H) (enter args) H) : ACalls P f args H R := by
  intro E vargs ho hH hrl
  refine calls_of_wp hf hb (wp_mono (h (by have := ho.hbel; rw [hH] at this; exact this) E _ ho hH ⟨by simp [hrl.1, hN]; omega, rfl, fun i hi => ?_⟩) ?_)
  · rw [Array.getD_eq_getD_getElem?, Array.getElem?_append]
    unfold enter
    by_cases hia : i < args.length
    · rw [if_pos (by rw [hrl.1]; exact hia), ← Array.getD_eq_getD_getElem?, List.getD_eq_getElem?_getD, List.getElem?_eq_getElem hia]
      exact hrl.2 i hia
    · rw [List.getD_eq_getElem?_getD, List.getElem?_eq_none (by omega)]
      exact .junk _
  · rintro e a w ⟨E', T', rfl, h2, h3, h4, he, id, off, cs, hT, hcs, hlen, hR⟩
    obtain ⟨val, h5, h6⟩ : ∃ val, (results fn a.tmps).run P E'.w = .ok val E'.w ∧ VRel E'.view val (.agg ((cs.drop off).take i.sz)) := by
      obtain ⟨val, k1, k2⟩ := sound_loadK (P := P) h3 h4 (x := .tmp x) (by simpa [okOpnd] using hxN) hi hagg (by simpa [aev] using hT) hcs hlen
      refine ⟨val, ?_, k2⟩
      have hr := h4.rel x hxN
      rw [hT] at hr
      have hp := hr.optr_inv.1
      simp only [Act.eval, Instr.loadAt, hp, Instr.sureAddr, Sem.run_bind, Sem.run_pure, Result.andThen_ok] at k1
      rw [results_eq, Array.mapM_eq_mapM_toList, hrs]
      simp only [List.mapM_cons, List.mapM_nil, resF, hp, asAddr, Sem.run_bind, Sem.run_map, k1, Sem.run_pure, Result.andThen_ok]
      rfl
    rcases he with rfl | rfl
    · exact ⟨h4.defers, val, h5, E', val, _, rfl, rfl, (hH ▸ h2 : E.leN E.H.length E').le, h3, h6, hR⟩
    · exact ⟨h4.defers, val, h5, E', val, _, rfl, rfl, (hH ▸ h2 : E.leN E.H.length E').le, h3, h6, hR⟩
end
end Go.Abs
namespace Go.Abs
open Go.RowKit
/-! Calls of the library whose contracts say that the old blocks stay as they are. -/
section
variable {P : Program} {f : FuncId} {args : List PV} {H : Heap} {r : PV}
theorem below_cell {w w' : World} (h : Below w.heap.size w w') (a : Addr) (v : Value) (hc : w.cell? a = some v) : w'.cell? a = some v := by
  have hlt : a.block < w.heap.size := by
    rcases Nat.lt_or_ge a.block w.heap.size with q | q
    · exact q
    · unfold World.cell? at hc
      rw [Array.getElem?_eq_none q] at hc
      simp at hc
  unfold World.cell? at hc ⊢
  rw [h.block _ hlt]; exact hc
theorem acalls_below (h : ∀ (E : Env) (vargs : Array Value), E.Ok → E.H = H → RL E.view vargs args → ∃ v, VRel E.view v r ∧ Calls P f vargs E.w fun e w' => e = .returned v ∧ Below E.w.heap.size E.w w') : ACalls P f args H fun r' H' => r' = r ∧ H' = H := by
  intro E vargs ho hH hrl
  obtain ⟨v, hv, hc⟩ := h E vargs ho hH hrl
  refine hc.mono fun e w' ⟨he, hb⟩ => ?_
  let E' : Env := { E with w := w' }
  have hview : E.view.le E'.view := by
    refine ⟨fun a v hc => ?_, fun id h => h, fun id _ => rfl, fun id t' _ ht => ⟨t', ht, .inl rfl⟩⟩
    simp only [Env.view, E'] at hc ⊢
    split at hc
    · rename_i hs
      rw [if_pos hs]; exact below_cell hb _ _ hc
    · cases hc
  refine ⟨E', v, r, he, rfl, ⟨hb.os, hb.tape, hb.output, hb.size, fun b hlt _ => ⟨rfl, hb.block b hlt⟩, hview, fun b _ => id⟩, ?_, hv.mono hview, rfl, hH⟩
  refine ⟨?_, ?_, ho.injr, ho.injb, ho.globs_of hview.cell fun _ _ _ h => h, ho.objs.of hview fun id k hi => ⟨hi, rfl, hb.block _ (ho.objs.lt hi), rfl⟩⟩
  · intro id cs hi
    obtain ⟨arr, elem, h1, h2, h3, h4⟩ := ho.rows id cs hi
    exact ⟨arr, elem, (hb.block _ (ho.rowBlock hi)).trans h1, h2, fun i hl => (h3 i hl).mono hview, h4⟩
  · intro id n sz b hi hb'
    obtain ⟨arr, elem, pos, h1, h2⟩ := ho.bufs id n sz b hi hb'
    exact ⟨arr, elem, pos, (hb.block _ (ho.bufBlock hi hb')).trans h1, h2⟩
/-- strings.Join at a slice that a call has grown. -/
theorem acalls_join (hnone : ∀ (a : Option Addr) (c : Nat) (sep : ByteArray) (w : World), Calls P f #[.slice a 0 c, .string sep] w fun e w' => e = .returned (.string ⟨#[]⟩) ∧ w' = w)
    (hjoin : ∀ (bk o c : Nat) (xs : List ByteArray) (sep : ByteArray) (w : World), (∀ (j : Nat) x, xs[j]? = some x → w.cell? ⟨bk, o + j, none⟩ = some (.string x)) → bk < w.heap.size → xs.length ≤ 140737488355328 → xs.length ≤ c → (Lib.join (xs.map (·.data.toList)) sep.data.toList).length ≤ 140737488355328 →
      Calls P f #[.slice (some ⟨bk, o, none⟩) xs.length c, .string sep] w fun e w' => e = .returned (.string ⟨(Lib.join (xs.map (·.data.toList)) sep.data.toList).toArray⟩) ∧ Below w.heap.size w w')
    {xs : List (List UInt8)} {sep : List UInt8} {id sz : Nat} (hid : H[id]? = some (.buf xs.length sz)) (hN : xs.length ≤ 140737488355328) (hlen : (Lib.join xs sep).length ≤ 140737488355328) :
    ACalls P f [.slice (xs.map PV.str) (.tok id), .str sep] H fun r' H' => r' = .str (Lib.join xs sep) ∧ H' = H := by
  refine acalls_below fun E vargs ho hH hrl => ?_
  obtain ⟨hsz, hr⟩ := hrl
  have h0 := hr 0 (by simp)
  have h1 := hr 1 (by simp)
  simp only [List.getElem_cons_zero, List.getElem_cons_succ] at h0 h1
  obtain ⟨v0, v1, rfl⟩ : ∃ v0 v1, vargs = #[v0, v1] := by
    have : vargs.size = 2 := by simpa using hsz
    exact ⟨vargs[0], vargs[1], by apply Array.ext <;> simp [this]; intro i hi hi2; match i, hi2 with | 0, _ => rfl | 1, _ => rfl⟩
  simp only [Array.getD_eq_getD_getElem?, List.getElem?_toArray, List.getElem?_cons_zero, List.getElem?_cons_succ, Option.getD_some] at h0 h1
  cases h1 with
  | str s =>
  by_cases hxs : xs = []
  · subst hxs
    obtain ⟨a, c, rfl⟩ : ∃ a c, v0 = .slice a 0 c := by
      cases h0 with
      | nils _ _ => exact ⟨_, _, rfl⟩
      | slice a len cap sz _ _ vs hl => simp at hl; subst hl; exact ⟨_, _, rfl⟩
    exact ⟨.string ⟨#[]⟩, VRel.str ⟨#[]⟩, (hnone a c s E.w).mono fun e w' ⟨h1, h2⟩ => ⟨h1, h2 ▸ Below.refl _ _⟩⟩
  · generalize hes : xs.map PV.str = es at h0
    cases h0 with
    | nils _ _ => exact absurd (by simpa using hes) hxs
    | slice a len cap sz2 _ _ vs hl hcap hmax hsz2 hc hr2 ht =>
      subst hes
      rw [List.length_map] at hl
      subst hl
      have hpos : 0 < xs.length := List.length_pos_iff.2 hxs
      have hsz1 : sz2 = 1 := by
        have := hsz2 0 (by simpa using hpos)
        simp only [List.getElem_map] at this
        exact this.symm
      subst hsz1
      obtain ⟨hborn, ht⟩ := ht
      have htok : E.view.tok id = some ⟨xs.length, sz, (E.tb id).bind fun b => match E.κ b with | .buf pos cend => some (b, pos, cend) | _ => none⟩ := by
        simp only [Env.view, hH, hid]
        rfl
      obtain ⟨_, ht⟩ := ht _ htok
      obtain ⟨bk, o, rfl⟩ : ∃ bk o, a = ⟨bk, o, none⟩ := by
        rcases ht rfl with ⟨_, h⟩ | ⟨b, pos, cend, off, _, h, _⟩
        · obtain ⟨b, off, h⟩ := h hpos
          exact ⟨b, off, by cases h; rfl⟩
        · exact ⟨b, off, by cases h; rfl⟩
      let ys : List ByteArray := xs.map fun l => ⟨l.toArray⟩
      have hyx : ys.map (·.data.toList) = xs := by simp [ys, Function.comp_def]
      have hylen : ys.length = xs.length := by simp [ys]
      have hadd : ∀ n, (⟨bk, o, none⟩ : Addr).add n = ⟨bk, o + n, none⟩ := by
        intro n; unfold Addr.add; split
        · rename_i e; subst e; rfl
        · rfl
      have hcell : ∀ j (hj : j < xs.length), E.w.cell? ⟨bk, o + j, none⟩ = some (.string ⟨xs[j].toArray⟩) := by
        intro j hj
        have h1 := hc j 0 hj (by omega)
        have h2 := hr2 j 0 (by simpa using hj) (by simp [PV.cells])
        simp only [List.getElem_map] at h2
        have h2 : VRel E.view (vs j 0) (.str xs[j]) := h2
        rw [hadd, Nat.mul_one, Nat.add_zero] at h1
        obtain ⟨s', hs'⟩ : ∃ s' : ByteArray, vs j 0 = .string s' ∧ s'.data.toList = xs[j] := by
          generalize vs j 0 = q at h2
          generalize hxj : xs[j] = l at h2
          cases h2 with
          | str s' => exact ⟨s', rfl, rfl⟩
        rw [hs'.1] at h1
        rw [← hs'.2]
        simp only [Env.view] at h1
        split at h1
        · rw [h1]
        · cases h1
      have hbk : bk < E.w.heap.size := by
        have := hcell 0 hpos
        rcases Nat.lt_or_ge bk E.w.heap.size with q | q
        · exact q
        · unfold World.cell? at this
          rw [Array.getElem?_eq_none q] at this
          simp at this
      have key := hjoin bk o cap ys s E.w (fun j x hx => by
        have hj : j < xs.length := by
          rcases Nat.lt_or_ge j ys.length with q | q
          · omega
          · rw [List.getElem?_eq_none q] at hx; cases hx
        rw [hcell j hj]
        rw [List.getElem?_eq_getElem (by omega)] at hx
        simp only [ys, List.getElem_map, Option.some.injEq] at hx
        rw [hx]) hbk (by omega) (by omega) (by rw [hyx]; exact hlen)
      rw [hyx, hylen] at key
      exact ⟨_, VRel.str ⟨(Lib.join xs s.data.toList).toArray⟩, key⟩
end
end Go.Abs
namespace Go.Abs
open Go.RowKit
/-! Constants of the program: blocks that stay as they are, told by objects at the heap's start. -/
def Pre (G H : Heap) : Prop := ∀ (k : Nat) (o : AObj), G[k]? = some o → H[k]? = some o
theorem Pre.refl (G : Heap) : Pre G G := fun _ _ h => h
theorem Pre.app {G H : Heap} (h : Pre G H) (L : Heap) : Pre G (H ++ L) := fun k o hk => by
  have := h k o hk
  rw [List.getElem?_append_left (len_of_get this)]; exact this
/-- A call that leaves every heap that begins so as it is. -/
def PG (G : Heap) (P : Program) (f : FuncId) (args : List PV) (r : PV) : Prop := ∀ H, Pre G H → ACalls P f args H fun r' H' => r' = r ∧ H' = H
theorem PC.pg {G : Heap} {P : Program} {f : FuncId} {args : List PV} {r : PV} (h : PC P f args r) : PG G P f args r := fun H _ => h H
section
variable {P : Program} {N : Nat}
theorem pg_of {G : Heap} {f : FuncId} {fn : Func} {c : Code} {args : List PV} {r : PV} (hf : P.funcs[f]? = some fn) (hb : fn.body = some c) (hN : fn.ntmps = N) (hl : args.length ≤ N) (hr : Bel 0 r)
    (h : ∀ H, Pre G H → HBel H.length H → AWP P N H.length c (fun e T H' => (e = .normal ∨ e = .ret) ∧ ∃ r' L, aresults P N T H' fn.results.toList = some r' ∧ r'.drop1 = r ∧ H' = H ++ L) (enter args) H) : PG G P f args r :=
  fun H hG => keeps_of hf hb hN hl (hr.mono (Nat.zero_le _)) fun hb' => h H hG hb'
/-- What a constant's object tells of the world. -/
theorem glob_cell {E : Env} (ho : E.Ok) {id b : Nat} {vs : List Value} (hid : E.H[id]? = some (.glob b vs)) {i : Nat} (h : i < vs.length) : E.w.cell? ⟨b, i, none⟩ = some vs[i] := by
  have := ho.globs id b vs hid i h
  simp only [Env.view] at this
  split at this
  · exact this
  · cases this
end
end Go.Abs
namespace Go.Abs
/-! Comparison of structs of an integer and a string. -/
structure ISAt (P : Program) (t : TypeId) where
  f0 : Field
  f1 : Field
  ut : P.underlying t = some (.struct #[f0, f1])
  held : P.stoodInHeld t = false
  n0 : f0.name ≠ "_"
  n1 : f1.name ≠ "_"
  o0 : f0.offset = 0
  o1 : f1.offset = 1
  u0 : P.underlying f0.type = some (.int .i64)
  u1 : P.underlying f1.type = some .string
  a0 : ∀ w, (isAgg f0.type).run P w = .ok false w
  a1 : ∀ w, (isAgg f1.type).run P w = .ok false w
  gu : P.eqGuardType P.depth t = false
theorem run_eqIS {P : Program} {t : TypeId} (F : ISAt P t) (w : World) (a b : Int) (s s' : ByteArray) :
    (Op.equal t (.agg #[.int .i64 a, .string s]) (.agg #[.int .i64 b, .string s'])).run P w = .ok ((a == b) && (s.toList == s'.toList)) w := by
  have hf : P.fieldsOf t = #[F.f0, F.f1] := by unfold Program.fieldsOf; rw [F.ut]
  have p0 : ∀ (x : Value) (y : Value) w, (part F.f0.type #[x, y] F.f0.offset).run P w = .ok x w := fun x y w => by
    simp only [part, Sem.run_bind, F.a0, Result.andThen_ok, F.o0]; rfl
  have p1 : ∀ (x : Value) (y : Value) w, (part F.f1.type #[x, y] F.f1.offset).run P w = .ok y w := fun x y w => by
    simp only [part, Sem.run_bind, F.a1, Result.andThen_ok, F.o1]; rfl
  show (Op.equalIn (9999 + 1) t _ _).run P w = _
  rw [run_equalIn_struct w 9999 t _ _ (by rw [hf]; exact F.ut) F.held, hf]
  show (Op.eqFields 9999 _ _ [F.f0, F.f1]).run P w = _
  simp only [Op.eqFields, if_pos F.n0, if_pos F.n1, Sem.run_bind, p0, p1, Result.andThen_ok, run_equalIn_int w 9998 _ _ _ _ _ F.u0, run_equalIn_string w 9998 _ _ _ F.u1, Sem.run_ite, Sem.run_pure]
  cases h1 : (a == b) <;> cases h2 : (s.toList == s'.toList) <;> simp
theorem guard_is {P : Program} {t : TypeId} (F : ISAt P t) {w : World} (op : BinOp) (x y : Operand) (u v : Array Value) : (eqGuard op t x y (.agg u) (.agg v)).run P w = .ok () w := by
  unfold eqGuard
  simp only [Sem.run_bind, run_program, Result.andThen_ok, F.gu, Bool.not_false, if_true, Sem.run_ite, Sem.run_pure]
  split <;> rfl
theorem aops_neqIS {P : Program} {N nb : Nat} {ops : Array Oper} {Q : Post} {o : Oper} {l : List Oper} {T : Slots} {H : Heap} {t y' : TypeId} {x y : Operand} {a b : Int} {s s' : List UInt8} (F : ISAt P t)
    (hop : o.op = .binOp .neq t x y y') (hx : aev T x = .agg [.int .i64 a, .str s]) (hy : aev T y = .agg [.int .i64 b, .str s']) (hw : awanted ops.toList T N o = some true) (okx : okOpnd N x = true) (oky : okOpnd N y = true)
    (h : AOps P N nb ops Q l (updO T o.dst (.bool (!(decide (a = b) && decide (s = s'))))) H) : AOps P N nb ops Q (o :: l) T H := by
  refine aops_done hw (fun E A ho hH ht => ?_) h
  have rx := vrel_eval ht x okx
  have ry := vrel_eval ht y oky
  rw [hx] at rx; rw [hy] at ry
  have inv : ∀ {v : Value} {n : Int} {q : List UInt8}, VRel E.view v (.agg [.int .i64 n, .str q]) → ∃ z : ByteArray, v = .agg #[.int .i64 n, .string z] ∧ z.data.toList = q := by
    intro v n q hv
    cases hv with
    | agg arr _ hl hr =>
      have h0 := hr 0 (by simp)
      have h1 := hr 1 (by simp)
      simp only [List.getElem_cons_zero, List.getElem_cons_succ] at h0 h1
      have hs : arr.size = 2 := by simpa using hl
      rw [Array.getD_eq_getD_getElem?, Array.getElem?_eq_getElem (by omega)] at h0 h1
      simp only [Option.getD_some] at h0 h1
      generalize hg0 : arr[0] = g0 at h0
      generalize hg1 : arr[1] = g1 at h1
      cases h0 with
      | int =>
        cases h1 with
        | str z =>
          refine ⟨z, ?_, rfl⟩
          congr 1
          apply Array.ext
          · simp [hs]
          · intro i hi hi2
            match i, hi2 with
            | 0, _ => exact hg0
            | 1, _ => exact hg1
  obtain ⟨z, hvx, hz⟩ := inv rx
  obtain ⟨z', hvy, hz'⟩ := inv ry
  have hb : ((a == b) && (z.toList == z'.toList)) = (decide (a = b) && decide (s = s')) := by
    have e : ∀ (q : ByteArray), q.toList = q.data.toList := fun q => by rw [ByteArray.toList_eq]
    rw [e, e, hz, hz', Bool.eq_iff_iff]
    simp
  refine ⟨E, .bool (!(decide (a = b) && decide (s = s'))), .inl ?_, .refl E, ho, hH, .bool _⟩
  unfold execOp
  rw [hop]
  simp only [Sem.run_bind, hvx, hvy, guard_is F, Result.andThen_ok, binOp, run_eqIS F, Sem.run_pure, hb]
end Go.Abs
namespace Go.Abs
/-! An operation on values, in a region that draws: what it answers, from what its operands are. -/
theorem dp_val {P : Program} {N : Nat} {ops : Array Oper} {Q : Post} {k : Nat} {o : Oper} {l : List Oper} {T : Slots} {G : Nat → Bool} {H : Heap} {v : PV} (hc : gcond ops.toList T G N o = some true) (hg : o.op.operands.toList.all (gOk true G) = true)
    (hv : ∀ (E : Env) (a : Act), E.Ok → (∀ x ∈ o.op.operands.toList, okOpnd N x = true → VRel E.view (a.eval x) (aev T x)) → ∃ val, (execOp a.eval o).run P E.w = .ok (.value val) E.w ∧ VRel E.view val v)
    (h : DP P N ops Q (k + 1) l (msk (.tup []) (updO T o.dst v) (ugO G o.dst true)) H) : DP P N ops Q k (o :: l) (msk (.tup []) T G) H := by
  intro prev hn
  rw [msk_put_true] at h
  refine ⟨v, [], [], ?_, by simp, fun p hp => .inr ⟨by simp, by simp⟩, h _ (hn.app _ _)⟩
  intro T' H' hT hHd hlen E a ho hE ht
  refine .inr ⟨awanted_sound ht (wanted_agree hT ((gcond_sound hc).1 rfl _)), fun next Q hnx => ?_⟩
  obtain ⟨val, h1, h2⟩ := hv E a ho fun x hx hok => by
    have := vrel_eval ht x hok
    rwa [aev_agree hT x hx, aev_msk (List.all_eq_true.1 hg x hx)] at this
  unfold Oper.wp
  rw [h1]
  exact hnx E val (.refl E) ho hE h2
theorem inv_IS {V : View} {v : Value} {n : Int} {q : List UInt8} (hv : VRel V v (.agg [.int .i64 n, .str q])) : ∃ z : ByteArray, v = .agg #[.int .i64 n, .string z] ∧ z.data.toList = q := by
  cases hv with
  | agg arr _ hl hr =>
    have h0 := hr 0 (by simp)
    have h1 := hr 1 (by simp)
    simp only [List.getElem_cons_zero, List.getElem_cons_succ] at h0 h1
    have hs : arr.size = 2 := by simpa using hl
    rw [Array.getD_eq_getD_getElem?, Array.getElem?_eq_getElem (by omega)] at h0 h1
    simp only [Option.getD_some] at h0 h1
    generalize hg0 : arr[0] = g0 at h0
    generalize hg1 : arr[1] = g1 at h1
    cases h0 with
    | int =>
      cases h1 with
      | str z =>
        refine ⟨z, ?_, rfl⟩
        congr 1
        apply Array.ext
        · simp [hs]
        · intro i hi hi2
          match i, hi2 with
          | 0, _ => exact hg0
          | 1, _ => exact hg1
theorem dp_neqIS {P : Program} {N : Nat} {ops : Array Oper} {Q : Post} {k : Nat} {o : Oper} {l : List Oper} {T : Slots} {G : Nat → Bool} {H : Heap} {t y' : TypeId} {x y : Operand} {a b : Int} {s s' : List UInt8} (F : ISAt P t)
    (hop : o.op = .binOp .neq t x y y') (hx : aev T x = .agg [.int .i64 a, .str s]) (hy : aev T y = .agg [.int .i64 b, .str s']) (hc : gcond ops.toList T G N o = some true) (hg : o.op.operands.toList.all (gOk true G) = true) (okx : okOpnd N x = true) (oky : okOpnd N y = true)
    (h : DP P N ops Q (k + 1) l (msk (.tup []) (updO T o.dst (.bool (!(decide (a = b) && decide (s = s'))))) (ugO G o.dst true)) H) : DP P N ops Q k (o :: l) (msk (.tup []) T G) H := by
  refine dp_val hc hg (fun E A ho he => ?_) h
  have rx := he x (by rw [hop]; simp [Op.operands]) okx
  have ry := he y (by rw [hop]; simp [Op.operands]) oky
  rw [hx] at rx; rw [hy] at ry
  obtain ⟨z, hvx, hz⟩ := inv_IS rx
  obtain ⟨z', hvy, hz'⟩ := inv_IS ry
  have hb : ((a == b) && (z.toList == z'.toList)) = (decide (a = b) && decide (s = s')) := by
    have e : ∀ (q : ByteArray), q.toList = q.data.toList := fun q => by rw [ByteArray.toList_eq]
    rw [e, e, hz, hz', Bool.eq_iff_iff]
    simp
  refine ⟨.bool (!(decide (a = b) && decide (s = s'))), ?_, .bool _⟩
  unfold execOp
  rw [hop]
  simp only [Sem.run_bind, hvx, hvy, guard_is F, Result.andThen_ok, binOp, run_eqIS F, Sem.run_pure, hb]
end Go.Abs
namespace Go.Abs
open Go.Lib (iterAt_size iterAt_other iterAt_heap run_next_any_at run_next_end_at)
/-! Objects that are no rows: made, turned; a string's iterator. -/
def Env.newObj (E : Env) (id : Nat) (o : Obj) (k : OKind) : Env :=
  { w := E.w.alloc o, κ := fun b => if b = E.w.heap.size then .mut else E.κ b, ρ := fun i => if i = id then E.w.heap.size else E.ρ i, tb := E.tb, H := E.H.set id (.obj k) }
section newObj
variable {E : Env} (h : E.Ok) {id : Nat} (hi : E.H[id]? = some .unborn) (o : Obj) (k : OKind)
include h hi
theorem Env.newObj_view : E.view.le (E.newObj id o k).view := by
  have hlen := len_of_get hi
  have hne : ∀ x, isBorn E.H x → x ≠ id := by rintro x ⟨o, h1, h2⟩ rfl; rw [hi] at h1; cases h1; exact h2 rfl
  refine ⟨fun a v hc => ?_, fun x hb => ?_, fun x hb => ?_, fun x t' hb ht => ⟨t', ?_, .inl rfl⟩⟩
  · have hl := cell?_lt (Env.cell_stable hc)
    simp only [Env.view] at hc ⊢
    split at hc
    · rename_i hs
      have hne : a.block ≠ E.w.heap.size := by omega
      simp only [Env.newObj, if_neg hne, hs, if_true]
      rw [cell?_congr (heap_alloc _ _ _ hl)]; exact hc
    · cases hc
  · have := hne x hb
    obtain ⟨o, h1, h2⟩ := hb
    exact ⟨o, by simp only [Env.newObj, get_set hlen, if_neg this]; exact h1, h2⟩
  · simp only [Env.view, Env.newObj, if_neg (hne x hb)]
  · have := hne x hb
    simp only [Env.view, Env.newObj, get_set hlen, if_neg this] at ht ⊢
    split at ht
    · rename_i n sz hx
      rw [← ht]
      cases htb : E.tb x with
      | none => rfl
      | some b =>
        have := h.bufBlock hx htb
        have hne : b ≠ E.w.heap.size := by omega
        simp only [Option.bind_some, if_neg hne]
    · cases ht
theorem Env.newObj_le : E.le (E.newObj id o k) := by
  have hlen := len_of_get hi
  refine ⟨rfl, rfl, rfl, by simp [Env.newObj], fun b hb _ => ⟨?_, heap_alloc _ _ _ hb⟩, Env.newObj_view h hi o k, fun b hb => Or.imp ?_ (Or.imp ?_ ?_)⟩
  · have hne : b ≠ E.w.heap.size := by omega
    simp only [Env.newObj, if_neg hne]
  · rintro ⟨x, cs', h1, h2⟩
    simp only [Env.newObj, get_set hlen] at h1 h2
    split at h1
    · cases h1
    · rename_i e; rw [if_neg e] at h2; exact ⟨x, cs', h1, h2⟩
  · rintro ⟨x, n, sz, h1, h2⟩
    simp only [Env.newObj, get_set hlen] at h1 h2
    split at h1
    · cases h1
    · exact ⟨x, n, sz, h1, h2⟩
  · rintro ⟨x, k', h1, h2⟩
    simp only [Env.newObj, get_set hlen] at h1 h2
    split at h1
    · rename_i e; rw [if_pos e] at h2; omega
    · rename_i e; rw [if_neg e] at h2; exact ⟨x, k', h1, h2⟩
theorem Env.Ok.newObj (hr : OR E.view k o) : (E.newObj id o k).Ok := by
  have hlen := len_of_get hi
  have hv := Env.newObj_view h hi o k
  refine ⟨?_, ?_, ?_, ?_, h.globs_of hv.cell (by intro x b vs hx; simp only [Env.newObj, get_set hlen] at hx; split at hx <;> first | exact hx | cases hx), ?_, ?_⟩
  · intro x cs' hx
    simp only [Env.newObj, get_set hlen] at hx
    split at hx
    · cases hx
    · rename_i e
      have hl := h.rowBlock hx
      obtain ⟨arr', elem', h1, h2, h3, h4⟩ := h.rows x cs' hx
      have hne : E.ρ x ≠ E.w.heap.size := by omega
      refine ⟨arr', elem', ?_, h2, fun i hl => (h3 i hl).mono hv, ?_⟩
      · simp only [Env.newObj, if_neg e]; rw [← h1]; exact heap_alloc _ _ _ hl
      · simp only [Env.newObj, if_neg e, if_neg hne]; exact h4
  · intro x n sz b hx hb
    simp only [Env.newObj, get_set hlen] at hx hb
    split at hx
    · cases hx
    · have hl := h.bufBlock hx hb
      obtain ⟨arr', elem', pos, h1, h2⟩ := h.bufs x n sz b hx hb
      have hne : b ≠ E.w.heap.size := by omega
      exact ⟨arr', elem', pos, by rw [← h1]; exact heap_alloc _ _ _ hl, by simp only [Env.newObj, if_neg hne]; exact h2⟩
  · intro x x' c c' h1 h2 e
    simp only [Env.newObj, get_set hlen] at h1 h2 e
    split at h1 <;> split at h2
    · cases h1
    · cases h1
    · cases h2
    · rename_i a b
      rw [if_neg a, if_neg b] at e
      exact h.injr x x' c c' h1 h2 e
  · intro x x' n sz n' sz' b h1 h2 e e'
    simp only [Env.newObj, get_set hlen] at h1 h2 e e'
    split at h1 <;> split at h2
    · cases h1
    · cases h1
    · cases h2
    · exact h.injb x x' n sz n' sz' b h1 h2 e e'
  · intro x k' hx
    simp only [Env.newObj, get_set hlen] at hx
    split at hx
    · rename_i e
      cases hx
      exact ⟨⟨o, by simp only [Env.newObj, if_pos e]; exact heap_alloc_new _ _, hr.mono hv⟩, by simp only [Env.newObj, if_pos e, if_true]⟩
    · rename_i e
      have hl := h.objs.lt hx
      obtain ⟨⟨o', a1, a2⟩, a3⟩ := h.objs.at_ x k' hx
      refine ⟨⟨o', ?_, a2.mono hv⟩, ?_⟩
      · simp only [Env.newObj, if_neg e]; rw [← a1]; exact heap_alloc _ _ _ hl
      · simp only [Env.newObj, if_neg e, if_neg (Nat.ne_of_lt hl)]; exact a3
  · intro x x' c c' h1 h2 e
    simp only [Env.newObj, get_set hlen] at h1 h2 e
    split at h1 <;> split at h2
    · omega
    · rename_i a b
      rw [if_pos a, if_neg b] at e
      have := h.objs.lt h2; omega
    · rename_i a b
      rw [if_neg a, if_pos b] at e
      have := h.objs.lt h1; omega
    · rename_i a b
      rw [if_neg a, if_neg b] at e
      exact h.objs.inj x x' c c' h1 h2 e
end newObj

/-- An object turned: the world is as it was but for its block. -/
def Env.setObj (E : Env) (id : Nat) (w' : World) (k : OKind) : Env := { E with w := w', H := E.H.set id (.obj k) }
structure World.Turned (w w' : World) (b : Nat) : Prop where
  os : w'.os = w.os
  tape : w'.tape = w.tape
  output : w'.output = w.output
  size : w'.heap.size = w.heap.size
  other : ∀ x, x ≠ b → w'.heap[x]? = w.heap[x]?
section setObj
variable {E : Env} (h : E.Ok) {id : Nat} {k0 : OKind} (hi : E.H[id]? = some (.obj k0)) {w' : World} (ht : World.Turned E.w w' (E.ρ id)) (k : OKind)
include h hi ht
theorem Env.setObj_view : E.view.le (E.setObj id w' k).view := by
  have hlen := len_of_get hi
  obtain ⟨_, hk⟩ := h.objs.at_ id k0 hi
  refine ⟨fun a u hc => ?_, fun x hb => ?_, fun x hb => rfl, fun x t' hb hx => ⟨t', ?_, .inl rfl⟩⟩
  · simp only [Env.view] at hc ⊢
    split at hc
    · rename_i hs
      have hne : a.block ≠ E.ρ id := by intro e; rw [e, hk] at hs; simp [Kind.stable] at hs
      simp only [Env.setObj, hs, if_true]
      rw [cell?_congr (ht.other _ hne)]; exact hc
    · cases hc
  · obtain ⟨o, a1, a2⟩ := hb
    by_cases e : x = id
    · exact ⟨.obj k, by simp only [Env.setObj, get_set hlen, if_pos e], by simp⟩
    · exact ⟨o, by simp only [Env.setObj, get_set hlen, if_neg e]; exact a1, a2⟩
  · by_cases e : x = id
    · simp only [Env.view, Env.setObj, get_set hlen, if_pos e] at hx; cases hx
    · simp only [Env.view, Env.setObj, get_set hlen, if_neg e] at hx ⊢; exact hx
theorem Env.setObj_le : E.le (E.setObj id w' k) := by
  have hlen := len_of_get hi
  refine ⟨ht.os, ht.tape, ht.output, by show _ ≤ w'.heap.size; rw [ht.size]; exact Nat.le_refl _, fun b hb hn => ⟨rfl, ht.other _ fun e => hn (.inr (.inr ⟨id, k0, hi, e.symm⟩))⟩, Env.setObj_view h hi ht k, fun b hb => Or.imp ?_ (Or.imp ?_ ?_)⟩
  · rintro ⟨x, cs', a1, a2⟩
    simp only [Env.setObj, get_set hlen] at a1 a2
    split at a1
    · cases a1
    · exact ⟨x, cs', a1, a2⟩
  · rintro ⟨x, n, sz, a1, a2⟩
    simp only [Env.setObj, get_set hlen] at a1 a2
    split at a1
    · cases a1
    · exact ⟨x, n, sz, a1, a2⟩
  · rintro ⟨x, k', a1, a2⟩
    simp only [Env.setObj, get_set hlen] at a1 a2
    split at a1
    · rename_i e; exact ⟨id, k0, hi, by rw [← e]; exact a2⟩
    · exact ⟨x, k', a1, a2⟩
theorem Env.Ok.setObj (hr : ∃ o, w'.heap[E.ρ id]? = some o ∧ OR E.view k o) : (E.setObj id w' k).Ok := by
  have hlen := len_of_get hi
  have hle := Env.setObj_view h hi ht k
  obtain ⟨⟨o0, h1, h2⟩, h3⟩ := h.objs.at_ id k0 hi
  refine ⟨?_, ?_, ?_, ?_, h.globs_of hle.cell (by intro x b vs hx; simp only [Env.setObj, get_set hlen] at hx; split at hx <;> first | exact hx | cases hx), ?_, ?_⟩
  · intro x cs' hx
    simp only [Env.setObj, get_set hlen] at hx
    split at hx
    · cases hx
    · obtain ⟨arr', elem', b1, b2, b3, b4⟩ := h.rows x cs' hx
      have hne : E.ρ x ≠ E.ρ id := fun q => by rw [q, h1] at b1; cases b1; exact h2.cells
      exact ⟨arr', elem', by rw [← b1]; exact ht.other _ hne, b2, fun i hl => (b3 i hl).mono hle, b4⟩
  · intro x n sz b hx hb
    simp only [Env.setObj, get_set hlen] at hx hb
    split at hx
    · cases hx
    · obtain ⟨arr', elem', pos, b1, b2⟩ := h.bufs x n sz b hx hb
      have hne : b ≠ E.ρ id := by intro q; rw [q, h3] at b2; cases b2
      exact ⟨arr', elem', pos, by rw [← b1]; exact ht.other _ hne, b2⟩
  · intro x x' c c' a1 a2 e
    simp only [Env.setObj, get_set hlen] at a1 a2 e
    split at a1 <;> split at a2
    · cases a1
    · cases a1
    · cases a2
    · exact h.injr x x' c c' a1 a2 e
  · intro x x' n sz n' sz' b a1 a2 e e'
    simp only [Env.setObj, get_set hlen] at a1 a2 e e'
    split at a1 <;> split at a2
    · cases a1
    · cases a1
    · cases a2
    · exact h.injb x x' n sz n' sz' b a1 a2 e e'
  · intro x k' hx
    simp only [Env.setObj, get_set hlen] at hx
    split at hx
    · rename_i e
      cases hx
      subst e
      obtain ⟨o, b1, b2⟩ := hr
      exact ⟨⟨o, b1, b2.mono hle⟩, h3⟩
    · rename_i e
      obtain ⟨⟨o, b1, b2⟩, b3⟩ := h.objs.at_ x k' hx
      have hne : E.ρ x ≠ E.ρ id := fun q => e (h.objs.inj x id k' k0 hx hi q)
      exact ⟨⟨o, by rw [← b1]; exact ht.other _ hne, b2.mono hle⟩, b3⟩
  · intro x x' c c' a1 a2 e
    simp only [Env.setObj, get_set hlen] at a1 a2 e
    have fix : ∀ y d, (if y = id then some (AObj.obj k) else E.H[y]?) = some (.obj d) → ∃ d', E.H[y]? = some (.obj d') := by
      intro y d q
      split at q
      · rename_i e; subst e; exact ⟨k0, hi⟩
      · exact ⟨d, q⟩
    obtain ⟨d, hd⟩ := fix _ _ a1
    obtain ⟨d', hd'⟩ := fix _ _ a2
    exact h.objs.inj x x' d d' hd hd' e
end setObj

section
variable {P : Program} {N nb : Nat} {ops : Array Oper} {Q : Post}
/-- Some operation that makes an object. -/
theorem aops_newObj {o : Oper} {l : List Oper} {T : Slots} {H : Heap} {ob : Obj} {k : OKind} {v : PV} (hw : awanted ops.toList T N o = some true) (hr : ∀ V, OR V k ob)
    (hrun : ∀ (E : Env) (a : Act), E.Ok → E.H = H → TRel E.view N a T → ∃ val, (execOp a.eval o).run P E.w = .ok (.value val) (E.w.alloc ob) ∧ ∀ V : View, V.born H.length → V.rho H.length = E.w.heap.size → VRel V val v)
    (h : AOps P N nb ops Q l (updO T o.dst v) (H ++ [.obj k])) : AOps P N nb ops Q (o :: l) T H := by
  refine aops_done hw (fun E a ho hH ht => ?_) h
  obtain ⟨val, h1, h2⟩ := hrun E a ho hH ht
  have hun : E.ext.H[E.H.length]? = some .unborn := by simp [Env.ext]
  have hl := E.ext_le.trans (Env.newObj_le ho.ext hun ob k)
  have hH' : (E.ext.newObj E.H.length ob k).H = H ++ [.obj k] := by
    simp only [Env.newObj, Env.ext]
    rw [List.set_append_right _ _ (Nat.le_refl _)]; simp [hH]
  refine ⟨E.ext.newObj E.H.length ob k, val, .inl ?_, hl, ho.ext.newObj hun ob k (hr _), hH', ?_⟩
  · rw [h1]; rfl
  · refine h2 _ ?_ ?_
    · refine ⟨.obj k, ?_, by simp⟩
      rw [hH']; simp
    · show (if H.length = E.H.length then _ else _) = _
      rw [if_pos (by rw [hH])]; rfl
/-- Some operation that turns an object. -/
theorem aops_setObj {o : Oper} {l : List Oper} {T : Slots} {H : Heap} {id : Nat} {k0 k : OKind} {v : PV} (hid : H[id]? = some (.obj k0)) (hw : awanted ops.toList T N o = some true)
    (hrun : ∀ (E : Env) (a : Act), E.Ok → E.H = H → TRel E.view N a T → ∀ ob, E.w.heap[E.ρ id]? = some ob → OR E.view k0 ob → ∃ val w', (execOp a.eval o).run P E.w = .ok (.value val) w' ∧ World.Turned E.w w' (E.ρ id) ∧ (∃ ob', w'.heap[E.ρ id]? = some ob' ∧ OR E.view k ob') ∧ VRel E.view val v)
    (h : AOps P N nb ops Q l (updO T o.dst v) (H.set id (.obj k))) : AOps P N nb ops Q (o :: l) T H := by
  refine aops_done hw (fun E a ho hH ht => ?_) h
  have hi : E.H[id]? = some (.obj k0) := by rw [hH]; exact hid
  obtain ⟨⟨ob, b1, b2⟩, _⟩ := ho.objs.at_ id k0 hi
  obtain ⟨val, w', h1, h2, h3, h4⟩ := hrun E a ho hH ht ob b1 b2
  exact ⟨E.setObj id w' k, val, .inl h1, Env.setObj_le ho hi h2 k, ho.setObj hi h2 k h3, by simp only [Env.setObj, hH], h4.mono (Env.setObj_view ho hi h2 k)⟩

theorem aops_range {o : Oper} {l : List Oper} {T : Slots} {H : Heap} {x : Operand} {t : TypeId} {s : List UInt8} (hop : o.op = .range t x) (hx : aev T x = .str s) (ht : P.underlying t = some .string) (okx : okOpnd N x = true) (hw : awanted ops.toList T N o = some true)
    (h : AOps P N nb ops Q l (updO T o.dst (.optr H.length 0)) (H ++ [.obj (.iter s 0)])) : AOps P N nb ops Q (o :: l) T H := by
  intro E a ho hH htr
  have hv := vrel_eval htr x okx
  rw [hx] at hv
  generalize he : a.eval x = w at hv
  cases hv with
  | str z =>
    refine aops_newObj (ob := .stringIter z 0) (k := .iter z.data.toList 0) hw (fun V => ⟨z, rfl, rfl⟩) (fun E' a' ho' hH' ht' => ?_) h E a ho hH htr
    have hv' := vrel_eval ht' x okx
    rw [hx] at hv'
    generalize he' : a'.eval x = w' at hv'
    generalize hq : z.data.toList = q at hv'
    cases hv' with
    | str z' =>
      have : z' = z := by
        obtain ⟨⟨l1⟩⟩ := z; obtain ⟨⟨l2⟩⟩ := z'
        simp at hq; rw [hq]
      subst this
      refine ⟨.pointer (some ⟨E'.w.heap.size, 0, none⟩), ?_, fun V h1 h2 => ?_⟩
      · unfold execOp
        rw [hop]
        simp only [Sem.run_bind, he', run_range_string _ _ _ ht, Result.andThen_ok, Sem.run_pure, World.iter]
      · rw [← h2]; exact .optr _ _ h1

def decL (s : List UInt8) : Nat × Nat := Go.Lib.decodeN s.length (s.getD 0 0).toNat (s.getD 1 0).toNat (s.getD 2 0).toNat (s.getD 3 0).toNat
theorem get!_getD (z : ByteArray) (i : Nat) : z.get! i = z.data.toList.getD i 0 := by
  show z.data[i]! = _
  rw [getElem!_def, List.getD_eq_getElem?_getD, Array.getElem?_toList]
  cases z.data[i]? <;> rfl
theorem decL_at (z : ByteArray) (pos : Nat) : Utf8.decode z pos = decL (z.data.toList.drop pos) := by
  rw [Go.Lib.decode_at]
  unfold decL
  have hsz : z.size = z.data.toList.length := rfl
  rw [List.length_drop, hsz]
  have e : ∀ k, (z.data.toList.drop pos).getD k 0 = z.get! (pos + k) := fun k => by
    rw [get!_getD, List.getD_eq_getElem?_getD, List.getElem?_drop, ← List.getD_eq_getElem?_getD]
  rw [e, e, e, e]; rfl
theorem aops_nextS {o : Oper} {l : List Oper} {T : Slots} {H : Heap} {x : Operand} {id pos : Nat} {s : List UInt8} (hid : H[id]? = some (.obj (.iter s pos))) (hop : o.op = .next x true) (hx : aev T x = .optr id 0) (okx : okOpnd N x = true) (hlt : pos < s.length)
    (hw : awanted ops.toList T N o = some true)
    (h : AOps P N nb ops Q l (updO T o.dst (.tup [.bool true, .int .i64 pos, .int .i32 (decL (s.drop pos)).1])) (H.set id (.obj (.iter s (pos + (decL (s.drop pos)).2))))) : AOps P N nb ops Q (o :: l) T H := by
  refine aops_setObj hid hw (fun E a ho hH ht ob b1 b2 => ?_) h
  obtain ⟨z, rfl, hz⟩ := b2
  have hv := vrel_eval ht x okx
  rw [hx] at hv
  generalize he : a.eval x = w at hv
  generalize hp : PV.optr id 0 = p at hv
  cases hv <;> cases hp
  have hsz : pos < z.size := by rw [← hz] at hlt; exact hlt
  refine ⟨.tuple #[.bool true, .int .i64 pos, .int .i32 (decL (s.drop pos)).1], E.w.iterAt (E.ρ id) z (pos + (decL (s.drop pos)).2), ?_, ⟨rfl, rfl, rfl, iterAt_size _ _ _ _, fun b hb => iterAt_other _ _ _ _ _ hb⟩, ⟨_, iterAt_heap _ _ _ _ _ b1, z, rfl, hz⟩, ?_⟩
  · unfold execOp
    rw [hop]
    simp only [Sem.run_bind, he]
    rw [show (E.view.rho id) = E.ρ id from rfl, run_next_any_at _ _ _ _ _ b1 hsz, decL_at, hz]
    simp only [Result.andThen_ok, Sem.run_pure]
  · refine .tup _ _ rfl fun i hi => ?_
    match i, hi with
    | 0, _ => exact .bool _
    | 1, _ => exact .int _ _
    | 2, _ => exact .int _ _
theorem aops_nextE {o : Oper} {l : List Oper} {T : Slots} {H : Heap} {x : Operand} {id pos : Nat} {s : List UInt8} (hid : H[id]? = some (.obj (.iter s pos))) (hop : o.op = .next x true) (hx : aev T x = .optr id 0) (okx : okOpnd N x = true) (hlt : ¬ pos < s.length)
    (hw : awanted ops.toList T N o = some true)
    (h : AOps P N nb ops Q l (updO T o.dst (.tup [.bool false])) (H.set id (.obj (.iter s pos)))) : AOps P N nb ops Q (o :: l) T H := by
  refine aops_setObj hid hw (fun E a ho hH ht ob b1 b2 => ?_) h
  obtain ⟨z, rfl, hz⟩ := b2
  have hv := vrel_eval ht x okx
  rw [hx] at hv
  generalize he : a.eval x = w at hv
  generalize hp : PV.optr id 0 = p at hv
  cases hv <;> cases hp
  have hsz : ¬ pos < z.size := by rw [← hz] at hlt; exact hlt
  refine ⟨.tuple #[.bool false], E.w, ?_, ⟨rfl, rfl, rfl, rfl, fun b hb => rfl⟩, ⟨_, b1, z, rfl, hz⟩, ?_⟩
  · unfold execOp
    rw [hop]
    simp only [Sem.run_bind, he]
    rw [show (E.view.rho id) = E.ρ id from rfl, run_next_end_at _ _ _ _ _ b1 hsz]
    simp only [Result.andThen_ok, Sem.run_pure]
  · refine .tup _ _ rfl fun i hi => ?_
    match i, hi with
    | 0, _ => exact .bool _
end
end Go.Abs
namespace Go.Abs
/-! An append of one element to a slice whose elements may still change. -/
section
variable {P : Program} {N nb : Nat} {ops : Array Oper} {Q : Post}
/-- No room: a new block. -/
theorem aops_appNew {o : Oper} {l : List Oper} {T : Slots} {H : Heap} {x y : Operand} {t u : TypeId} {ei : TypeId × TI} {z e1 : PV} {tl : Tail} {n : Nat} {oc : List PV} (hw : awanted ops.toList T N o = some true)
    (hop : o.op = .call ⟨.builtin .append, #[x, y], #[t, u]⟩) (okx : okOpnd N x = true) (oky : okOpnd N y = true) (hy : aev T y = .slice [e1] tl)
    (hb : (n + 1) * ei.2.bytes ≤ 2 ^ 47) (hm : n + 1 ≤ maxLen) (hxs : e1.cells.length = ei.2.sz)
    (hte : telem P t = some ei) (htu : (telem P u).isSome = true) (hz : tzero P ei.1 = some z) (hzf : z.fits ei.2 = true)
    (hold : ∀ (E : Env) (v : Value), E.Ok → E.H = H → VRel E.view v (aev T x) → ∃ ad, v = .slice ad n n ∧ ∃ arrs, (Builtin.firstCells ei.2.sz n (.slice ad n n)).run P E.w = .ok arrs E.w ∧ RL E.view arrs oc)
    (h : ∀ (c : Nat) (rest : List PV), n + 1 ≤ c → c ≤ maxLen → rest = (List.replicate (c - (n + 1)) z.cells).flatten → AOps P N nb ops Q l (updO T o.dst (.msl H.length 0 (n + 1) c)) (H ++ [.row (oc ++ e1.cells ++ rest)])) : AOps P N nb ops Q (o :: l) T H := by
  intro E a ho hH ht
  subst hH
  obtain ⟨e, i⟩ := ei
  obtain ⟨h1, h2⟩ := telem_some hte
  obtain ⟨dd, f, h3, h4, rfl⟩ := tinfo_some h2
  obtain ⟨f', zv, h5, h6, rfl⟩ := tzero_some hz
  simp only at h5 hzf hb hxs hold
  rw [h4] at h5; cases h5
  obtain ⟨hzs, hzj⟩ := PV.fits_spec hzf
  simp only at hzs
  obtain ⟨zc1, zc2⟩ := (vrel_ofConst E.view zv).not_junk_cells hzj
  obtain ⟨eu, hue⟩ := telem_isSome htu
  have hvx := vrel_eval ht x okx
  have hvy := vrel_eval ht y oky
  rw [hy] at hvy
  have hd := ho.drew
  obtain ⟨adx, vx, arrs, s1, s2⟩ := hold E.drew _ hd rfl hvx
  have hxs' : ∀ q ∈ [e1], q.cells.length = f.size := fun q hq => by rw [List.mem_singleton.1 hq]; exact hxs
  have em : maxLen = 9223372036854775807 := by decide
  obtain ⟨c, hc6, hc7, hc8⟩ := run_choose_cap (P := P) (w := E.w) (n + 1) n e
  have hcm : c ≤ maxLen := by
    have := hc8 (by have e2 : maxLen = 2 ^ 63 - 1 := rfl; omega)
    have e2 : maxLen = 2 ^ 63 - 1 := rfl
    omega
  obtain ⟨arrx, r1, r2, ady, capy, vy, hcy1, hcy2, _⟩ := run_first (P := P) (E := E.drew) hvy hxs'
  have hzl2 : RL E.drew.view (Builtin.zeroCells zv.cells (c - (n + 1))) ((List.replicate (c - (n + 1)) (ofConst zv).cells).flatten) := by
    have := rl_zero (V := E.drew.view) zv hzj (c - (n + 1))
    rw [flatE_replicate] at this
    exact this
  have hfe : flatE [e1] = e1.cells := by simp [flatE]
  rw [hfe] at r2
  let arr : Array Value := arrs ++ arrx ++ Builtin.zeroCells zv.cells (c - (n + 1))
  have hrl : RL E.drew.view arr (oc ++ e1.cells ++ (List.replicate (c - (n + 1)) (ofConst zv).cells).flatten) := rl_append (rl_append s2 r2) hzl2
  have hun : E.drew.ext.H[E.H.length]? = some .unborn := by simp [Env.ext, Env.drew]
  have hle' := E.drew.ext_le.trans (Env.newRow_le (E := E.drew.ext) hd.ext (id := E.H.length) hun arr e (oc ++ e1.cells ++ (List.replicate (c - (n + 1)) (ofConst zv).cells).flatten))
  have hok' := Env.Ok.newRow (E := E.drew.ext) hd.ext (id := E.H.length) hun arr e (oc ++ e1.cells ++ (List.replicate (c - (n + 1)) (ofConst zv).cells).flatten) hrl.1 (fun i hl => (hrl.2 i hl).mono E.drew.ext_view_le)
  have hH' : (E.drew.ext.newRow E.H.length arr e (oc ++ e1.cells ++ (List.replicate (c - (n + 1)) (ofConst zv).cells).flatten)).H = E.H ++ [.row (oc ++ e1.cells ++ (List.replicate (c - (n + 1)) (ofConst zv).cells).flatten)] := by
    simp only [Env.newRow, Env.ext, Env.drew]
    rw [List.set_append_right _ _ (Nat.le_refl _)]; simp
  have run1 : (execOp a.eval o).run P E.w = .ok (.value (.slice (some ⟨E.w.heap.size, 0, none⟩) (n + 1) c)) (E.drew.ext.newRow E.H.length arr e (oc ++ e1.cells ++ (List.replicate (c - (n + 1)) (ofConst zv).cells).flatten)).w := by
    unfold execOp
    rw [hop]
    simp only
    refine (run_builtin (c := ⟨.builtin .append, #[x, y], #[t, u]⟩) (a := a) (E := E) (P := P) (xs := [x, y]) (ts := [t, u]) (ty := o.type) rfl rfl rfl (s := Builtin.append_ #[t, u] o.type #[a.eval x, a.eval y]) rfl).trans ?_
    have hc6' : (choose (.appendCap (n + 1) n e)).run P E.w = .ok c E.drew.w := hc6
    have n2 : ¬ n + 1 ≤ n := by omega
    have n3 : ¬ ((n + 1 : Nat) : Int) > IntKind.i64.max := by
      have e1 : IntKind.i64.max = 9223372036854775807 := by decide
      rw [e1]; omega
    have n4 : ¬ Builtin.nextslicecap (n + 1) n * f.bytes > 2 ^ 48 := by
      have := nextslicecap_le (n + 1) n (by omega)
      have := Nat.mul_le_mul_right f.bytes this
      rw [Nat.mul_assoc] at this
      omega
    have r1' : (Builtin.firstCells f.size 1 (.slice ady 1 capy)).run P E.drew.w = .ok arrx E.drew.w := by have := r1; rw [vy] at this; exact this
    have vy' : a.eval y = .slice ady 1 capy := vy
    simp only [Builtin.append_, List.getElem?_toArray, List.getElem?_cons_zero, List.getElem?_cons_succ, Sem.run_bind, run_under h1, run_size h4, run_under hue, Result.andThen_ok, Sem.run_pure, vx, vy', Builtin.lenOf, n2, n3, n4, if_true, if_false, run_tinfo h4,
      Bool.not_false, Bool.false_eq_true, run_zero h4 h6, hc6', run_ask, s1, r1', Go.newRow, run_newObj, false_and]
    rfl
  have hv : VRel (E.drew.ext.newRow E.H.length arr e (oc ++ e1.cells ++ (List.replicate (c - (n + 1)) (ofConst zv).cells).flatten)).view (.slice (some ⟨E.w.heap.size, 0, none⟩) (n + 1) c) (.msl E.H.length 0 (n + 1) c) := by
    have := VRel.msl (V := (E.drew.ext.newRow E.H.length arr e (oc ++ e1.cells ++ (List.replicate (c - (n + 1)) (ofConst zv).cells).flatten)).view) E.H.length 0 (n + 1) c
      ⟨.row _, by rw [hH', List.getElem?_append_right (Nat.le_refl _), Nat.sub_self]; rfl, by simp⟩ hcm
    simpa [Env.view, Env.newRow, Env.drew, Env.ext] using this
  refine wpList_cons (awanted_sound ht hw) ?_
  unfold Oper.wp
  rw [run1]
  show wpList P ops _ _ (a.put o.dst _) _
  have hle := E.drew_le.trans hle'
  have hn := h c _ hc7 hcm rfl _ _ hok' hH' ((ht.mono hle.view).put o.dst hv)
  exact wpList_mono (fun e a w hl => lift_mono (hle.leN nb) (fun _ _ _ q => q) hl) l _ _ hn
/-- Room: in place. -/
theorem aops_appIn {o : Oper} {l : List Oper} {T : Slots} {H : Heap} {x y : Operand} {t u : TypeId} {ei : TypeId × TI} {e1 : PV} {tl : Tail} {id n c : Nat} {cs : List PV} (hid : H[id]? = some (.row cs)) (hw : awanted ops.toList T N o = some true)
    (hop : o.op = .call ⟨.builtin .append, #[x, y], #[t, u]⟩) (okx : okOpnd N x = true) (oky : okOpnd N y = true) (hx : aev T x = .msl id 0 n c) (hy : aev T y = .slice [e1] tl) (hn : n + 1 ≤ c) (hcs : cs.length = c * ei.2.sz)
    (hxs : e1.cells.length = ei.2.sz) (hcell : e1.cells.all PV.isCell = true)
    (hte : telem P t = some ei) (htu : (telem P u).isSome = true)
    (h : AOps P N nb ops Q l (updO T o.dst (.msl id 0 (n + 1) c)) (H.set id (.row (splice cs (n * ei.2.sz) e1.cells)))) : AOps P N nb ops Q (o :: l) T H := by
  refine aops_done hw (fun E a ho hH ht => ?_) h
  subst hH
  obtain ⟨e, i⟩ := ei
  obtain ⟨h1, h2⟩ := telem_some hte
  obtain ⟨dd, f, h3, h4, rfl⟩ := tinfo_some h2
  simp only at hxs hcs ⊢
  obtain ⟨eu, hue⟩ := telem_isSome htu
  have hvx := vrel_eval ht x okx
  have hvy := vrel_eval ht y oky
  rw [hx] at hvx
  rw [hy] at hvy
  have hxs' : ∀ q ∈ [e1], q.cells.length = f.size := fun q hq => by rw [List.mem_singleton.1 hq]; exact hxs
  obtain ⟨arrx, r1, r2, ady, capy, vy, hcy1, hcy2, _⟩ := run_first (P := P) (E := E) hvy hxs'
  have hfe : flatE [e1] = e1.cells := by simp [flatE]
  rw [hfe] at r2
  have vx : a.eval x = .slice (some ⟨E.ρ id, 0, none⟩) n c ∧ c ≤ maxLen ∧ E.view.born id := by
    generalize a.eval x = w at hvx
    cases hvx with
    | msl _ _ _ _ hbn hm => exact ⟨rfl, hm, hbn⟩
  obtain ⟨vx, hcm, hbn⟩ := vx
  obtain ⟨E', e1', e2, e3, e4⟩ := storeRow (P := P) (id := id) (off := n * f.size) arrx.toList e1.cells 0 E cs ho hid (by rw [Array.length_toList]; exact r2.1) (fun j hj => by
    have := r2.2 j hj
    rw [Array.getD_eq_getD_getElem?] at this
    rw [List.getD_eq_getElem?_getD, Array.getElem?_toList]; exact this) hcell (by
      rw [Array.length_toList, r2.1, hxs, hcs]
      have : (n + 1) * f.size ≤ c * f.size := Nat.mul_le_mul_right _ hn
      rw [Nat.add_mul] at this; omega)
  refine ⟨E', .slice (some ⟨E.ρ id, 0, none⟩) (n + 1) c, .inl ?_, e2, e3, by rw [e4, Nat.add_zero], ?_⟩
  · unfold execOp
    rw [hop]
    simp only
    refine (run_builtin (c := ⟨.builtin .append, #[x, y], #[t, u]⟩) (a := a) (E := E) (P := P) (xs := [x, y]) (ts := [t, u]) (ty := o.type) rfl rfl rfl (s := Builtin.append_ #[t, u] o.type #[a.eval x, a.eval y]) rfl).trans ?_
    have r1' : (Builtin.firstCells f.size 1 (.slice ady 1 capy)).run P E.w = .ok arrx E.w := by have := r1; rw [vy] at this; exact this
    have vy' : a.eval y = .slice ady 1 capy := vy
    have hadd : (⟨E.ρ id, 0, none⟩ : Addr).add (n * f.size) = ⟨E.ρ id, n * f.size, none⟩ := by rw [add_plain, Nat.zero_add]
    simp only [Builtin.append_, List.getElem?_toArray, List.getElem?_cons_zero, List.getElem?_cons_succ, Sem.run_bind, run_under h1, run_size h4, run_under hue, Result.andThen_ok, Sem.run_pure, vx, vy', Builtin.lenOf, hn, if_true, if_false,
      Bool.not_false, Bool.false_eq_true, r1', hadd, e1']
  · have := VRel.msl (V := E'.view) id 0 (n + 1) c (e2.view.born id hbn) hcm
    rw [e2.view.rho id hbn] at this
    exact this
theorem first_nil {E : Env} {v : Value} {sz : Nat} (hv : VRel E.view v (.slice [] .full)) : ∃ ad, v = .slice ad 0 0 ∧ ∃ arrs, (Builtin.firstCells sz 0 (.slice ad 0 0)).run P E.w = .ok arrs E.w ∧ RL E.view arrs [] := by
  obtain ⟨ad, rfl⟩ : ∃ ad, v = .slice ad 0 0 := by
    cases hv with
    | nils _ _ => exact ⟨none, rfl⟩
    | slice ad len cap sz _ _ vs hlen hcap hmax hsz' hc hr ht =>
      have : cap = len := ht
      subst this; simp at hlen; subst hlen; exact ⟨some ad, rfl⟩
  refine ⟨ad, rfl, #[], ?_, rfl, fun i hi => by cases hi⟩
  cases ad <;> simp only [Builtin.firstCells, Nat.zero_mul, loadCells, loadCellsFrom, Sem.run_pure]
theorem first_msl {E : Env} {v : Value} {id n sz : Nat} {cs : List PV} (ho : E.Ok) (hid : E.H[id]? = some (.row cs)) (hcs : cs.length = n * sz) (hv : VRel E.view v (.msl id 0 n n)) : ∃ ad, v = .slice ad n n ∧ ∃ arrs, (Builtin.firstCells sz n (.slice ad n n)).run P E.w = .ok arrs E.w ∧ RL E.view arrs cs := by
  cases hv with
  | msl _ _ _ _ hbn hm =>
    obtain ⟨arr, elem, h1, h2, h3, h4⟩ := ho.rows id cs hid
    refine ⟨_, rfl, _, run_loadCells E.w ⟨E.ρ id, 0, none⟩ (n * sz) (fun k => arr.getD k undef) (fun k hk => ?_), ⟨by simp [hcs], fun i hi => ?_⟩⟩
    · rw [add_plain, Nat.zero_add, cell_row h1, Array.getD_eq_getD_getElem?, Array.getElem?_eq_getElem (by omega)]; rfl
    · rw [Array.getD_eq_getD_getElem?]
      have hi' : i < n * sz := by omega
      simp only [List.getElem?_toArray, List.getElem?_map, List.getElem?_range hi', Option.map_some, Option.getD_some]
      exact h3 i hi
end
end Go.Abs
namespace Go.Abs
/-! A string's bytes as a slice; operations on values in a guarded region; comparison of structs of two integers. -/
def u8v (b : UInt8) : PV := .int .u8 b.toNat
theorem aops_toBytes {P : Program} {N nb : Nat} {ops : Array Oper} {Q : Post} {o : Oper} {l : List Oper} {T : Slots} {H : Heap} {x : Operand} {t u e : TypeId} {s : List UInt8} (hop : o.op = .convert t u x) (hx : aev T x = .str s) (okx : okOpnd N x = true)
    (ht : P.underlying t = some .string) (hu : P.underlying u = some (.slice e)) (he : P.underlying e = some (.int .u8)) (hs : s.length ≤ maxLen) (hw : awanted ops.toList T N o = some true)
    (h : AOps P N nb ops Q l (updO T o.dst (.slice (s.map u8v) .none)) H) : AOps P N nb ops Q (o :: l) T H := by
  refine aops_done hw (fun E a ho hH htr => ?_) h
  have hv := vrel_eval htr x okx
  rw [hx] at hv
  generalize hq : a.eval x = w at hv
  cases hv with
  | str z =>
    have hd := ho.drew
    have hlen : z.data.toList.length = z.size := rfl
    have em : maxLen = 9223372036854775807 := by decide
    obtain ⟨c, hc6, hc7, hc8⟩ := run_choose_cap (P := P) (w := E.w) z.size 0 e
    have hcg : c = grownCap E.w z.size 0 e := by
      have h2 : (choose (.appendCap z.size 0 e)).run P E.w = .ok (grownCap E.w z.size 0 e) E.w.drew := by
        simp only [choose, Sem.run, Question.forced, Bool.false_eq_true, if_false, Question.cut, grownCap]; rfl
      rw [hc6] at h2; cases h2; rfl
    have hcm : c ≤ maxLen := by
      have := hc8 (by have e2 : maxLen = 2 ^ 63 - 1 := rfl; omega)
      have e2 : maxLen = 2 ^ 63 - 1 := rfl
      omega
    have hrun := run_bytes_of_string (P := P) E.w t u e z ht hu he
    rw [← hcg] at hrun
    refine ⟨E.drew.newFixed (.cells (bytesRow z c) e ((bytesRow z c).size, (bytesRow z c).size + 1)), .slice (some ⟨E.w.heap.size, 0, none⟩) z.size c, .inl ?_, E.drew_le.trans (Env.newFixed_le hd _), hd.newFixed _, hH, ?_⟩
    · unfold execOp
      rw [hop]
      simp only [Sem.run_bind, hq, hrun, Result.andThen_ok, Sem.run_pure]
      rfl
    · refine .slice _ _ _ 1 _ _ (fun i _ => .int .u8 (z.data.toList.getD i 0).toNat) (by simp) hc7 hcm ?_ ?_ ?_ trivial
      · intro i hi
        simp only [List.getElem_map]; rfl
      · intro i j hi hj
        have hj0 : j = 0 := by omega
        subst hj0
        rw [add_plain, Nat.mul_one, Nat.add_zero, Nat.zero_add]
        refine Env.cell_of ?_ ?_
        · show Kind.stable (if E.w.heap.size = E.w.heap.size then .fixed else _) _ = true
          rw [if_pos rfl]; rfl
        · show World.cell? (World.alloc E.w.drew _) _ = _
          unfold World.cell?
          have := heap_alloc_new E.w.drew (.cells (bytesRow z c) e ((bytesRow z c).size, (bytesRow z c).size + 1))
          rw [show E.w.drew.heap.size = E.w.heap.size from rfl] at this
          rw [this]
          have hi' : i < z.data.size := hi
          simp [bytesRow, Array.getElem?_append, hi, Array.getElem?_eq_getElem hi', List.getD_eq_getElem?_getD]
      · intro i j hi hj
        simp only [List.getElem_map] at hj ⊢
        have hi' : i < z.data.toList.length := by simpa using hi
        have hj0 : j = 0 := by
          have : j < 1 := hj
          omega
        subst hj0
        rw [List.getD_eq_getElem?_getD, List.getElem?_eq_getElem hi']
        exact VRel.int _ _
theorem aops_gval {P : Program} {N nb : Nat} {ops : Array Oper} {Q : Post} {o : Oper} {l : List Oper} {T : Slots} {G : Nat → Bool} {H : Heap} {v : PV} (hc : gcond ops.toList T G N o = some true) (hg : o.op.operands.toList.all (gOk true G) = true)
    (hv : ∀ (E : Env) (a : Act), E.Ok → (∀ x ∈ o.op.operands.toList, okOpnd N x = true → VRel E.view (a.eval x) (aev T x)) → ∃ val, (execOp a.eval o).run P E.w = .ok (.value val) E.w ∧ VRel E.view val v)
    (h : AOps P N nb ops Q l (msk (.tup []) (updO T o.dst v) (ugO G o.dst true)) H) : AOps P N nb ops Q (o :: l) (msk (.tup []) T G) H := by
  rw [msk_put_true] at h
  refine aops_done ((gcond_sound hc).1 rfl _) (fun E a ho hE ht => ?_) h
  obtain ⟨val, h1, h2⟩ := hv E a ho fun x hx hok => by
    have := vrel_eval ht x hok
    rwa [aev_msk (List.all_eq_true.1 hg x hx)] at this
  exact ⟨E, val, .inl h1, .refl E, ho, hE, h2⟩
structure IIAt (P : Program) (t : TypeId) where
  f0 : Field
  f1 : Field
  ut : P.underlying t = some (.struct #[f0, f1])
  held : P.stoodInHeld t = false
  n0 : f0.name ≠ "_"
  n1 : f1.name ≠ "_"
  o0 : f0.offset = 0
  o1 : f1.offset = 1
  u0 : P.underlying f0.type = some (.int .i64)
  u1 : P.underlying f1.type = some (.int .i64)
  a0 : ∀ w, (isAgg f0.type).run P w = .ok false w
  a1 : ∀ w, (isAgg f1.type).run P w = .ok false w
  gu : P.eqGuardType P.depth t = false
theorem run_eqII {P : Program} {t : TypeId} (F : IIAt P t) (w : World) (a b c d : Int) :
    (Op.equal t (.agg #[.int .i64 a, .int .i64 b]) (.agg #[.int .i64 c, .int .i64 d])).run P w = .ok ((a == c) && (b == d)) w := by
  have hf : P.fieldsOf t = #[F.f0, F.f1] := by unfold Program.fieldsOf; rw [F.ut]
  have p0 : ∀ (x : Value) (y : Value) w, (part F.f0.type #[x, y] F.f0.offset).run P w = .ok x w := fun x y w => by
    simp only [part, Sem.run_bind, F.a0, Result.andThen_ok, F.o0]; rfl
  have p1 : ∀ (x : Value) (y : Value) w, (part F.f1.type #[x, y] F.f1.offset).run P w = .ok y w := fun x y w => by
    simp only [part, Sem.run_bind, F.a1, Result.andThen_ok, F.o1]; rfl
  show (Op.equalIn (9999 + 1) t _ _).run P w = _
  rw [run_equalIn_struct w 9999 t _ _ (by rw [hf]; exact F.ut) F.held, hf]
  show (Op.eqFields 9999 _ _ [F.f0, F.f1]).run P w = _
  simp only [Op.eqFields, if_pos F.n0, if_pos F.n1, Sem.run_bind, p0, p1, Result.andThen_ok, run_equalIn_int w 9998 _ _ _ _ _ F.u0, run_equalIn_int w 9998 _ _ _ _ _ F.u1, Sem.run_ite, Sem.run_pure]
  cases h1 : (a == c) <;> cases h2 : (b == d) <;> simp
theorem guard_ii {P : Program} {t : TypeId} (F : IIAt P t) {w : World} (op : BinOp) (x y : Operand) (u v : Array Value) : (eqGuard op t x y (.agg u) (.agg v)).run P w = .ok () w := by
  unfold eqGuard
  simp only [Sem.run_bind, run_program, Result.andThen_ok, F.gu, Bool.not_false, if_true, Sem.run_ite, Sem.run_pure]
  split <;> rfl
theorem inv_II {V : View} {v : Value} {n m : Int} (hv : VRel V v (.agg [.int .i64 n, .int .i64 m])) : v = .agg #[.int .i64 n, .int .i64 m] := by
  cases hv with
  | agg arr _ hl hr =>
    have h0 := hr 0 (by simp)
    have h1 := hr 1 (by simp)
    simp only [List.getElem_cons_zero, List.getElem_cons_succ] at h0 h1
    have hs : arr.size = 2 := by simpa using hl
    rw [Array.getD_eq_getD_getElem?, Array.getElem?_eq_getElem (by omega)] at h0 h1
    simp only [Option.getD_some] at h0 h1
    generalize hg0 : arr[0] = g0 at h0
    generalize hg1 : arr[1] = g1 at h1
    cases h0 with
    | int =>
      cases h1 with
      | int =>
        congr 1
        apply Array.ext
        · simp [hs]
        · intro i hi hi2
          match i, hi2 with
          | 0, _ => exact hg0
          | 1, _ => exact hg1
section
variable {P : Program} {N nb : Nat} {ops : Array Oper} {Q : Post} {o : Oper} {l : List Oper} {T : Slots} {G : Nat → Bool} {H : Heap} {t y' : TypeId} {x y : Operand} {a b c d : Int}
theorem aops_neqII (F : IIAt P t) (hop : o.op = .binOp .neq t x y y') (hx : aev T x = .agg [.int .i64 a, .int .i64 b]) (hy : aev T y = .agg [.int .i64 c, .int .i64 d]) (hc : gcond ops.toList T G N o = some true) (hg : o.op.operands.toList.all (gOk true G) = true) (okx : okOpnd N x = true) (oky : okOpnd N y = true)
    (h : AOps P N nb ops Q l (msk (.tup []) (updO T o.dst (.bool (!(decide (a = c) && decide (b = d))))) (ugO G o.dst true)) H) : AOps P N nb ops Q (o :: l) (msk (.tup []) T G) H := by
  refine aops_gval hc hg (fun E A ho he => ?_) h
  have rx := he x (by rw [hop]; simp [Op.operands]) okx
  have ry := he y (by rw [hop]; simp [Op.operands]) oky
  rw [hx] at rx; rw [hy] at ry
  have hvx := inv_II rx
  have hvy := inv_II ry
  have hb : ((a == c) && (b == d)) = (decide (a = c) && decide (b = d)) := by rw [Bool.eq_iff_iff]; simp
  refine ⟨.bool (!(decide (a = c) && decide (b = d))), ?_, .bool _⟩
  unfold execOp
  rw [hop]
  simp only [Sem.run_bind, hvx, hvy, guard_ii F, Result.andThen_ok, binOp, run_eqII F, Sem.run_pure, hb]
theorem aops_eqlII (F : IIAt P t) (hop : o.op = .binOp .eql t x y y') (hx : aev T x = .agg [.int .i64 a, .int .i64 b]) (hy : aev T y = .agg [.int .i64 c, .int .i64 d]) (hc : gcond ops.toList T G N o = some true) (hg : o.op.operands.toList.all (gOk true G) = true) (okx : okOpnd N x = true) (oky : okOpnd N y = true)
    (h : AOps P N nb ops Q l (msk (.tup []) (updO T o.dst (.bool (decide (a = c) && decide (b = d)))) (ugO G o.dst true)) H) : AOps P N nb ops Q (o :: l) (msk (.tup []) T G) H := by
  refine aops_gval hc hg (fun E A ho he => ?_) h
  have rx := he x (by rw [hop]; simp [Op.operands]) okx
  have ry := he y (by rw [hop]; simp [Op.operands]) oky
  rw [hx] at rx; rw [hy] at ry
  have hvx := inv_II rx
  have hvy := inv_II ry
  have hb : ((a == c) && (b == d)) = (decide (a = c) && decide (b = d)) := by rw [Bool.eq_iff_iff]; simp
  refine ⟨.bool (decide (a = c) && decide (b = d)), ?_, .bool _⟩
  unfold execOp
  rw [hop]
  simp only [Sem.run_bind, hvx, hvy, guard_ii F, Result.andThen_ok, binOp, run_eqII F, Sem.run_pure, hb]
end
end Go.Abs
namespace Go.Abs
def Ty.zero : Ty := .mk 0 0 []
abbrev MSt := List Ty × List Bool
/-- The arguments, one behind the other. -/
def matchL : List (Ty × (Ty → MSt → Bool × MSt)) → MSt → Bool × MSt
  | [], s => (true, s)
  | (a, f) :: r, s => if (f a s).1 then matchL r (f a s).2 else (false, (f a s).2)
/-- What the matcher does. -/
def matchT (ps : List Int) (t : Ty) : Ty → MSt → Bool × MSt
  | .mk pk pi us, s =>
    if (decide (pk = 2) && decide (idxI (fun x => decide (pi = x)) ps ≥ 0)) = true then
      if s.2.getD (idxI (fun x => decide (pi = x)) ps).toNat false = true then ((s.1.getD (idxI (fun x => decide (pi = x)) ps).toNat .zero).eqb t, s)
      else (true, s.1.set (idxI (fun x => decide (pi = x)) ps).toNat t, s.2.set (idxI (fun x => decide (pi = x)) ps).toNat true)
    else if (!decide (t.kind = pk) || !decide (t.id = pi) || !decide ((t.args.length : Int) = us.length)) = true then (false, s)
    else matchL (t.args.zip (us.map fun u => fun a s => matchT ps a u s)) s
theorem matchT_eq (ps : List Int) (t p : Ty) (s : MSt) : matchT ps t p s =
    if (decide (p.kind = 2) && decide (idxI (fun x => decide (p.id = x)) ps ≥ 0)) = true then
      if s.2.getD (idxI (fun x => decide (p.id = x)) ps).toNat false = true then ((s.1.getD (idxI (fun x => decide (p.id = x)) ps).toNat .zero).eqb t, s)
      else (true, s.1.set (idxI (fun x => decide (p.id = x)) ps).toNat t, s.2.set (idxI (fun x => decide (p.id = x)) ps).toNat true)
    else if (!decide (t.kind = p.kind) || !decide (t.id = p.id) || !decide ((t.args.length : Int) = p.args.length)) = true then (false, s)
    else matchL (t.args.zip (p.args.map fun u => fun a s => matchT ps a u s)) s := by
  cases p; rw [matchT]; rfl

/-- What the state keeps. -/
structure MOk (n : Nat) (s : MSt) : Prop where
  l1 : s.1.length = n
  l2 : s.2.length = n
  w : ∀ a ∈ s.1, a.W

theorem idxI_lt {α : Type} {p : α → Bool} {xs : List α} (h : idxI p xs ≥ 0) : idxI p xs < xs.length := by
  unfold idxI at h ⊢
  cases hq : xs.findIdx? p with
  | none => rw [hq] at h; simp at h
  | some i =>
    obtain ⟨hi, _⟩ := List.findIdx?_eq_some_iff_getElem.1 hq
    simp only; omega

theorem matchL_ok {n : Nat} : ∀ (l : List (Ty × (Ty → MSt → Bool × MSt))) (s : MSt), MOk n s → (∀ x ∈ l, ∀ s, MOk n s → MOk n (x.2 x.1 s).2) → MOk n (matchL l s).2
  | [], s, h, _ => h
  | (a, f) :: r, s, h, hl => by
    have h1 := hl _ (List.mem_cons_self ..) s h
    unfold matchL
    split
    · exact matchL_ok r _ h1 (fun x hx => hl x (List.mem_cons_of_mem _ hx))
    · exact h1

theorem matchT_ok (ps : List Int) : ∀ (p t : Ty) (s : MSt), t.W → MOk ps.length s → MOk ps.length (matchT ps t p s).2
  | .mk pk pi us, t, s, hw, h => by
    rw [matchT]
    split
    · split
      · exact h
      · rename_i hb
        refine ⟨by simp [h.l1], by simp [h.l2], fun a ha => ?_⟩
        rcases List.mem_or_eq_of_mem_set ha with h' | h'
        · exact h.w a h'
        · exact h' ▸ hw
    · split
      · exact h
      · refine matchL_ok _ _ h ?_
        rintro ⟨a, f⟩ hx s hs
        have hx1 := List.of_mem_zip hx
        obtain ⟨u, hu, rfl⟩ := List.mem_map.1 hx1.2
        exact matchT_ok ps u a s (hw.arg hx1.1) hs
end Go.Abs
namespace Go.Abs
def mH (H : Heap) (ia ib : Nat) (s : MSt) : Heap := (H.set ia (.row (flatE (s.1.map Ty.enc)))).set ib (.row (s.2.map PV.bool))
theorem mH_len (H : Heap) (ia ib : Nat) (s : MSt) : (mH H ia ib s).length = H.length := by simp [mH]
theorem mH_rules {H : Heap} {im ia ib : Nat} {R : AObj} (hia : ia < H.length) (hib : ib < H.length) (h1 : ia ≠ ib) (h2 : im ≠ ia) (h3 : im ≠ ib) (hR : H[im]? = some R) :
    (∀ s L, (mH H ia ib s ++ L)[im]? = some R) ∧ (∀ s L, (mH H ia ib s ++ L)[ia]? = some (.row (flatE (s.1.map Ty.enc)))) ∧ (∀ s L, (mH H ia ib s ++ L)[ib]? = some (.row (s.2.map PV.bool))) ∧
    (∀ s L xs, (mH H ia ib s ++ L).set ia (.row (flatE (List.map Ty.enc xs))) = mH H ia ib (xs, s.2) ++ L) ∧ (∀ s L bs, (mH H ia ib s ++ L).set ib (.row (List.map PV.bool bs)) = mH H ia ib (s.1, bs) ++ L) ∧
    (∀ s L k, (mH H ia ib s ++ L)[H.length + k]? = L[k]?) ∧ (∀ s L, (mH H ia ib s ++ L)[H.length]? = L[0]?) ∧ (∀ s L k o, (mH H ia ib s ++ L).set (H.length + k) o = mH H ia ib s ++ L.set k o) ∧ (∀ s L o, (mH H ia ib s ++ L).set H.length o = mH H ia ib s ++ L.set 0 o) ∧
    (∀ s, (mH H ia ib s).length = H.length) := by
  have hm := len_of_get hR
  have get : ∀ s L k, k < H.length → (mH H ia ib s ++ L)[k]? = (mH H ia ib s)[k]? := fun s L k hk => List.getElem?_append_left (by rw [mH_len]; exact hk)
  refine ⟨fun s L => ?_, fun s L => ?_, fun s L => ?_, fun s L xs => ?_, fun s L bs => ?_, fun s L k => ?_, fun s L => ?_, fun s L k o => ?_, fun s L o => ?_, fun s => mH_len ..⟩
  · rw [get _ _ _ hm]; simp only [mH]; rw [List.getElem?_set_ne (Ne.symm h3), List.getElem?_set_ne (Ne.symm h2)]; exact hR
  · rw [get _ _ _ hia]; simp only [mH]; rw [List.getElem?_set_ne (Ne.symm h1), List.getElem?_set_self hia]
  · rw [get _ _ _ hib]; simp only [mH]; rw [List.getElem?_set_self (by simpa using hib)]
  · rw [List.set_append_left _ _ (by rw [mH_len]; exact hia)]; simp only [mH]; rw [List.set_comm _ _ (Ne.symm h1), List.set_set]
  · rw [List.set_append_left _ _ (by rw [mH_len]; exact hib)]; simp only [mH]; rw [List.set_set]
  · have := get_app (mH H ia ib s) L k; rwa [mH_len] at this
  · have := get_app0 (mH H ia ib s) L; rwa [mH_len] at this
  · have := set_app (mH H ia ib s) L k o; rwa [mH_len] at this
  · have := set_app0 (mH H ia ib s) L o; rwa [mH_len] at this
theorem mH_self {H : Heap} {ia ib : Nat} {s : MSt} (h1 : H[ia]? = some (.row (flatE (s.1.map Ty.enc)))) (h2 : H[ib]? = some (.row (s.2.map PV.bool))) : mH H ia ib s = H := by
  unfold mH; rw [list_set_self h1, list_set_self h2]
theorem mH_bel {H : Heap} {ia ib : Nat} {s s' : MSt} (hb : HBel H.length (mH H ia ib s)) (hia : ia < H.length) (hib : ib < H.length) (h1 : ia ≠ ib) : HBel H.length (mH H ia ib s') := by
  intro o ho
  obtain ⟨k, hk⟩ := List.mem_iff_getElem?.1 ho
  simp only [mH] at hk
  by_cases e1 : k = ib
  · subst e1
    rw [List.getElem?_set_self (by simpa using hib)] at hk
    cases hk
    intro c hc
    obtain ⟨b, _, rfl⟩ := List.mem_map.1 hc
    exact .bool _
  · rw [List.getElem?_set_ne (Ne.symm e1)] at hk
    by_cases e2 : k = ia
    · subst e2
      rw [List.getElem?_set_self hia] at hk
      cases hk
      intro c hc
      obtain ⟨l, hl, hc⟩ := List.mem_flatten.1 hc
      obtain ⟨e, he, rfl⟩ := List.mem_map.1 hl
      obtain ⟨t, _, rfl⟩ := List.mem_map.1 he
      rw [Ty.enc_cells] at hc
      simp at hc
      rcases hc with rfl | rfl | rfl
      · exact .int _ _
      · exact .int _ _
      · exact bel_slice_ty _ _
    · rw [List.getElem?_set_ne (Ne.symm e2)] at hk
      refine hb o (List.mem_iff_getElem?.2 ⟨k, ?_⟩)
      simp only [mH]
      rw [List.getElem?_set_ne (Ne.symm e1), List.getElem?_set_ne (Ne.symm e2)]; exact hk
end Go.Abs
namespace Go.Abs
theorem Ty.W_iff (k i : Int) (us : List Ty) : (Ty.mk k i us).W ↔ us.length * 40 ≤ 2 ^ 47 ∧ ∀ u ∈ us, u.W := ⟨fun h => by cases h with | mk h1 h2 => exact ⟨h1, h2⟩, fun h => .mk h.1 h.2⟩
theorem Ty.eqb_self (a : Ty) : a.eqb a = true := (Ty.eqb_iff a a).2 rfl
end Go.Abs
set_option maxRecDepth 4000
namespace Go.Abs
/-- api.Position, as data. -/
structure Po where
  line : Int
  col : Int
def Po.enc (t : Po) : PV := .agg [.int .i64 t.line, .int .i64 t.col]
theorem Po.enc_eq (t : Po) : t.enc = .agg [.int .i64 t.line, .int .i64 t.col] := rfl
theorem Po.enc_cells (t : Po) : t.enc.cells = [.int .i64 t.line, .int .i64 t.col] := rfl
theorem Po.eta (t : Po) : Po.mk t.line t.col = t := rfl
theorem Po.enc_drop1 (t : Po) : t.enc.drop1 = t.enc := by rw [Po.enc_eq]; rfl
theorem Po.enc_drop0 (t : Po) : t.enc.drop0 = t.enc := by rw [Po.enc_eq]; rfl
theorem Po.enc_len (t : Po) : t.enc.cells.length = 2 := by rw [Po.enc_cells]; rfl
theorem Po.enc_junk (t : Po) : t.enc.isJunk = false := by rw [Po.enc_eq]; rfl
theorem Po.enc_agg (t : Po) : PV.agg t.enc.cells = t.enc := by rw [Po.enc_cells, Po.enc_eq]
theorem Po.bel (n : Nat) (t : Po) : Bel n t.enc := .agg _ (by
  intro c hc
  simp only [List.mem_cons, List.not_mem_nil, or_false] at hc
  rcases hc with rfl | rfl
  · exact .int _ _
  · exact .int _ _)
theorem bel_Po (n : Nat) (us : List Po) : Bel n (.slice (us.map Po.enc) .none) := .slice _ _ (fun e he c hc => by
  obtain ⟨b, _, rfl⟩ := List.mem_map.1 he
  have := Po.bel n b
  rw [Po.enc_eq] at this hc
  cases this with | agg _ h => exact h c hc) (by simp)
theorem bel_Po_tok {n id : Nat} (us : List Po) (h : id < n) : Bel n (.slice (us.map Po.enc) (.tok id)) := by
  have := bel_Po n us
  cases this with
  | slice _ _ h1 h2 => exact .slice _ _ h1 (fun _ e => by cases e; exact h)
/-- Rules. -/
theorem PoS : (∀ t : Po, t.enc.cells = [.int .i64 t.line, .int .i64 t.col]) ∧ (∀ t : Po, t.enc.isJunk = false) ∧ (∀ t : Po, t.enc.drop1 = t.enc) ∧ (∀ t : Po, t.enc.drop0 = t.enc) ∧ (∀ (t : Po) (b : Nat), t.enc.fits ⟨true, 2, b⟩ = true) :=
  ⟨Po.enc_cells, Po.enc_junk, Po.enc_drop1, Po.enc_drop0, fun t b => by rw [Po.enc_eq]; rfl⟩
theorem PoF : (∀ (line : Int) (col : Int), PV.agg [.int .i64 line, .int .i64 col] = (Po.mk line col).enc) ∧
    (∀ t : Po, Po.mk t.line t.col = t) ∧
    (∀ (line : Int) (col : Int), (Po.mk line col).line = line) ∧
    (∀ (line : Int) (col : Int), (Po.mk line col).col = col) :=
  ⟨fun line col => (Po.enc_eq (Po.mk line col)).symm, Po.eta, fun _ _ => rfl, fun _ _ => rfl⟩
/-- No list is longer than the rows bear. -/
def Po.W (t : Po) : Prop := True
theorem app_Po {us : List Po} {u : Po} {id : Nat} {tl : Tail} (hb : (us.length + 1) * 16 ≤ 2 ^ 47) (fresh : Nat) (H : Heap) (hH : H[id]? = some (.buf us.length 2)) :
    aappend ⟨true, 2, 16⟩ fresh H (.slice (us.map Po.enc) (.tok id)) (.slice [u.enc] tl) = some (.slice ((us ++ [u]).map Po.enc) (.tok id), some (id, .buf (us.length + 1) 2)) := by
  have hmx : maxLen = 9223372036854775807 := by decide
  rw [aappend_tok1 (n := us.length) hH (by simp) (by simpa using hb) (by simp; omega) (fun e he => by obtain ⟨v, _, rfl⟩ := List.mem_map.1 he; exact v.enc_len) u.enc_len (by rw [Po.enc_cells]; rfl) (by decide)]
  simp
/-- glossatorref1.Rune, as data. -/
structure Rn where
  start : Int
  len : Int
  units : Int
def Rn.enc (t : Rn) : PV := .agg [.int .i64 t.start, .int .i64 t.len, .int .i64 t.units]
theorem Rn.enc_eq (t : Rn) : t.enc = .agg [.int .i64 t.start, .int .i64 t.len, .int .i64 t.units] := rfl
theorem Rn.enc_cells (t : Rn) : t.enc.cells = [.int .i64 t.start, .int .i64 t.len, .int .i64 t.units] := rfl
theorem Rn.eta (t : Rn) : Rn.mk t.start t.len t.units = t := rfl
theorem Rn.enc_drop1 (t : Rn) : t.enc.drop1 = t.enc := by rw [Rn.enc_eq]; rfl
theorem Rn.enc_drop0 (t : Rn) : t.enc.drop0 = t.enc := by rw [Rn.enc_eq]; rfl
theorem Rn.enc_len (t : Rn) : t.enc.cells.length = 3 := by rw [Rn.enc_cells]; rfl
theorem Rn.enc_junk (t : Rn) : t.enc.isJunk = false := by rw [Rn.enc_eq]; rfl
theorem Rn.enc_agg (t : Rn) : PV.agg t.enc.cells = t.enc := by rw [Rn.enc_cells, Rn.enc_eq]
theorem Rn.bel (n : Nat) (t : Rn) : Bel n t.enc := .agg _ (by
  intro c hc
  simp only [List.mem_cons, List.not_mem_nil, or_false] at hc
  rcases hc with rfl | rfl | rfl
  · exact .int _ _
  · exact .int _ _
  · exact .int _ _)
theorem bel_Rn (n : Nat) (us : List Rn) : Bel n (.slice (us.map Rn.enc) .none) := .slice _ _ (fun e he c hc => by
  obtain ⟨b, _, rfl⟩ := List.mem_map.1 he
  have := Rn.bel n b
  rw [Rn.enc_eq] at this hc
  cases this with | agg _ h => exact h c hc) (by simp)
theorem bel_Rn_tok {n id : Nat} (us : List Rn) (h : id < n) : Bel n (.slice (us.map Rn.enc) (.tok id)) := by
  have := bel_Rn n us
  cases this with
  | slice _ _ h1 h2 => exact .slice _ _ h1 (fun _ e => by cases e; exact h)
/-- Rules. -/
theorem RnS : (∀ t : Rn, t.enc.cells = [.int .i64 t.start, .int .i64 t.len, .int .i64 t.units]) ∧ (∀ t : Rn, t.enc.isJunk = false) ∧ (∀ t : Rn, t.enc.drop1 = t.enc) ∧ (∀ t : Rn, t.enc.drop0 = t.enc) ∧ (∀ (t : Rn) (b : Nat), t.enc.fits ⟨true, 3, b⟩ = true) :=
  ⟨Rn.enc_cells, Rn.enc_junk, Rn.enc_drop1, Rn.enc_drop0, fun t b => by rw [Rn.enc_eq]; rfl⟩
theorem RnF : (∀ (start : Int) (len : Int) (units : Int), PV.agg [.int .i64 start, .int .i64 len, .int .i64 units] = (Rn.mk start len units).enc) ∧
    (∀ t : Rn, Rn.mk t.start t.len t.units = t) ∧
    (∀ (start : Int) (len : Int) (units : Int), (Rn.mk start len units).start = start) ∧
    (∀ (start : Int) (len : Int) (units : Int), (Rn.mk start len units).len = len) ∧
    (∀ (start : Int) (len : Int) (units : Int), (Rn.mk start len units).units = units) :=
  ⟨fun start len units => (Rn.enc_eq (Rn.mk start len units)).symm, Rn.eta, fun _ _ _ => rfl, fun _ _ _ => rfl, fun _ _ _ => rfl⟩
/-- No list is longer than the rows bear. -/
def Rn.W (t : Rn) : Prop := True
theorem app_Rn {us : List Rn} {u : Rn} {id : Nat} {tl : Tail} (hb : (us.length + 1) * 24 ≤ 2 ^ 47) (fresh : Nat) (H : Heap) (hH : H[id]? = some (.buf us.length 3)) :
    aappend ⟨true, 3, 24⟩ fresh H (.slice (us.map Rn.enc) (.tok id)) (.slice [u.enc] tl) = some (.slice ((us ++ [u]).map Rn.enc) (.tok id), some (id, .buf (us.length + 1) 3)) := by
  have hmx : maxLen = 9223372036854775807 := by decide
  rw [aappend_tok1 (n := us.length) hH (by simp) (by simpa using hb) (by simp; omega) (fun e he => by obtain ⟨v, _, rfl⟩ := List.mem_map.1 he; exact v.enc_len) u.enc_len (by rw [Rn.enc_cells]; rfl) (by decide)]
  simp
/-- Rules in one. -/
theorem qP : type_of% (And.intro @PoS (And.intro @PoF (And.intro @RnS (@RnF)))) := And.intro @PoS (And.intro @PoF (And.intro @RnS (@RnF)))
end Go.Abs
namespace Go.Abs
/-! The chapter 'position', over lists of bytes. -/
/-- Where the lines behind the first begin. -/
def nlT : Nat → List UInt8 → List Nat
  | _, [] => []
  | o, c :: r => if c = 10 then (o + 1) :: nlT (o + 1) r else nlT (o + 1) r
def startsT (s : List UInt8) : List Nat := 0 :: nlT 0 s
theorem nlT_append : ∀ (a b : List UInt8) (o : Nat), nlT o (a ++ b) = nlT o a ++ nlT (o + a.length) b
  | [], b, o => by simp [nlT]
  | c :: a, b, o => by
    simp only [List.cons_append, nlT, nlT_append a b (o + 1), List.length_cons]
    rw [show o + 1 + a.length = o + (a.length + 1) by omega]
    split <;> simp
theorem nlT_mem : ∀ (a : List UInt8) (o x : Nat), x ∈ nlT o a → o < x ∧ x ≤ o + a.length
  | [], o, x, h => by cases h
  | c :: a, o, x, h => by
    simp only [nlT] at h
    simp only [List.length_cons]
    split at h
    · rcases List.mem_cons.1 h with rfl | h
      · omega
      · have := nlT_mem a (o + 1) x h; omega
    · have := nlT_mem a (o + 1) x h; omega
theorem nlT_count : ∀ (a : List UInt8) (o : Nat), (nlT o a).length = a.count 10
  | [], o => rfl
  | c :: a, o => by
    have ih := nlT_count a (o + 1)
    simp only [nlT]
    by_cases h : c = 10
    · rw [if_pos h, List.length_cons, ih, h, List.count_cons_self]
    · rw [if_neg h, ih, List.count_cons_of_ne (fun e => h e)]
theorem nlT_none : ∀ (a : List UInt8) (o : Nat), (∀ c ∈ a, c ≠ 10) → nlT o a = []
  | [], o, _ => rfl
  | c :: a, o, h => by
    simp only [nlT]
    rw [if_neg (h c (by simp))]
    exact nlT_none a _ fun x hx => h x (by simp [hx])
/-- Where the last line begins. -/
def lastS (s : List UInt8) : Nat := (startsT s).getLastD 0
theorem lastS_index (z : ByteArray) : Go.Lib.lastIndexByte z 10 + 1 = (lastS z.data.toList : Int) := by
  have hget : ∀ j, j < z.size → z.data[j]! = z.data.toList.getD j 0 := fun j hj => by
    have hj' : j < z.data.size := hj
    rw [getElem!_pos z.data j hj', List.getD_eq_getElem?_getD, List.getElem?_eq_getElem (by simpa using hj')]; simp
  have hsz : z.size = z.data.toList.length := rfl
  rcases Go.Lib.lastIndexByte_spec z 10 with ⟨h1, h2⟩ | ⟨i, hi, h1, h2, h3⟩
  · have hn : nlT 0 z.data.toList = [] := nlT_none _ _ fun c hc => by
      obtain ⟨j, hj, rfl⟩ := List.getElem_of_mem hc
      have := h2 j hj
      rw [hget j hj, List.getD_eq_getElem?_getD, List.getElem?_eq_getElem hj] at this
      rintro e
      simp [e] at this
    rw [h1]
    simp [lastS, startsT, hn]
  · have e10 : z.data.toList[i]'(by rw [← hsz]; exact hi) = 10 := by
      rw [hget i hi, List.getD_eq_getElem?_getD, List.getElem?_eq_getElem (by rw [← hsz]; exact hi)] at h2
      simp only [Option.getD_some] at h2
      apply UInt8.toNat_inj.1
      have : (10 : UInt8).toNat = 10 := rfl
      omega
    have hs : z.data.toList = z.data.toList.take i ++ 10 :: z.data.toList.drop (i + 1) := by
      rw [← e10, ← List.drop_eq_getElem_cons, List.take_append_drop]
    have hd : nlT (i + 1) (z.data.toList.drop (i + 1)) = [] := nlT_none _ _ fun c hc => by
      obtain ⟨j, hj, rfl⟩ := List.getElem_of_mem hc
      rw [List.length_drop] at hj
      have := h3 (i + 1 + j) (by omega) (by omega)
      rw [hget _ (by omega), List.getD_eq_getElem?_getD, List.getElem?_eq_getElem (by omega)] at this
      rw [List.getElem_drop]
      rintro e
      simp [e] at this
    rw [h1]
    have hlen : (z.data.toList.take i).length = i := by rw [List.length_take]; omega
    have hn : nlT 0 z.data.toList = nlT 0 (z.data.toList.take i) ++ [i + 1] := by
      conv => lhs; rw [hs]
      rw [nlT_append, hlen, Nat.zero_add, nlT, if_pos rfl, hd]
    unfold lastS startsT
    rw [hn, ← List.cons_append, List.getLastD_eq_getLast?, List.getLast?_append]
    simp
theorem lastS_eq (s : List UInt8) : (startsT s)[(nlT 0 s).length]? = some (lastS s) := by
  have hl : (startsT s).length - 1 = (nlT 0 s).length := by simp [startsT]
  unfold lastS
  rw [List.getLastD_eq_getLast?, List.getLast?_eq_getElem?, hl, List.getElem?_eq_getElem (by simp [startsT])]
  rfl
theorem lastS_le (s : List UInt8) : lastS s ≤ s.length := by
  have := List.mem_of_getElem? (lastS_eq s)
  rcases List.mem_cons.1 this with h | h
  · omega
  · have := nlT_mem _ _ _ h; omega
/-- The line of an offset. -/
theorem starts_split (s : List UInt8) (k : Nat) (hk : k ≤ s.length) : startsT s = startsT (s.take k) ++ nlT k (s.drop k) := by
  have h := nlT_append (s.take k) (s.drop k) 0
  rw [List.take_append_drop, List.length_take, Nat.min_eq_left hk, Nat.zero_add] at h
  unfold startsT
  rw [h]; rfl
theorem line_unique (s : List UInt8) (k : Nat) (hk : k ≤ s.length) (L : Nat) (v : Nat) (hL : (startsT s)[L]? = some v) (hv : v ≤ k) (hup : ∀ j w, L < j → (startsT s)[j]? = some w → k < w) : L = (s.take k).count 10 ∧ v = lastS (s.take k) := by
  have hsp := starts_split s k hk
  have hlen : (startsT (s.take k)).length = (s.take k).count 10 + 1 := by simp [startsT, nlT_count]
  have h1 : L < (startsT (s.take k)).length := by
    rcases Nat.lt_or_ge L (startsT (s.take k)).length with h | h
    · exact h
    · rw [hsp, List.getElem?_append_right h] at hL
      have := nlT_mem _ _ _ (List.mem_of_getElem? hL)
      omega
  have hlast : (startsT s)[(s.take k).count 10]? = some (lastS (s.take k)) := by
    rw [hsp, List.getElem?_append_left (by omega), ← nlT_count _ 0]
    exact lastS_eq _
  have hle : lastS (s.take k) ≤ k := by have := lastS_le (s.take k); rw [List.length_take] at this; omega
  have hLe : L = (s.take k).count 10 := by
    rcases Nat.lt_or_ge L ((s.take k).count 10) with h | h
    · have := hup _ _ h hlast; omega
    · omega
  subst hLe
  rw [hlast] at hL
  cases hL
  exact ⟨rfl, rfl⟩
/-- The bytes of a line. -/
def lineL (s : List UInt8) : List UInt8 := s.takeWhile (fun c => !(c == 10))
def restL (s : List UInt8) : List UInt8 := s.dropWhile (fun c => !(c == 10))
theorem line_rest (s : List UInt8) : lineL s ++ restL s = s := List.takeWhile_append_dropWhile
theorem rest_head (s : List UInt8) : restL s = [] ∨ ∃ r, restL s = 10 :: r := by
  unfold restL
  cases h : s.dropWhile (fun c => !(c == 10)) with
  | nil => exact .inl rfl
  | cons c r =>
    right
    have := List.head?_dropWhile_not (fun c => !(c == (10 : UInt8))) s
    rw [h] at this
    simp at this
    exact ⟨r, by rw [this]⟩
theorem line_no (s : List UInt8) : ∀ c ∈ lineL s, c ≠ 10 := by
  intro c hc
  have := List.all_takeWhile (p := fun c => !(c == (10 : UInt8))) (l := s)
  rw [List.all_eq_true] at this
  simpa using this c hc
/-- A line's end stops a code point. -/
theorem decL_line {m r : List UInt8} (hm : m ≠ []) (hr : r = [] ∨ ∃ r', r = 10 :: r') : decL (m ++ r) = decL m := by
  rcases hr with rfl | ⟨r', rfl⟩
  · rw [List.append_nil]
  · have e10 : ((10 : UInt8).toNat) / 64 ≠ 2 := by decide
    match m, hm with
    | [a], _ =>
      unfold decL Go.Lib.decodeN
      simp [List.getD_cons_zero, List.getD_cons_succ, e10]
    | [a, b], _ =>
      unfold decL Go.Lib.decodeN
      simp [List.getD_cons_zero, List.getD_cons_succ, e10]
    | [a, b, c], _ =>
      unfold decL Go.Lib.decodeN
      simp [List.getD_cons_zero, List.getD_cons_succ, e10]
    | a :: b :: c :: d :: m', _ =>
      unfold decL Go.Lib.decodeN
      simp [List.getD_cons_zero, List.getD_cons_succ]
theorem decN_bd (n b0 b1 b2 b3 : Nat) (hn : 1 ≤ n) : 1 ≤ (Go.Lib.decodeN n b0 b1 b2 b3).2 ∧ (Go.Lib.decodeN n b0 b1 b2 b3).2 ≤ n := by
  unfold Go.Lib.decodeN
  repeat' split
  all_goals simp only
  all_goals omega
theorem decL_bd {s : List UInt8} (h : s ≠ []) : 1 ≤ (decL s).2 ∧ (decL s).2 ≤ s.length :=
  decN_bd _ _ _ _ _ (by have := List.length_pos_iff.2 h; omega)
def unT (r : Nat) : Nat := if r > 65535 then 2 else 1
/-- The code points of a line. -/
def rnT : Nat → Nat → List UInt8 → List Rn
  | 0, _, _ => []
  | n + 1, o, s => if s = [] then [] else ⟨o, (decL s).2, unT (decL s).1⟩ :: rnT n (o + (decL s).2) (s.drop (decL s).2)
theorem rnT_fuel : ∀ (n m o : Nat) (s : List UInt8), s.length ≤ n → s.length ≤ m → rnT n o s = rnT m o s
  | 0, 0, o, s, _, _ => rfl
  | 0, m + 1, o, s, h, _ => by rw [List.length_eq_zero_iff.1 (by omega : s.length = 0)]; rfl
  | n + 1, 0, o, s, _, h => by rw [List.length_eq_zero_iff.1 (by omega : s.length = 0)]; rfl
  | n + 1, m + 1, o, s, h1, h2 => by
    unfold rnT
    by_cases h : s = []
    · rw [if_pos h, if_pos h]
    · rw [if_neg h, if_neg h]
      have hb := decL_bd h
      rw [rnT_fuel n m _ _ (by rw [List.length_drop]; omega) (by rw [List.length_drop]; omega)]
def rnsT (o : Nat) (s : List UInt8) : List Rn := rnT s.length o s
theorem rnsT_nil (o : Nat) : rnsT o [] = [] := rfl
theorem rnsT_step {o : Nat} {s : List UInt8} (h : s ≠ []) : rnsT o s = ⟨o, (decL s).2, unT (decL s).1⟩ :: rnsT (o + (decL s).2) (s.drop (decL s).2) := by
  have hb := decL_bd h
  unfold rnsT
  obtain ⟨n, hn⟩ : ∃ n, s.length = n + 1 := ⟨s.length - 1, by omega⟩
  conv => lhs; rw [hn]; unfold rnT
  rw [if_neg h, rnT_fuel n (s.drop (decL s).2).length _ _ (by rw [List.length_drop]; omega) (Nat.le_refl _)]
/-- The column of an offset that lies d bytes ahead: none where it lies within a code point. -/
def colP (w : Nat → Nat) : Nat → List UInt8 → Nat → Nat → Option Nat
  | 0, _, _, col => some col
  | n + 1, s, d, col => if d = 0 then some col else if (decL s).2 > d then none else colP w n (s.drop (decL s).2) (d - (decL s).2) (col + w (decL s).1)
theorem colP_fuel (w : Nat → Nat) : ∀ (n m : Nat) (s : List UInt8) (d col : Nat), d ≤ n → d ≤ m → d ≤ s.length → colP w n s d col = colP w m s d col
  | 0, 0, s, d, col, _, _, _ => rfl
  | 0, m + 1, s, d, col, h, _, _ => by unfold colP; rw [if_pos (by omega)]
  | n + 1, 0, s, d, col, _, h, _ => by unfold colP; rw [if_pos (by omega)]
  | n + 1, m + 1, s, d, col, h1, h2, h3 => by
    unfold colP
    by_cases hd : d = 0
    · rw [if_pos hd, if_pos hd]
    · rw [if_neg hd, if_neg hd]
      have hb := decL_bd (s := s) (by rintro rfl; simp at h3; omega)
      by_cases hw : (decL s).2 > d
      · rw [if_pos hw, if_pos hw]
      · rw [if_neg hw, if_neg hw, colP_fuel w n m _ _ _ (by omega) (by omega) (by rw [List.length_drop]; omega)]
def colT (w : Nat → Nat) (s : List UInt8) (d col : Nat) : Option Nat := colP w d s d col
theorem colT_zero (w : Nat → Nat) (s : List UInt8) (col : Nat) : colT w s 0 col = some col := rfl
theorem colT_step (w : Nat → Nat) {s : List UInt8} {d col : Nat} (hd : d ≠ 0) (hs : d ≤ s.length) : colT w s d col = if (decL s).2 > d then none else colT w (s.drop (decL s).2) (d - (decL s).2) (col + w (decL s).1) := by
  have hb := decL_bd (s := s) (by rintro rfl; simp at hs; omega)
  unfold colT
  obtain ⟨n, hn⟩ : ∃ n, d = n + 1 := ⟨d - 1, by omega⟩
  conv => lhs; rw [hn]; unfold colP
  rw [← hn, if_neg hd]
  by_cases hw : (decL s).2 > d
  · rw [if_pos hw, if_pos hw]
  · rw [if_neg hw, if_neg hw, colP_fuel w n (d - (decL s).2) _ _ _ (by omega) (by omega) (by rw [List.length_drop]; omega)]
/-- A conversion's answer. -/
def posT (w : Nat → Nat) (s : List UInt8) (off : Int) : Po × Int :=
  if off < 0 ∨ off > s.length then (⟨0, 0⟩, 1) else
    match colT w (s.drop (lastS (s.take off.toNat))) (off.toNat - lastS (s.take off.toNat)) 0 with
    | some c => (⟨((s.take off.toNat).count 10 : Nat), (c : Nat)⟩, 0)
    | none => (⟨0, 0⟩, 3)
/-- As the reference counts. -/
def refP (w : Rn → Int) (off : Int) : List Rn → Int → Option Int
  | [], col => some col
  | r :: rs, col => if r.start ≥ off then some col else if r.start + r.len > off then none else refP w off rs (col + w r)
theorem refP_eq (w : Nat → Nat) (wr : Rn → Int) (hw : ∀ o l r, wr ⟨o, l, unT r⟩ = w r) : ∀ (n i : Nat) (m r : List UInt8) (off col : Nat), m.length ≤ n → (r = [] ∨ ∃ r', r = 10 :: r') → i ≤ off → off ≤ i + m.length →
    refP wr off (rnsT i m) col = (colT w (m ++ r) (off - i) col).map (fun (c : Nat) => (c : Int)) := by
  intro n
  induction n with
  | zero =>
    intro i m r off col hn hr h1 h2
    have hm : m = [] := List.length_eq_zero_iff.1 (by omega)
    subst hm
    have : off - i = 0 := by simp at h2; omega
    rw [this, colT_zero]; rfl
  | succ n ih =>
    intro i m r off col hn hr h1 h2
    by_cases hm : m = []
    · subst hm
      have : off - i = 0 := by simp at h2; omega
      rw [this, colT_zero]; rfl
    · have hb := decL_bd hm
      rw [rnsT_step hm, refP]
      simp only
      by_cases h0 : off = i
      · rw [if_pos (by omega), show off - i = 0 by omega, colT_zero]; rfl
      · rw [if_neg (by omega), colT_step w (by omega) (by rw [List.length_append]; omega), decL_line hm hr]
        by_cases hg : (decL m).2 > off - i
        · rw [if_pos (by omega), if_pos hg]; rfl
        · rw [if_neg (by omega), if_neg hg, hw]
          rw [List.drop_append_of_le_length hb.2]
          have := ih (i + (decL m).2) (m.drop (decL m).2) r off (col + w (decL m).1) (by rw [List.length_drop]; omega) hr (by omega) (by rw [List.length_drop]; omega)
          rw [show off - i - (decL m).2 = off - (i + (decL m).2) by omega, ← this]
          simp
/-- The other way: from a column. -/
def offP (w : Nat → Nat) (pc : Int) : Nat → List UInt8 → Nat → Nat → Int × Int
  | 0, _, i, col => if pc < 0 ∨ (col : Int) < pc then (0, 1) else if (col : Int) > pc then (0, 3) else ((i : Int), 0)
  | n + 1, s, i, col => if (col : Int) < pc ∧ s ≠ [] ∧ s.head? ≠ some 10 then offP w pc n (s.drop (decL s).2) (i + (decL s).2) (col + w (decL s).1)
    else if pc < 0 ∨ (col : Int) < pc then (0, 1) else if (col : Int) > pc then (0, 3) else ((i : Int), 0)
theorem offP_fuel (w : Nat → Nat) (pc : Int) : ∀ (n m : Nat) (s : List UInt8) (i col : Nat), s.length ≤ n → s.length ≤ m → offP w pc n s i col = offP w pc m s i col
  | 0, 0, s, i, col, _, _ => rfl
  | 0, m + 1, s, i, col, h, _ => by rw [List.length_eq_zero_iff.1 (by omega : s.length = 0)]; simp [offP]
  | n + 1, 0, s, i, col, _, h => by rw [List.length_eq_zero_iff.1 (by omega : s.length = 0)]; simp [offP]
  | n + 1, m + 1, s, i, col, h1, h2 => by
    unfold offP
    by_cases h : (col : Int) < pc ∧ s ≠ [] ∧ s.head? ≠ some 10
    · rw [if_pos h, if_pos h]
      have hb := decL_bd h.2.1
      exact offP_fuel w pc n m _ _ _ (by rw [List.length_drop]; omega) (by rw [List.length_drop]; omega)
    · rw [if_neg h, if_neg h]
def offT (w : Nat → Nat) (pc : Int) (s : List UInt8) (i col : Nat) : Int × Int := offP w pc s.length s i col
theorem offT_step (w : Nat → Nat) {pc : Int} {s : List UInt8} {i col : Nat} (h : (col : Int) < pc ∧ s ≠ [] ∧ s.head? ≠ some 10) : offT w pc s i col = offT w pc (s.drop (decL s).2) (i + (decL s).2) (col + w (decL s).1) := by
  have hb := decL_bd h.2.1
  unfold offT
  obtain ⟨n, hn⟩ : ∃ n, s.length = n + 1 := ⟨s.length - 1, by have := List.length_pos_iff.2 h.2.1; omega⟩
  conv => lhs; rw [hn]; unfold offP
  rw [if_pos h, offP_fuel w pc n (s.drop (decL s).2).length _ _ _ (by rw [List.length_drop]; omega) (Nat.le_refl _)]
theorem offT_stop (w : Nat → Nat) {pc : Int} {s : List UInt8} {i col : Nat} (h : ¬ ((col : Int) < pc ∧ s ≠ [] ∧ s.head? ≠ some 10)) : offT w pc s i col = if pc < 0 ∨ (col : Int) < pc then (0, 1) else if (col : Int) > pc then (0, 3) else ((i : Int), 0) := by
  unfold offT
  cases hl : s.length with
  | zero => rfl
  | succ n => unfold offP; rw [if_neg h]
def refO (w : Rn → Int) (two : Rn → Bool) (pc : Int) : List Rn → Int → Int → Int × Int
  | [], col, e => if col = pc then (e, 0) else (0, 1)
  | r :: rs, col, e => if col = pc then (r.start, 0) else if two r = true ∧ col + 1 = pc then (0, 3) else refO w two pc rs (col + w r) (r.start + r.len)
theorem refO_neg (w : Rn → Int) (two : Rn → Bool) {pc : Int} (hpc : pc < 0) (hw : ∀ r, 0 ≤ w r) : ∀ (rs : List Rn) (col e : Int), 0 ≤ col → refO w two pc rs col e = (0, 1)
  | [], col, e, h => by rw [refO, if_neg (by omega)]
  | r :: rs, col, e, h => by
    rw [refO, if_neg (by omega), if_neg (by rintro ⟨_, q⟩; omega)]
    exact refO_neg w two hpc hw rs _ _ (by have := hw r; omega)
theorem refO_eq (w : Nat → Nat) (wr : Rn → Int) (two : Rn → Bool) (hw : ∀ o l r, wr ⟨o, l, unT r⟩ = w r) (h2 : ∀ o l r, two ⟨o, l, unT r⟩ = decide (w r = 2)) (hb2 : ∀ r, w r = 1 ∨ w r = 2) (pc : Int) (hpc : 0 ≤ pc) : ∀ (n i : Nat) (m r : List UInt8) (col : Nat), m.length ≤ n → (∀ c ∈ m, c ≠ 10) → (r = [] ∨ ∃ r', r = 10 :: r') → (col : Int) ≤ pc →
    refO wr two pc (rnsT i m) col i = offT w pc (m ++ r) i col := by
  intro n
  induction n with
  | zero =>
    intro i m r col hn hno hr hc
    have hm : m = [] := List.length_eq_zero_iff.1 (by omega)
    subst hm
    rw [List.nil_append, offT_stop w (by rcases hr with rfl | ⟨r', rfl⟩ <;> simp), rnsT_nil, refO]
    by_cases h : (col : Int) = pc
    · rw [if_pos h, if_neg (by omega), if_neg (by omega)]
    · rw [if_neg h, if_pos (.inr (by omega))]
  | succ n ih =>
    intro i m r col hn hno hr hc
    by_cases hm : m = []
    · subst hm
      rw [List.nil_append, offT_stop w (by rcases hr with rfl | ⟨r', rfl⟩ <;> simp), rnsT_nil, refO]
      by_cases h : (col : Int) = pc
      · rw [if_pos h, if_neg (by omega), if_neg (by omega)]
      · rw [if_neg h, if_pos (.inr (by omega))]
    · have hb := decL_bd hm
      rw [rnsT_step hm, refO]
      simp only
      by_cases h : (col : Int) = pc
      · rw [if_pos h, offT_stop w (by rintro ⟨q, _⟩; omega), if_neg (by omega), if_neg (by omega)]
      · have hstep : (col : Int) < pc ∧ (m ++ r) ≠ [] ∧ (m ++ r).head? ≠ some 10 := by
          refine ⟨by omega, by simp [hm], ?_⟩
          cases m with
          | nil => exact absurd rfl hm
          | cons a m' => simp; exact hno a (by simp)
        rw [if_neg h, offT_step w hstep, decL_line hm hr, List.drop_append_of_le_length hb.2, h2, hw]
        have hrec := fun hc' => ih (i + (decL m).2) (m.drop (decL m).2) r (col + w (decL m).1) (by rw [List.length_drop]; omega) (fun c hc => hno c (List.mem_of_mem_drop hc)) hr hc'
        by_cases h3 : decide (w (decL m).1 = 2) = true ∧ (col : Int) + 1 = pc
        · rw [if_pos h3]
          have hw2 : w (decL m).1 = 2 := of_decide_eq_true h3.1
          rw [offT_stop w (by rintro ⟨q, _⟩; omega), if_neg (by omega), if_pos (by omega)]
        · rw [if_neg h3]
          have hc' : ((col + w (decL m).1 : Nat) : Int) ≤ pc := by
            rcases hb2 (decL m).1 with q | q
            · omega
            · have : ¬ (col : Int) + 1 = pc := fun e => h3 ⟨by simp [q], e⟩
              omega
          have := hrec hc'
          rw [← this]
          simp
end Go.Abs
