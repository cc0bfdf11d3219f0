/- Part 3 of a proof of the law LexerReference: Go data as trees, the walks of the functions that the law reaches, the plain laws. -/
import Derived.Test.YtcdpgegppjmdjaaDoorGBLexerReference
import Derived.Lib.Join
import Derived.Below
import Derived.Laws.StructEq
import Derived.Lib.Strings
set_option linter.unusedVariables false
set_option linter.unusedSimpArgs false
namespace Go.Abs
/-! Bundles of rules, for shorter texts. -/
theorem jA : type_of% (And.intro @asq.eq_1 (And.intro @asq.eq_2 (And.intro @as0.eq_1 (And.intro @as0.eq_2 (And.intro @as1.eq_1 (And.intro @as1.eq_2 (And.intro @as1.eq_3 (And.intro @as2.eq_1 (And.intro @as2.eq_2 (@awanted.eq_1)))))))))) := And.intro @asq.eq_1 (And.intro @asq.eq_2 (And.intro @as0.eq_1 (And.intro @as0.eq_2 (And.intro @as1.eq_1 (And.intro @as1.eq_2 (And.intro @as1.eq_3 (And.intro @as2.eq_1 (And.intro @as2.eq_2 (@awanted.eq_1)))))))))
theorem jG : type_of% (And.intro @gsq.eq_1 (And.intro @gsq.eq_2 (And.intro @gs0.eq_1 (And.intro @gs0.eq_2 (And.intro @gs1.eq_1 (And.intro @gs1.eq_2 (And.intro @gs2.eq_1 (And.intro @gs2.eq_2 (And.intro @gcond.eq_1 (And.intro @gop.eq_1 (And.intro @gop.eq_2 (And.intro @Op.operands.eq_1 (And.intro @Op.operands.eq_2 (And.intro @Op.operands.eq_3 (And.intro @Op.operands.eq_4 (And.intro @Op.operands.eq_5 (And.intro @Op.operands.eq_6 (And.intro @Op.operands.eq_7 (And.intro @Op.operands.eq_8 (And.intro @Op.operands.eq_9 (And.intro @Op.operands.eq_10 (And.intro @Op.operands.eq_11 (And.intro @Op.operands.eq_12 (And.intro @Op.operands.eq_13 (And.intro @Op.operands.eq_14 (And.intro @Op.operands.eq_15 (And.intro @Op.operands.eq_16 (And.intro @Op.operands.eq_17 (And.intro @Op.operands.eq_18 (And.intro @Op.operands.eq_19 (And.intro @Op.operands.eq_20 (And.intro @Op.operands.eq_21 (And.intro @Op.operands.eq_22 (And.intro @Op.operands.eq_23 (And.intro @Op.operands.eq_24 (And.intro @Op.operands.eq_25 (And.intro @Op.operands.eq_26 (And.intro @Op.operands.eq_27 (And.intro @Op.operands.eq_28 (And.intro @Op.operands.eq_29 (And.intro @Op.operands.eq_30 (And.intro @Op.operands.eq_31 (And.intro @Op.operands.eq_32 (And.intro @Op.operands.eq_33 (And.intro @Op.operands.eq_34 (And.intro @Op.operands.eq_35 (And.intro @Op.operands.eq_36 (And.intro @Op.operands.eq_37 (And.intro @Op.operands.eq_38 (And.intro @Op.operands.eq_39 (And.intro @Op.operands.eq_40 (And.intro @Op.operands.eq_41 (And.intro @Op.operands.eq_42 (And.intro @Op.operands.eq_43 (And.intro @Call.operands.eq_1 (And.intro @SG (@Array.toList_append.{0}))))))))))))))))))))))))))))))))))))))))))))))))))))))))) := And.intro @gsq.eq_1 (And.intro @gsq.eq_2 (And.intro @gs0.eq_1 (And.intro @gs0.eq_2 (And.intro @gs1.eq_1 (And.intro @gs1.eq_2 (And.intro @gs2.eq_1 (And.intro @gs2.eq_2 (And.intro @gcond.eq_1 (And.intro @gop.eq_1 (And.intro @gop.eq_2 (And.intro @Op.operands.eq_1 (And.intro @Op.operands.eq_2 (And.intro @Op.operands.eq_3 (And.intro @Op.operands.eq_4 (And.intro @Op.operands.eq_5 (And.intro @Op.operands.eq_6 (And.intro @Op.operands.eq_7 (And.intro @Op.operands.eq_8 (And.intro @Op.operands.eq_9 (And.intro @Op.operands.eq_10 (And.intro @Op.operands.eq_11 (And.intro @Op.operands.eq_12 (And.intro @Op.operands.eq_13 (And.intro @Op.operands.eq_14 (And.intro @Op.operands.eq_15 (And.intro @Op.operands.eq_16 (And.intro @Op.operands.eq_17 (And.intro @Op.operands.eq_18 (And.intro @Op.operands.eq_19 (And.intro @Op.operands.eq_20 (And.intro @Op.operands.eq_21 (And.intro @Op.operands.eq_22 (And.intro @Op.operands.eq_23 (And.intro @Op.operands.eq_24 (And.intro @Op.operands.eq_25 (And.intro @Op.operands.eq_26 (And.intro @Op.operands.eq_27 (And.intro @Op.operands.eq_28 (And.intro @Op.operands.eq_29 (And.intro @Op.operands.eq_30 (And.intro @Op.operands.eq_31 (And.intro @Op.operands.eq_32 (And.intro @Op.operands.eq_33 (And.intro @Op.operands.eq_34 (And.intro @Op.operands.eq_35 (And.intro @Op.operands.eq_36 (And.intro @Op.operands.eq_37 (And.intro @Op.operands.eq_38 (And.intro @Op.operands.eq_39 (And.intro @Op.operands.eq_40 (And.intro @Op.operands.eq_41 (And.intro @Op.operands.eq_42 (And.intro @Op.operands.eq_43 (And.intro @Call.operands.eq_1 (And.intro @SG (@Array.toList_append.{0}))))))))))))))))))))))))))))))))))))))))))))))))))))))))
theorem jP : type_of% (And.intro @psq.eq_1 (And.intro @psq.eq_2 (And.intro @ps0.eq_1 (And.intro @ps0.eq_2 (And.intro @ps1.eq_1 (And.intro @ps1.eq_2 (And.intro @ps2.eq_1 (And.intro @ps2.eq_2 (And.intro @gcond.eq_1 (And.intro @gop.eq_1 (And.intro @gop.eq_2 (And.intro @Op.operands.eq_1 (And.intro @Op.operands.eq_2 (And.intro @Op.operands.eq_3 (And.intro @Op.operands.eq_4 (And.intro @Op.operands.eq_5 (And.intro @Op.operands.eq_6 (And.intro @Op.operands.eq_7 (And.intro @Op.operands.eq_8 (And.intro @Op.operands.eq_9 (And.intro @Op.operands.eq_10 (And.intro @Op.operands.eq_11 (And.intro @Op.operands.eq_12 (And.intro @Op.operands.eq_13 (And.intro @Op.operands.eq_14 (And.intro @Op.operands.eq_15 (And.intro @Op.operands.eq_16 (And.intro @Op.operands.eq_17 (And.intro @Op.operands.eq_18 (And.intro @Op.operands.eq_19 (And.intro @Op.operands.eq_20 (And.intro @Op.operands.eq_21 (And.intro @Op.operands.eq_22 (And.intro @Op.operands.eq_23 (And.intro @Op.operands.eq_24 (And.intro @Op.operands.eq_25 (And.intro @Op.operands.eq_26 (And.intro @Op.operands.eq_27 (And.intro @Op.operands.eq_28 (And.intro @Op.operands.eq_29 (And.intro @Op.operands.eq_30 (And.intro @Op.operands.eq_31 (And.intro @Op.operands.eq_32 (And.intro @Op.operands.eq_33 (And.intro @Op.operands.eq_34 (And.intro @Op.operands.eq_35 (And.intro @Op.operands.eq_36 (And.intro @Op.operands.eq_37 (And.intro @Op.operands.eq_38 (And.intro @Op.operands.eq_39 (And.intro @Op.operands.eq_40 (And.intro @Op.operands.eq_41 (And.intro @Op.operands.eq_42 (And.intro @Op.operands.eq_43 (And.intro @Call.operands.eq_1 (And.intro @SG (@Array.toList_append.{0}))))))))))))))))))))))))))))))))))))))))))))))))))))))))) := And.intro @psq.eq_1 (And.intro @psq.eq_2 (And.intro @ps0.eq_1 (And.intro @ps0.eq_2 (And.intro @ps1.eq_1 (And.intro @ps1.eq_2 (And.intro @ps2.eq_1 (And.intro @ps2.eq_2 (And.intro @gcond.eq_1 (And.intro @gop.eq_1 (And.intro @gop.eq_2 (And.intro @Op.operands.eq_1 (And.intro @Op.operands.eq_2 (And.intro @Op.operands.eq_3 (And.intro @Op.operands.eq_4 (And.intro @Op.operands.eq_5 (And.intro @Op.operands.eq_6 (And.intro @Op.operands.eq_7 (And.intro @Op.operands.eq_8 (And.intro @Op.operands.eq_9 (And.intro @Op.operands.eq_10 (And.intro @Op.operands.eq_11 (And.intro @Op.operands.eq_12 (And.intro @Op.operands.eq_13 (And.intro @Op.operands.eq_14 (And.intro @Op.operands.eq_15 (And.intro @Op.operands.eq_16 (And.intro @Op.operands.eq_17 (And.intro @Op.operands.eq_18 (And.intro @Op.operands.eq_19 (And.intro @Op.operands.eq_20 (And.intro @Op.operands.eq_21 (And.intro @Op.operands.eq_22 (And.intro @Op.operands.eq_23 (And.intro @Op.operands.eq_24 (And.intro @Op.operands.eq_25 (And.intro @Op.operands.eq_26 (And.intro @Op.operands.eq_27 (And.intro @Op.operands.eq_28 (And.intro @Op.operands.eq_29 (And.intro @Op.operands.eq_30 (And.intro @Op.operands.eq_31 (And.intro @Op.operands.eq_32 (And.intro @Op.operands.eq_33 (And.intro @Op.operands.eq_34 (And.intro @Op.operands.eq_35 (And.intro @Op.operands.eq_36 (And.intro @Op.operands.eq_37 (And.intro @Op.operands.eq_38 (And.intro @Op.operands.eq_39 (And.intro @Op.operands.eq_40 (And.intro @Op.operands.eq_41 (And.intro @Op.operands.eq_42 (And.intro @Op.operands.eq_43 (And.intro @Call.operands.eq_1 (And.intro @SG (@Array.toList_append.{0}))))))))))))))))))))))))))))))))))))))))))))))))))))))))
theorem jD : type_of% (And.intro @dsq.eq_1 (And.intro @dsq.eq_2 (And.intro @ds0.eq_1 (And.intro @ds0.eq_2 (And.intro @ds1.eq_1 (And.intro @ds1.eq_2 (And.intro @ds1.eq_3 (And.intro @ds2.eq_1 (And.intro @ds2.eq_2 (And.intro @ds3.eq_1 (And.intro @ds3.eq_2 (And.intro @awanted.eq_1 (And.intro @hapB.eq_1 (And.intro @effIds.eq_1 (And.intro @effIds.eq_2 (And.intro @effSet.eq_1 (And.intro @effSet.eq_2 (And.intro @nextFresh.eq_1 (And.intro @nextFresh.eq_2 (And.intro @ard.eq_1 (And.intro @ard.eq_2 (And.intro @ard.eq_3 (And.intro @ard.eq_4 (And.intro @freshOk.eq_1 (And.intro @freshOk.eq_2 (@isUnborn.eq_1)))))))))))))))))))))))))) := And.intro @dsq.eq_1 (And.intro @dsq.eq_2 (And.intro @ds0.eq_1 (And.intro @ds0.eq_2 (And.intro @ds1.eq_1 (And.intro @ds1.eq_2 (And.intro @ds1.eq_3 (And.intro @ds2.eq_1 (And.intro @ds2.eq_2 (And.intro @ds3.eq_1 (And.intro @ds3.eq_2 (And.intro @awanted.eq_1 (And.intro @hapB.eq_1 (And.intro @effIds.eq_1 (And.intro @effIds.eq_2 (And.intro @effSet.eq_1 (And.intro @effSet.eq_2 (And.intro @nextFresh.eq_1 (And.intro @nextFresh.eq_2 (And.intro @ard.eq_1 (And.intro @ard.eq_2 (And.intro @ard.eq_3 (And.intro @ard.eq_4 (And.intro @freshOk.eq_1 (And.intro @freshOk.eq_2 (@isUnborn.eq_1)))))))))))))))))))))))))
theorem jH : type_of% (And.intro @gdq.eq_1 (And.intro @gdq.eq_2 (And.intro @gd0.eq_1 (And.intro @gd0.eq_2 (And.intro @gd1.eq_1 (And.intro @gd1.eq_2 (And.intro @gd2.eq_1 (And.intro @gd2.eq_2 (And.intro @gd3.eq_1 (And.intro @gd3.eq_2 (And.intro @gcond.eq_1 (And.intro @gop.eq_1 (And.intro @gop.eq_2 (And.intro @Op.operands.eq_1 (And.intro @Op.operands.eq_2 (And.intro @Op.operands.eq_3 (And.intro @Op.operands.eq_4 (And.intro @Op.operands.eq_5 (And.intro @Op.operands.eq_6 (And.intro @Op.operands.eq_7 (And.intro @Op.operands.eq_8 (And.intro @Op.operands.eq_9 (And.intro @Op.operands.eq_10 (And.intro @Op.operands.eq_11 (And.intro @Op.operands.eq_12 (And.intro @Op.operands.eq_13 (And.intro @Op.operands.eq_14 (And.intro @Op.operands.eq_15 (And.intro @Op.operands.eq_16 (And.intro @Op.operands.eq_17 (And.intro @Op.operands.eq_18 (And.intro @Op.operands.eq_19 (And.intro @Op.operands.eq_20 (And.intro @Op.operands.eq_21 (And.intro @Op.operands.eq_22 (And.intro @Op.operands.eq_23 (And.intro @Op.operands.eq_24 (And.intro @Op.operands.eq_25 (And.intro @Op.operands.eq_26 (And.intro @Op.operands.eq_27 (And.intro @Op.operands.eq_28 (And.intro @Op.operands.eq_29 (And.intro @Op.operands.eq_30 (And.intro @Op.operands.eq_31 (And.intro @Op.operands.eq_32 (And.intro @Op.operands.eq_33 (And.intro @Op.operands.eq_34 (And.intro @Op.operands.eq_35 (And.intro @Op.operands.eq_36 (And.intro @Op.operands.eq_37 (And.intro @Op.operands.eq_38 (And.intro @Op.operands.eq_39 (And.intro @Op.operands.eq_40 (And.intro @Op.operands.eq_41 (And.intro @Op.operands.eq_42 (And.intro @Op.operands.eq_43 (And.intro @Call.operands.eq_1 (And.intro @SG (And.intro @Array.toList_append.{0} (And.intro @hapB.eq_1 (And.intro @effIds.eq_1 (And.intro @effIds.eq_2 (And.intro @effSet.eq_1 (And.intro @effSet.eq_2 (And.intro @nextFresh.eq_1 (And.intro @nextFresh.eq_2 (And.intro @ard.eq_1 (And.intro @ard.eq_2 (And.intro @ard.eq_3 (And.intro @ard.eq_4 (And.intro @freshOk.eq_1 (And.intro @freshOk.eq_2 (@isUnborn.eq_1))))))))))))))))))))))))))))))))))))))))))))))))))))))))))))))))))))))))) := And.intro @gdq.eq_1 (And.intro @gdq.eq_2 (And.intro @gd0.eq_1 (And.intro @gd0.eq_2 (And.intro @gd1.eq_1 (And.intro @gd1.eq_2 (And.intro @gd2.eq_1 (And.intro @gd2.eq_2 (And.intro @gd3.eq_1 (And.intro @gd3.eq_2 (And.intro @gcond.eq_1 (And.intro @gop.eq_1 (And.intro @gop.eq_2 (And.intro @Op.operands.eq_1 (And.intro @Op.operands.eq_2 (And.intro @Op.operands.eq_3 (And.intro @Op.operands.eq_4 (And.intro @Op.operands.eq_5 (And.intro @Op.operands.eq_6 (And.intro @Op.operands.eq_7 (And.intro @Op.operands.eq_8 (And.intro @Op.operands.eq_9 (And.intro @Op.operands.eq_10 (And.intro @Op.operands.eq_11 (And.intro @Op.operands.eq_12 (And.intro @Op.operands.eq_13 (And.intro @Op.operands.eq_14 (And.intro @Op.operands.eq_15 (And.intro @Op.operands.eq_16 (And.intro @Op.operands.eq_17 (And.intro @Op.operands.eq_18 (And.intro @Op.operands.eq_19 (And.intro @Op.operands.eq_20 (And.intro @Op.operands.eq_21 (And.intro @Op.operands.eq_22 (And.intro @Op.operands.eq_23 (And.intro @Op.operands.eq_24 (And.intro @Op.operands.eq_25 (And.intro @Op.operands.eq_26 (And.intro @Op.operands.eq_27 (And.intro @Op.operands.eq_28 (And.intro @Op.operands.eq_29 (And.intro @Op.operands.eq_30 (And.intro @Op.operands.eq_31 (And.intro @Op.operands.eq_32 (And.intro @Op.operands.eq_33 (And.intro @Op.operands.eq_34 (And.intro @Op.operands.eq_35 (And.intro @Op.operands.eq_36 (And.intro @Op.operands.eq_37 (And.intro @Op.operands.eq_38 (And.intro @Op.operands.eq_39 (And.intro @Op.operands.eq_40 (And.intro @Op.operands.eq_41 (And.intro @Op.operands.eq_42 (And.intro @Op.operands.eq_43 (And.intro @Call.operands.eq_1 (And.intro @SG (And.intro @Array.toList_append.{0} (And.intro @hapB.eq_1 (And.intro @effIds.eq_1 (And.intro @effIds.eq_2 (And.intro @effSet.eq_1 (And.intro @effSet.eq_2 (And.intro @nextFresh.eq_1 (And.intro @nextFresh.eq_2 (And.intro @ard.eq_1 (And.intro @ard.eq_2 (And.intro @ard.eq_3 (And.intro @ard.eq_4 (And.intro @freshOk.eq_1 (And.intro @freshOk.eq_2 (@isUnborn.eq_1))))))))))))))))))))))))))))))))))))))))))))))))))))))))))))))))))))))))
theorem jX : type_of% (And.intro @xq.eq_1 (And.intro @xq.eq_2 (And.intro @xd0.eq_1 (And.intro @xd0.eq_2 (And.intro @xd1.eq_1 (And.intro @xd1.eq_2 (And.intro @xd2.eq_1 (And.intro @xd2.eq_2 (And.intro @xd4.eq_1 (And.intro @xd4.eq_2 (And.intro @xchk.eq_1 (And.intro @gcond.eq_1 (And.intro @gop.eq_1 (And.intro @gop.eq_2 (And.intro @Op.operands.eq_1 (And.intro @Op.operands.eq_2 (And.intro @Op.operands.eq_3 (And.intro @Op.operands.eq_4 (And.intro @Op.operands.eq_5 (And.intro @Op.operands.eq_6 (And.intro @Op.operands.eq_7 (And.intro @Op.operands.eq_8 (And.intro @Op.operands.eq_9 (And.intro @Op.operands.eq_10 (And.intro @Op.operands.eq_11 (And.intro @Op.operands.eq_12 (And.intro @Op.operands.eq_13 (And.intro @Op.operands.eq_14 (And.intro @Op.operands.eq_15 (And.intro @Op.operands.eq_16 (And.intro @Op.operands.eq_17 (And.intro @Op.operands.eq_18 (And.intro @Op.operands.eq_19 (And.intro @Op.operands.eq_20 (And.intro @Op.operands.eq_21 (And.intro @Op.operands.eq_22 (And.intro @Op.operands.eq_23 (And.intro @Op.operands.eq_24 (And.intro @Op.operands.eq_25 (And.intro @Op.operands.eq_26 (And.intro @Op.operands.eq_27 (And.intro @Op.operands.eq_28 (And.intro @Op.operands.eq_29 (And.intro @Op.operands.eq_30 (And.intro @Op.operands.eq_31 (And.intro @Op.operands.eq_32 (And.intro @Op.operands.eq_33 (And.intro @Op.operands.eq_34 (And.intro @Op.operands.eq_35 (And.intro @Op.operands.eq_36 (And.intro @Op.operands.eq_37 (And.intro @Op.operands.eq_38 (And.intro @Op.operands.eq_39 (And.intro @Op.operands.eq_40 (And.intro @Op.operands.eq_41 (And.intro @Op.operands.eq_42 (And.intro @Op.operands.eq_43 (And.intro @Call.operands.eq_1 (And.intro @SG (And.intro @Array.toList_append.{0} (And.intro @hapB.eq_1 (And.intro @effIds.eq_1 (And.intro @effIds.eq_2 (And.intro @effSet.eq_1 (And.intro @effSet.eq_2 (And.intro @nextFresh.eq_1 (And.intro @nextFresh.eq_2 (And.intro @ard.eq_1 (And.intro @ard.eq_2 (And.intro @ard.eq_3 (And.intro @ard.eq_4 (And.intro @freshOk.eq_1 (And.intro @freshOk.eq_2 (And.intro @isUnborn.eq_1 (And.intro @Nat.le_refl (And.intro @decide_true (And.intro @Bool.true_or (And.intro @Bool.or_true (And.intro @List.all_cons.{0} (And.intro @List.all_nil.{0} (@Bool.and_true))))))))))))))))))))))))))))))))))))))))))))))))))))))))))))))))))))))))))))))))) := And.intro @xq.eq_1 (And.intro @xq.eq_2 (And.intro @xd0.eq_1 (And.intro @xd0.eq_2 (And.intro @xd1.eq_1 (And.intro @xd1.eq_2 (And.intro @xd2.eq_1 (And.intro @xd2.eq_2 (And.intro @xd4.eq_1 (And.intro @xd4.eq_2 (And.intro @xchk.eq_1 (And.intro @gcond.eq_1 (And.intro @gop.eq_1 (And.intro @gop.eq_2 (And.intro @Op.operands.eq_1 (And.intro @Op.operands.eq_2 (And.intro @Op.operands.eq_3 (And.intro @Op.operands.eq_4 (And.intro @Op.operands.eq_5 (And.intro @Op.operands.eq_6 (And.intro @Op.operands.eq_7 (And.intro @Op.operands.eq_8 (And.intro @Op.operands.eq_9 (And.intro @Op.operands.eq_10 (And.intro @Op.operands.eq_11 (And.intro @Op.operands.eq_12 (And.intro @Op.operands.eq_13 (And.intro @Op.operands.eq_14 (And.intro @Op.operands.eq_15 (And.intro @Op.operands.eq_16 (And.intro @Op.operands.eq_17 (And.intro @Op.operands.eq_18 (And.intro @Op.operands.eq_19 (And.intro @Op.operands.eq_20 (And.intro @Op.operands.eq_21 (And.intro @Op.operands.eq_22 (And.intro @Op.operands.eq_23 (And.intro @Op.operands.eq_24 (And.intro @Op.operands.eq_25 (And.intro @Op.operands.eq_26 (And.intro @Op.operands.eq_27 (And.intro @Op.operands.eq_28 (And.intro @Op.operands.eq_29 (And.intro @Op.operands.eq_30 (And.intro @Op.operands.eq_31 (And.intro @Op.operands.eq_32 (And.intro @Op.operands.eq_33 (And.intro @Op.operands.eq_34 (And.intro @Op.operands.eq_35 (And.intro @Op.operands.eq_36 (And.intro @Op.operands.eq_37 (And.intro @Op.operands.eq_38 (And.intro @Op.operands.eq_39 (And.intro @Op.operands.eq_40 (And.intro @Op.operands.eq_41 (And.intro @Op.operands.eq_42 (And.intro @Op.operands.eq_43 (And.intro @Call.operands.eq_1 (And.intro @SG (And.intro @Array.toList_append.{0} (And.intro @hapB.eq_1 (And.intro @effIds.eq_1 (And.intro @effIds.eq_2 (And.intro @effSet.eq_1 (And.intro @effSet.eq_2 (And.intro @nextFresh.eq_1 (And.intro @nextFresh.eq_2 (And.intro @ard.eq_1 (And.intro @ard.eq_2 (And.intro @ard.eq_3 (And.intro @ard.eq_4 (And.intro @freshOk.eq_1 (And.intro @freshOk.eq_2 (And.intro @isUnborn.eq_1 (And.intro @Nat.le_refl (And.intro @decide_true (And.intro @Bool.true_or (And.intro @Bool.or_true (And.intro @List.all_cons.{0} (And.intro @List.all_nil.{0} (@Bool.and_true))))))))))))))))))))))))))))))))))))))))))))))))))))))))))))))))))))))))))))))))
theorem jC : type_of% (And.intro @acallR.eq_def (And.intro @acall.eq_1 (And.intro @acall.eq_2 (@awanted.eq_1)))) := And.intro @acallR.eq_def (And.intro @acall.eq_1 (And.intro @acall.eq_2 (@awanted.eq_1)))
theorem jE : type_of% (And.intro @acallR.eq_def (And.intro @acall.eq_1 (And.intro @acall.eq_2 (And.intro @gcond.eq_1 (And.intro @Op.operands.eq_1 (And.intro @Op.operands.eq_2 (And.intro @Op.operands.eq_3 (And.intro @Op.operands.eq_4 (And.intro @Op.operands.eq_5 (And.intro @Op.operands.eq_6 (And.intro @Op.operands.eq_7 (And.intro @Op.operands.eq_8 (And.intro @Op.operands.eq_9 (And.intro @Op.operands.eq_10 (And.intro @Op.operands.eq_11 (And.intro @Op.operands.eq_12 (And.intro @Op.operands.eq_13 (And.intro @Op.operands.eq_14 (And.intro @Op.operands.eq_15 (And.intro @Op.operands.eq_16 (And.intro @Op.operands.eq_17 (And.intro @Op.operands.eq_18 (And.intro @Op.operands.eq_19 (And.intro @Op.operands.eq_20 (And.intro @Op.operands.eq_21 (And.intro @Op.operands.eq_22 (And.intro @Op.operands.eq_23 (And.intro @Op.operands.eq_24 (And.intro @Op.operands.eq_25 (And.intro @Op.operands.eq_26 (And.intro @Op.operands.eq_27 (And.intro @Op.operands.eq_28 (And.intro @Op.operands.eq_29 (And.intro @Op.operands.eq_30 (And.intro @Op.operands.eq_31 (And.intro @Op.operands.eq_32 (And.intro @Op.operands.eq_33 (And.intro @Op.operands.eq_34 (And.intro @Op.operands.eq_35 (And.intro @Op.operands.eq_36 (And.intro @Op.operands.eq_37 (And.intro @Op.operands.eq_38 (And.intro @Op.operands.eq_39 (And.intro @Op.operands.eq_40 (And.intro @Op.operands.eq_41 (And.intro @Op.operands.eq_42 (And.intro @Op.operands.eq_43 (And.intro @Call.operands.eq_1 (And.intro @SG (@Array.toList_append.{0})))))))))))))))))))))))))))))))))))))))))))))))))) := And.intro @acallR.eq_def (And.intro @acall.eq_1 (And.intro @acall.eq_2 (And.intro @gcond.eq_1 (And.intro @Op.operands.eq_1 (And.intro @Op.operands.eq_2 (And.intro @Op.operands.eq_3 (And.intro @Op.operands.eq_4 (And.intro @Op.operands.eq_5 (And.intro @Op.operands.eq_6 (And.intro @Op.operands.eq_7 (And.intro @Op.operands.eq_8 (And.intro @Op.operands.eq_9 (And.intro @Op.operands.eq_10 (And.intro @Op.operands.eq_11 (And.intro @Op.operands.eq_12 (And.intro @Op.operands.eq_13 (And.intro @Op.operands.eq_14 (And.intro @Op.operands.eq_15 (And.intro @Op.operands.eq_16 (And.intro @Op.operands.eq_17 (And.intro @Op.operands.eq_18 (And.intro @Op.operands.eq_19 (And.intro @Op.operands.eq_20 (And.intro @Op.operands.eq_21 (And.intro @Op.operands.eq_22 (And.intro @Op.operands.eq_23 (And.intro @Op.operands.eq_24 (And.intro @Op.operands.eq_25 (And.intro @Op.operands.eq_26 (And.intro @Op.operands.eq_27 (And.intro @Op.operands.eq_28 (And.intro @Op.operands.eq_29 (And.intro @Op.operands.eq_30 (And.intro @Op.operands.eq_31 (And.intro @Op.operands.eq_32 (And.intro @Op.operands.eq_33 (And.intro @Op.operands.eq_34 (And.intro @Op.operands.eq_35 (And.intro @Op.operands.eq_36 (And.intro @Op.operands.eq_37 (And.intro @Op.operands.eq_38 (And.intro @Op.operands.eq_39 (And.intro @Op.operands.eq_40 (And.intro @Op.operands.eq_41 (And.intro @Op.operands.eq_42 (And.intro @Op.operands.eq_43 (And.intro @Call.operands.eq_1 (And.intro @SG (@Array.toList_append.{0})))))))))))))))))))))))))))))))))))))))))))))))))
theorem jO : type_of% (And.intro @aop.eq_1 (And.intro @aop.eq_2 (And.intro @aop.eq_3 (And.intro @aop.eq_4 (And.intro @aop.eq_5 (And.intro @aop.eq_6 (And.intro @aop.eq_7 (And.intro @aop.eq_8 (And.intro @aop.eq_9 (And.intro @aop.eq_10 (And.intro @aop.eq_11 (And.intro @aop.eq_12 (And.intro @aop.eq_13 (And.intro @aop.eq_14 (And.intro @aop.eq_15 (And.intro @aop.eq_16 (And.intro @aop.eq_17 (And.intro @aop.eq_18 (And.intro @aop.eq_19 (And.intro @aop.eq_20 (And.intro @aop.eq_21 (And.intro @aop.eq_22 (And.intro @aop.eq_23 (And.intro @aload.eq_1 (And.intro @aload.eq_2 (And.intro @aload.eq_3 (And.intro @ajust.eq_1 (And.intro @astore.eq_1 (And.intro @astore.eq_2 (And.intro @splice.eq_1 (And.intro @splice.eq_2 (And.intro @afldAddr.eq_1 (And.intro @afld.eq_def (And.intro @aidxAddr.eq_1 (And.intro @aidxAddr.eq_2 (And.intro @aidxAddr.eq_3 (And.intro @aidx.eq_1 (And.intro @aidx.eq_2 (And.intro @abin.eq_1 (And.intro @abin.eq_2 (And.intro @abin.eq_3 (And.intro @abin.eq_4 (And.intro @abin.eq_5 (And.intro @abin.eq_6 (And.intro @abin.eq_7 (And.intro @abin.eq_8 (And.intro @abin.eq_9 (And.intro @abin.eq_10 (And.intro @abin.eq_11 (And.intro @abin.eq_12 (And.intro @abin.eq_13 (And.intro @abin.eq_14 (And.intro @abin.eq_15 (And.intro @abin.eq_16 (And.intro @abin.eq_17 (And.intro @abin.eq_18 (And.intro @abin.eq_19 (And.intro @abin.eq_20 (And.intro @abin.eq_21 (And.intro @abin.eq_22 (And.intro @abin.eq_23 (And.intro @abin.eq_24 (And.intro @abin.eq_25 (And.intro @abin.eq_26 (And.intro @abin.eq_27 (And.intro @abin.eq_28 (And.intro @abin.eq_29 (And.intro @abin.eq_30 (And.intro @aun.eq_1 (And.intro @aun.eq_2 (And.intro @aun.eq_3 (And.intro @abuiltin.eq_1 (And.intro @abuiltin.eq_2 (And.intro @abuiltin.eq_3 (And.intro @abuiltin.eq_4 (And.intro @abuiltin.eq_5 (And.intro @abuild.eq_1 (And.intro @abuild.eq_2 (And.intro @abuildS.eq_1 (And.intro @abuildS.eq_2 (And.intro @aslice.eq_1 (And.intro @aslice.eq_2 (And.intro @aslice.eq_3 (And.intro @aslice.eq_4 (And.intro @aslice.eq_5 (And.intro @abndO.eq_1 (And.intro @abndO.eq_2 (And.intro @abnd.eq_1 (And.intro @abnd.eq_2 (And.intro @amakeSlice.eq_1 (@amakeSlice.eq_2))))))))))))))))))))))))))))))))))))))))))))))))))))))))))))))))))))))))))))))))))))))))))) := And.intro @aop.eq_1 (And.intro @aop.eq_2 (And.intro @aop.eq_3 (And.intro @aop.eq_4 (And.intro @aop.eq_5 (And.intro @aop.eq_6 (And.intro @aop.eq_7 (And.intro @aop.eq_8 (And.intro @aop.eq_9 (And.intro @aop.eq_10 (And.intro @aop.eq_11 (And.intro @aop.eq_12 (And.intro @aop.eq_13 (And.intro @aop.eq_14 (And.intro @aop.eq_15 (And.intro @aop.eq_16 (And.intro @aop.eq_17 (And.intro @aop.eq_18 (And.intro @aop.eq_19 (And.intro @aop.eq_20 (And.intro @aop.eq_21 (And.intro @aop.eq_22 (And.intro @aop.eq_23 (And.intro @aload.eq_1 (And.intro @aload.eq_2 (And.intro @aload.eq_3 (And.intro @ajust.eq_1 (And.intro @astore.eq_1 (And.intro @astore.eq_2 (And.intro @splice.eq_1 (And.intro @splice.eq_2 (And.intro @afldAddr.eq_1 (And.intro @afld.eq_def (And.intro @aidxAddr.eq_1 (And.intro @aidxAddr.eq_2 (And.intro @aidxAddr.eq_3 (And.intro @aidx.eq_1 (And.intro @aidx.eq_2 (And.intro @abin.eq_1 (And.intro @abin.eq_2 (And.intro @abin.eq_3 (And.intro @abin.eq_4 (And.intro @abin.eq_5 (And.intro @abin.eq_6 (And.intro @abin.eq_7 (And.intro @abin.eq_8 (And.intro @abin.eq_9 (And.intro @abin.eq_10 (And.intro @abin.eq_11 (And.intro @abin.eq_12 (And.intro @abin.eq_13 (And.intro @abin.eq_14 (And.intro @abin.eq_15 (And.intro @abin.eq_16 (And.intro @abin.eq_17 (And.intro @abin.eq_18 (And.intro @abin.eq_19 (And.intro @abin.eq_20 (And.intro @abin.eq_21 (And.intro @abin.eq_22 (And.intro @abin.eq_23 (And.intro @abin.eq_24 (And.intro @abin.eq_25 (And.intro @abin.eq_26 (And.intro @abin.eq_27 (And.intro @abin.eq_28 (And.intro @abin.eq_29 (And.intro @abin.eq_30 (And.intro @aun.eq_1 (And.intro @aun.eq_2 (And.intro @aun.eq_3 (And.intro @abuiltin.eq_1 (And.intro @abuiltin.eq_2 (And.intro @abuiltin.eq_3 (And.intro @abuiltin.eq_4 (And.intro @abuiltin.eq_5 (And.intro @abuild.eq_1 (And.intro @abuild.eq_2 (And.intro @abuildS.eq_1 (And.intro @abuildS.eq_2 (And.intro @aslice.eq_1 (And.intro @aslice.eq_2 (And.intro @aslice.eq_3 (And.intro @aslice.eq_4 (And.intro @aslice.eq_5 (And.intro @abndO.eq_1 (And.intro @abndO.eq_2 (And.intro @abnd.eq_1 (And.intro @abnd.eq_2 (And.intro @amakeSlice.eq_1 (@amakeSlice.eq_2))))))))))))))))))))))))))))))))))))))))))))))))))))))))))))))))))))))))))))))))))))))))))
theorem jL : type_of% (And.intro @aload.eq_1 (And.intro @aload.eq_2 (@aload.eq_3))) := And.intro @aload.eq_1 (And.intro @aload.eq_2 (@aload.eq_3))
theorem jN : type_of% (And.intro @true_and (And.intro @and_true (And.intro @LS (And.intro @SS (And.intro @SX (And.intro @HS (And.intro @mkS_cons (And.intro @mkS_nil (And.intro @eq_self' (And.intro @List.map_nil.{0, 0} (And.intro @beq_self_eq_true.{0} (@Nat.succ_ne_self)))))))))))) := And.intro @true_and (And.intro @and_true (And.intro @LS (And.intro @SS (And.intro @SX (And.intro @HS (And.intro @mkS_cons (And.intro @mkS_nil (And.intro @eq_self' (And.intro @List.map_nil.{0, 0} (And.intro @beq_self_eq_true.{0} (@Nat.succ_ne_self)))))))))))
end Go.Abs
namespace Go.Abs
theorem dp_skip {P : Program} {N : Nat} {ops : Array Oper} {Q : Post} {k : Nat} {o : Oper} {l : List Oper} {T : Slots} {G : Nat → Bool} {H : Heap} {r : PV} (hc : gcond ops.toList T G N o = some false)
    (h : DP P N ops Q (k + 1) l (msk (.tup []) (updO T o.dst r) (ugO G o.dst false)) H) : DP P N ops Q k (o :: l) (msk (.tup []) T G) H := by
  intro prev hn
  rw [msk_put_false] at h
  exact dops_skipR [] (fun p hp => .inr ⟨by rw [hn p hp]; simp, by simp⟩) hc (h _ (hn.app _ _))
theorem x1_skip {P : Program} {N : Nat} {ops : Array Oper} {Q : Post} {n0 k m : Nat} {o : Oper} {l : List Oper} {T : Slots} {G : Nat → Bool} {B : Heap} {r : PV} (hc : gcond ops.toList T G N o = some false)
    (h : X1 P N ops Q n0 (k + 1) l (msk (.tup []) (updO T o.dst r) (ugO G o.dst false)) (B ++ List.replicate m .unborn)) : X1 P N ops Q n0 k (o :: l) (msk (.tup []) T G) (B ++ List.replicate m .unborn) := by
  intro prev hn
  rw [msk_put_false] at h
  exact dops_skipR [] (fun p hp => .inr ⟨by rw [hn.noeff p hp]; simp, by simp⟩) hc (h _ (hn.app (by simp)))
/-- Rules for a slice's bounds among operands. -/
theorem jS : (∀ x : Operand, (some x).toArray.toList = [x]) ∧ ((none : Option Operand).toArray.toList = []) ∧ ((none : Option Operand).isNone = true) ∧ (∀ x : Operand, (some x).isNone = false) ∧ (∀ l : List Operand, [] ++ l = l) ∧ (∀ l : List Operand, l ++ [] = l) ∧
    (∀ (x : Operand) (l m : List Operand), (x :: l) ++ m = x :: (l ++ m)) ∧ ((false = true) = False) ∧ (∀ p : Prop, (p ∧ False) = False) ∧ (∀ p : Prop, (False ∧ p) = False) ∧ (∀ (c : Bool) (G : Nat → Bool) (v : Value), gOk c G (.const v) = true) :=
  ⟨fun _ => rfl, rfl, rfl, fun _ => rfl, fun _ => rfl, fun l => List.append_nil l, fun _ _ _ => rfl, by simp, by simp, by simp, fun _ _ _ => rfl⟩
end Go.Abs
namespace Go.Abs
theorem wrap_id' {n : Int} (h0 : -9223372036854775808 ≤ n) (h : n ≤ 9223372036854775807) : IntKind.i64.wrap n = n := by
  simp [IntKind.wrap, IntKind.bits, IntKind.signed]
  omega
section
variable {P : Program} {N nb : Nat} {ops : Array Oper} {Q : Post}
/-- The capacity of a slice that is full. -/
theorem aops_cap {o : Oper} {l : List Oper} {T : Slots} {H : Heap} {x : Operand} {t : TypeId} {es : List PV} (hop : o.op = .call ⟨.builtin .cap, #[x], #[t]⟩) (hx : aev T x = .slice es .full) (hw : awanted ops.toList T N o = some true) (hok : okOpnd N x = true)
    (hte : (telem P t).isSome = true) (h : AOps P N nb ops Q l (updO T o.dst (.int .i64 es.length)) H) : AOps P N nb ops Q (o :: l) T H := by
  refine aops_done hw (fun E a ho hH ht => ?_) h
  have hr := vrel_eval ht x hok
  rw [hx] at hr
  obtain ⟨e, hu⟩ := telem_isSome hte
  obtain ⟨ad, hval⟩ : ∃ ad, a.eval x = .slice ad es.length es.length := by
    generalize a.eval x = y at hr
    cases hr with
    | nils _ _ => exact ⟨none, rfl⟩
    | slice ad len cap sz _ _ vs hlen hcap hmax hsz hc hr ht =>
      have : cap = len := ht
      subst this; subst hlen; exact ⟨some ad, rfl⟩
  refine ⟨E, .int .i64 es.length, .inl ?_, .refl E, ho, hH, .int _ _⟩
  unfold execOp
  rw [hop]
  simp only
  refine (run_builtin (c := ⟨.builtin .cap, #[x], #[t]⟩) (a := a) (E := E) (P := P) (xs := [x]) (ts := [t]) (ty := o.type) rfl rfl rfl (s := Builtin.cap_ #[t] o.type #[a.eval x]) rfl).trans ?_
  simp only [Builtin.cap_, List.getElem?_toArray, List.getElem?_cons_zero, Sem.run_bind, run_under hu, Result.andThen_ok, hval, Sem.run_pure, goInt]
theorem wanted_none {o : Oper} {y : Nat → Option Bool} (h : o.guard = none) : Region.wanted o y = true := by unfold Region.wanted; rw [h]
/-- An empty slice's room: append of a made slice, cut to nothing. -/
theorem aops_grow {o1 o2 o3 o4 : Oper} {l : List Oper} {T : Slots} {H : Heap} {x y s : Nat} {d1 d2 d3 d4 : Nat} {t u : TypeId} {ei : TypeId × TI} {z : PV} {n : Int} (id : Nat) (hid : H[id]? = some .unborn)
    (g1 : o1.guard = none) (g2 : o2.guard = none) (g3 : o3.guard = none) (g4 : o4.guard = none)
    (p1 : o1.op = .call ⟨.builtin .append, #[.tmp x, .tmp y], #[t, u]⟩) (p2 : o2.op = .move (.tmp s)) (p3 : o3.op = .call ⟨.builtin .len, #[.tmp d2], #[t]⟩) (p4 : o4.op = .slice t (.tmp d1) none (some (.tmp d3)) none)
    (e1 : o1.dst = some d1) (e2 : o2.dst = some d2) (e3 : o3.dst = some d3) (e4 : o4.dst = some d4)
    (hd : d1 ≠ d2 ∧ d1 ≠ d3 ∧ d2 ≠ d3 ∧ s ≠ d1 ∧ x < N ∧ y < N ∧ s < N ∧ d1 < N ∧ d2 < N ∧ d3 < N)
    (hx : T x = .slice [] .full) (hy : T y = .int .i64 n) (hs : T s = .slice [] .full) (hn : 0 < n) (hnb : n * ei.2.bytes ≤ 2 ^ 47) (hnm : n ≤ maxLen)
    (hte : telem P t = some ei) (htu : tint P u = some .i64) (hz : tzero P ei.1 = some z) (hzf : z.fits ei.2 = true) (hsz : 0 < ei.2.sz)
    (h : AOps P N nb ops Q l (upd (upd (upd (upd T d1 .junk) d2 (.slice [] .full)) d3 (.int .i64 0)) d4 (.slice [] (.tok id))) (H.set id (.buf 0 ei.2.sz))) : AOps P N nb ops Q (o1 :: o2 :: o3 :: o4 :: l) T H := by
  obtain ⟨q1, q2, q3, q4, q5, q6, q7, q8, q9, q10⟩ := hd
  obtain ⟨e, i⟩ := ei
  obtain ⟨h1, h2⟩ := telem_some hte
  obtain ⟨dd, f, h3, h4, rfl⟩ := tinfo_some h2
  obtain ⟨f', zv, h5, h6, rfl⟩ := tzero_some hz
  simp only at h5 hzf hnb hsz h
  rw [h4] at h5; cases h5
  obtain ⟨hzs, hzj⟩ := PV.fits_spec hzf
  simp only at hzs
  have hue : P.underlying u = some (.int .i64) := by
    unfold tint at htu
    split at htu
    · rename_i k hq; cases htu; exact hq
    · cases htu
  intro E a ho hH ht
  subst hH
  obtain ⟨zc1, zc2⟩ := (vrel_ofConst E.view zv).not_junk_cells hzj
  have hzv : zv.cells.size = f.size := zc1.trans hzs
  have full : ∀ v, VRel E.view v (.slice [] .full) → ∃ ad, v = .slice ad 0 0 := fun v hv => by
    cases hv with
    | nils _ _ => exact ⟨none, rfl⟩
    | slice ad len cap sz _ _ vs hlen hcap hmax hsz' hc hr ht =>
      have : cap = len := ht
      subst this; simp at hlen; subst hlen; exact ⟨some ad, rfl⟩
  have rx := ht.rel x q5
  have rs := ht.rel s q7
  have ry := ht.rel y q6
  rw [hx] at rx; rw [hs] at rs; rw [hy] at ry
  obtain ⟨adx, vx⟩ := full _ rx
  obtain ⟨ads, vs⟩ := full _ rs
  have vy := ry.int_inv
  have vx' : a.eval (.tmp x) = .slice adx 0 0 := vx
  have vy' : a.eval (.tmp y) = .int .i64 n := vy
  obtain ⟨m, rfl⟩ : ∃ m : Nat, n = m := ⟨n.toNat, by omega⟩
  have em : maxLen = 9223372036854775807 := by decide
  have hw : IntKind.i64.wrap (m : Int) = m := wrap_id' (by omega) (by omega)
  obtain ⟨c, hc6, hc7, hc8⟩ := run_choose_cap (P := P) (w := E.w) m 0 e
  have hcm : c ≤ maxLen := by
    have := hc8 (by have e2 : maxLen = 2 ^ 63 - 1 := rfl; omega)
    have e2 : maxLen = 2 ^ 63 - 1 := rfl
    omega
  let arr : Array Value := #[] ++ Builtin.zeroCells zv.cells m ++ Builtin.zeroCells zv.cells (c - m)
  have harr : arr.size = c * f.size := by
    have h0 : (#[] : Array Value).size = 0 := rfl
    simp only [arr, Array.size_append, zeroCells_size, hzv, h0, Nat.zero_add]
    rw [← Nat.add_mul]; congr 1; omega
  have hd' := ho.drew
  have hid' : E.drew.H[id]? = some .unborn ∨ ∃ n0, E.drew.H[id]? = some (.buf n0 f.size) ∧ n0 < 0 := .inl hid
  have hle' := Env.newBuf_le (E := E.drew) hd' (n := 0) (sz := f.size) hid' arr e 0
  have hok' := Env.Ok.newBuf (E := E.drew) hd' (n := 0) (sz := f.size) hid' arr e 0
  have hlen := tok_len (E := E.drew) (n := 0) hid'
  have hle := E.drew_le.trans hle'
  generalize hE' : E.drew.newBuf id 0 f.size arr e 0 = E' at hle' hok' hle
  have hH' : E'.H = E.H.set id (.buf 0 f.size) := by rw [← hE']; rfl
  have run1 : (execOp a.eval o1).run P E.w = .ok (.value (.slice (some ⟨E.w.heap.size, 0, none⟩) m c)) E'.w := by
    unfold execOp
    rw [p1]
    simp only
    refine (run_builtin (c := ⟨.builtin .append, #[.tmp x, .tmp y], #[t, u]⟩) (a := a) (E := E) (P := P) (xs := [.tmp x, .tmp y]) (ts := [t, u]) (ty := o1.type) rfl rfl rfl (s := Builtin.append_ #[t, u] o1.type #[a.eval (.tmp x), a.eval (.tmp y)]) rfl).trans ?_
    have hc6' : (choose (.appendCap m 0 e)).run P E.w = .ok c E.drew.w := hc6
    have n0 : ¬ (m : Int) < 0 := by omega
    have n1 : ¬ (m : Int) * f.bytes > 2 ^ 48 := by omega
    have n2 : ¬ m ≤ 0 := by omega
    have n3 : ¬ ((m : Nat) : Int) > IntKind.i64.max := by
      have e1 : IntKind.i64.max = 9223372036854775807 := by decide
      have e2 : maxLen = 9223372036854775807 := by decide
      rw [e1]; omega
    have n4 : ¬ Builtin.nextslicecap m 0 * f.bytes > 2 ^ 48 := by
      have := nextslicecap_le m 0 (by omega)
      have := Nat.mul_le_mul_right f.bytes this
      rw [Nat.mul_assoc] at this
      have hb : m * f.bytes ≤ 2 ^ 47 := by exact_mod_cast hnb
      omega
    have n5 : ¬ m * f.size = 0 := by
      intro h0
      rcases Nat.mul_eq_zero.1 h0 with h0 | h0 <;> omega
    have hfirst : (Builtin.firstCells f.size 0 (.slice adx 0 0)).run P E.drew.w = .ok #[] E.drew.w := by
      cases adx <;> simp only [Builtin.firstCells, Nat.zero_mul, loadCells, loadCellsFrom, Sem.run_pure]
    have hai : (asInt (.int .i64 (m : Int))).run P E.w = .ok (m : Int) E.w := rfl
    simp only [Builtin.append_, List.getElem?_toArray, List.getElem?_cons_zero, List.getElem?_cons_succ, Sem.run_bind, run_under h1, run_size h4, run_under hue, Result.andThen_ok, Sem.run_pure, vx', vy', hai, hw, n0, n1, n2, n3, n4, n5, if_true, if_false, run_tinfo h4,
      Int.toNat_natCast, Nat.zero_add, Bool.not_true, Bool.false_eq_true, run_zero h4 h6, hc6', run_ask, hfirst, Go.newRow, run_newObj, false_and]
    rw [← hE']
    rfl
  have hb : E'.tb id = some E.w.heap.size := by rw [← hE']; simp [Env.newBuf, Env.drew]
  have hk : E'.κ E.w.heap.size = .buf 0 arr.size := by rw [← hE']; simp only [Env.newBuf]; exact if_pos rfl
  have rel0 : VRel E'.view (.slice (some ⟨E.w.heap.size, 0, none⟩) 0 c) (.slice [] (.tok id)) := by
    refine .slice _ 0 c f.size [] _ (fun _ _ => undef) rfl (Nat.zero_le _) hcm (fun i h => absurd h (by simp)) (fun i j h => absurd h (by omega)) (fun i j h => absurd h (by simp)) ⟨⟨.buf 0 f.size, by rw [hH']; exact List.getElem?_set_self hlen, by simp⟩, fun t' ht' => ?_⟩
    have hg : E'.H[id]? = some (.buf 0 f.size) := by rw [hH']; exact List.getElem?_set_self hlen
    simp only [Env.view, hg, hb, hk, Option.bind_some, Option.some.injEq] at ht'
    subst ht'
    refine ⟨Nat.le_refl _, fun _ => .inr ⟨E.w.heap.size, 0, arr.size, 0, rfl, rfl, by simp, by rw [harr]; simp⟩⟩
  refine wpList_cons (wanted_none g1) ?_
  unfold Oper.wp
  rw [run1]
  show wpList P ops _ _ (a.put o1.dst _) E'.w
  rw [e1]
  have ht1 : TRel E'.view N (a.put (some d1) (.slice (some ⟨E.w.heap.size, 0, none⟩) m c)) (upd T d1 .junk) := (ht.mono hle.view).put (some d1) (.junk _)
  obtain ⟨E2, v2, r2, le2, ok2, hH2, rel2⟩ := aop_sound (o := o2) (P := P) hok' ht1 (by rw [p2]; simp [okOp, Op.operands, okOpnd, q7]) (mt := false) (fresh := 0) (v := .slice [] .full) (eff := none) (by rw [p2]; simp only [aop, aev, upd, if_neg q4, hs]) (by intro ob h; cases h)
  have ht2 := ((ht1.mono le2.view).put (some d2) rel2)
  obtain ⟨E3, v3, r3, le3, ok3, hH3, rel3⟩ := aop_sound (o := o3) (P := P) ok2 ht2 (by rw [p3]; simp [okOp, Op.operands, Call.operands, okOpnd, q9]) (mt := false) (fresh := 0) (v := .int .i64 0) (eff := none) (by rw [p3]; simp [aop, abuiltin, aev, updO, upd, hte]) (by intro ob h; cases h)
  have ht3 := ((ht2.mono le3.view).put (some d3) rel3)
  have key : ∀ (o : Oper) (E1 E2 : Env) (a : Act) (v : Value) (d : Nat) (l : List Oper) (Q2 : Exit → Act → World → Prop), o.guard = none → o.dst = some d → ((execOp a.eval o).run P E1.w = .ok (.value v) E2.w ∨ ((execOp a.eval o).run P E1.w = .ok .skip E2.w ∧ v = undef)) → wpList P ops Q2 l (a.put (some d) v) E2.w → wpList P ops Q2 (o :: l) a E1.w := by
    intro o E1 E2 a v d l Q2 hg hd hr hn
    refine wpList_cons (wanted_none hg) ?_
    unfold Oper.wp
    rcases hr with hr | ⟨hr, rfl⟩
    · rw [hr]; show wpList P ops _ _ (a.put o.dst _) _; rw [hd]; exact hn
    · rw [hr]; show wpList P ops _ _ (a.put o.dst _) _; rw [hd]; exact hn
  refine key o2 E' E2 _ v2 d2 _ _ g2 e2 r2 ?_
  refine key o3 E2 E3 _ v3 d3 _ _ g3 e3 r3 ?_
  have hv3 : v3 = .int .i64 0 := rel3.int_inv
  have hsz3 := ht3.size
  have gd1 : ∀ (b : Act) (d : Nat) (v : Value), d < b.tmps.size → (b.put (some d) v).tmps.getD d undef = v := fun b d v h => by
    simp only [Act.put]
    rw [Array.getD_eq_getD_getElem?, Array.getElem?_setIfInBounds_self_of_lt h]; rfl
  have gd2 : ∀ (b : Act) (d d' : Nat) (v : Value), d ≠ d' → (b.put (some d) v).tmps.getD d' undef = b.tmps.getD d' undef := fun b d d' v h => by
    simp only [Act.put]
    rw [Array.getD_eq_getD_getElem?, Array.getElem?_setIfInBounds_ne h, ← Array.getD_eq_getD_getElem?]
  have run4 : (execOp (Act.eval (((a.put (some d1) (.slice (some ⟨E.w.heap.size, 0, none⟩) m c)).put (some d2) v2).put (some d3) v3)) o4).run P E3.w = .ok (.value (.slice (some ⟨E.w.heap.size, 0, none⟩) 0 c)) E3.w := by
    unfold execOp
    rw [p4]
    have f1 : (((a.put (some d1) (.slice (some ⟨E.w.heap.size, 0, none⟩) m c)).put (some d2) v2).put (some d3) v3).eval (.tmp d1) = .slice (some ⟨E.w.heap.size, 0, none⟩) m c := by
      show Array.getD _ d1 undef = _
      rw [gd2 _ _ _ _ (Ne.symm q2), gd2 _ _ _ _ (Ne.symm q1), gd1 _ _ _ (by rw [ht.size]; exact q8)]
    have f2 : (((a.put (some d1) (.slice (some ⟨E.w.heap.size, 0, none⟩) m c)).put (some d2) v2).put (some d3) v3).eval (.tmp d3) = .int .i64 0 := by
      show Array.getD _ d3 undef = _
      rw [gd1 _ _ _ (by rw [ht2.size]; exact q10), hv3]
    simp only [Option.map_none, Option.map_some, f1, f2]
    have hb0 : (Instr.sliceBounds true m c none (some (.int .i64 0)) none).run P E3.w = .ok (0, 0, c) E3.w := by
      simp [Instr.sliceBounds, Instr.sliceBound, asInt, asIntOf, Sem.run_bind]
    simp only [Instr.sliceAt, Instr.slice, Sem.run_bind, run_under h1, Result.andThen_ok, hb0, run_size h4, Sem.run_pure, Nat.sub_zero, Nat.sub_self]
    have ha0 : ∀ ad : Addr, ad.add 0 = ad := add_zero'
    split <;> simp [ha0]
  refine key o4 E3 E3 _ _ d4 _ _ g4 e4 (.inl run4) ?_
  have ht4 := ht3.put (some d4) ((rel0.mono le2.view).mono le3.view)
  have hfin := h E3 _ ok3 (by rw [hH3, hH2]; exact hH') ht4
  exact wpList_mono (fun e a w hl => lift_mono (((hle.trans le2).trans le3).leN nb) (fun _ _ _ q => q) hl) l _ _ hfin
end
end Go.Abs
namespace Go.Abs
section
variable {P : Program} {N nb : Nat} {ops : Array Oper} {Q : Post}
/-- An append to an empty slice without room: what it makes is taken as a row that may change. -/
theorem aops_appendM {o : Oper} {l : List Oper} {T : Slots} {H : Heap} {x y : Operand} {t u : TypeId} {ei : TypeId × TI} {z : PV} {xs : List PV} {tl : Tail} (id : Nat) (hid : H[id]? = some .unborn) (hw : awanted ops.toList T N o = some true)
    (hop : o.op = .call ⟨.builtin .append, #[x, y], #[t, u]⟩) (okx : okOpnd N x = true) (oky : okOpnd N y = true) (hx : aev T x = .slice [] .full) (hy : aev T y = .slice xs tl) (hne : xs ≠ [])
    (hb : xs.length * ei.2.bytes ≤ 2 ^ 47) (hm : xs.length ≤ maxLen) (hxs : ∀ e ∈ xs, e.cells.length = ei.2.sz) (hsz : 0 < ei.2.sz)
    (hte : telem P t = some ei) (htu : (telem P u).isSome = true) (hz : tzero P ei.1 = some z) (hzf : z.fits ei.2 = true)
    (h : ∀ (c : Nat) (rest : List PV), xs.length ≤ c → c ≤ maxLen → rest = (List.replicate (c - xs.length) z.cells).flatten → AOps P N nb ops Q l (updO T o.dst (.msl id 0 xs.length c)) (H.set id (.row (flatE xs ++ rest)))) : AOps P N nb ops Q (o :: l) T H := by
  intro E a ho hH ht
  subst hH
  obtain ⟨e, i⟩ := ei
  obtain ⟨h1, h2⟩ := telem_some hte
  obtain ⟨dd, f, h3, h4, rfl⟩ := tinfo_some h2
  obtain ⟨f', zv, h5, h6, rfl⟩ := tzero_some hz
  simp only at h5 hzf hb hxs hsz
  rw [h4] at h5; cases h5
  obtain ⟨hzs, hzj⟩ := PV.fits_spec hzf
  simp only at hzs
  obtain ⟨zc1, zc2⟩ := (vrel_ofConst E.view zv).not_junk_cells hzj
  have hzv : zv.cells.size = f.size := zc1.trans hzs
  obtain ⟨eu, hue⟩ := telem_isSome htu
  have hvx := vrel_eval ht x okx
  have hvy := vrel_eval ht y oky
  rw [hx] at hvx; rw [hy] at hvy
  obtain ⟨adx, vx⟩ : ∃ ad, a.eval x = .slice ad 0 0 := by
    generalize a.eval x = w at hvx
    cases hvx with
    | nils _ _ => exact ⟨none, rfl⟩
    | slice ad len cap sz _ _ vs hlen hcap hmax hsz' hc hr ht =>
      have : cap = len := ht
      subst this; simp at hlen; subst hlen; exact ⟨some ad, rfl⟩
  have em : maxLen = 9223372036854775807 := by decide
  have hxl : 0 < xs.length := List.length_pos_iff.2 hne
  obtain ⟨c, hc6, hc7, hc8⟩ := run_choose_cap (P := P) (w := E.w) xs.length 0 e
  have hcm : c ≤ maxLen := by
    have := hc8 (by have e2 : maxLen = 2 ^ 63 - 1 := rfl; omega)
    have e2 : maxLen = 2 ^ 63 - 1 := rfl
    omega
  have hd := ho.drew
  obtain ⟨arrx, r1, r2, ady, capy, vy, hcy1, hcy2, _⟩ := run_first (P := P) (E := E.drew) hvy hxs
  have hxsz : arrx.size = xs.length * f.size := by rw [r2.1, flatE_length xs hxs]
  have hzl := rl_zero (V := E.view) zv hzj (c - xs.length)
  have hzl2 : RL E.view (Builtin.zeroCells zv.cells (c - xs.length)) ((List.replicate (c - xs.length) (ofConst zv).cells).flatten) := by
    have := hzl
    rw [flatE_replicate] at this
    exact this
  let arr : Array Value := #[] ++ arrx ++ Builtin.zeroCells zv.cells (c - xs.length)
  have hrl : RL E.drew.view arr (flatE xs ++ (List.replicate (c - xs.length) (ofConst zv).cells).flatten) := by
    have := rl_append (V := E.drew.view) (a1 := arrx) (c1 := flatE xs) r2 hzl2
    simpa [arr] using this
  have hle' := Env.newRow_le (E := E.drew) hd (id := id) hid arr e (flatE xs ++ (List.replicate (c - xs.length) (ofConst zv).cells).flatten)
  have hok' := Env.Ok.newRow (E := E.drew) hd (id := id) hid arr e (flatE xs ++ (List.replicate (c - xs.length) (ofConst zv).cells).flatten) hrl.1 hrl.2
  have hlen := len_of_get hid
  have run1 : (execOp a.eval o).run P E.w = .ok (.value (.slice (some ⟨E.w.heap.size, 0, none⟩) xs.length c)) (E.drew.newRow id arr e (flatE xs ++ (List.replicate (c - xs.length) (ofConst zv).cells).flatten)).w := by
    unfold execOp
    rw [hop]
    simp only
    refine (run_builtin (c := ⟨.builtin .append, #[x, y], #[t, u]⟩) (a := a) (E := E) (P := P) (xs := [x, y]) (ts := [t, u]) (ty := o.type) rfl rfl rfl (s := Builtin.append_ #[t, u] o.type #[a.eval x, a.eval y]) rfl).trans ?_
    have hc6' : (choose (.appendCap xs.length 0 e)).run P E.w = .ok c E.drew.w := hc6
    have n2 : ¬ xs.length ≤ 0 := by omega
    have n3 : ¬ ((xs.length : Nat) : Int) > IntKind.i64.max := by
      have e1 : IntKind.i64.max = 9223372036854775807 := by decide
      rw [e1]; omega
    have n4 : ¬ Builtin.nextslicecap xs.length 0 * f.bytes > 2 ^ 48 := by
      have := nextslicecap_le xs.length 0 (by omega)
      have := Nat.mul_le_mul_right f.bytes this
      rw [Nat.mul_assoc] at this
      omega
    have hfirst : (Builtin.firstCells f.size 0 (.slice adx 0 0)).run P E.drew.w = .ok #[] E.drew.w := by
      cases adx <;> simp only [Builtin.firstCells, Nat.zero_mul, loadCells, loadCellsFrom, Sem.run_pure]
    have r1' : (Builtin.firstCells f.size xs.length (.slice ady xs.length capy)).run P E.drew.w = .ok arrx E.drew.w := by rw [← vy]; exact r1
    simp only [Builtin.append_, List.getElem?_toArray, List.getElem?_cons_zero, List.getElem?_cons_succ, Sem.run_bind, run_under h1, run_size h4, run_under hue, Result.andThen_ok, Sem.run_pure, vx, vy, Builtin.lenOf, n2, n3, n4, if_true, if_false, run_tinfo h4,
      Nat.zero_add, Bool.not_false, Bool.false_eq_true, run_zero h4 h6, hc6', run_ask, hfirst, r1', Go.newRow, run_newObj, false_and]
    rfl
  have hv : VRel (E.drew.newRow id arr e (flatE xs ++ (List.replicate (c - xs.length) (ofConst zv).cells).flatten)).view (.slice (some ⟨E.w.heap.size, 0, none⟩) xs.length c) (.msl id 0 xs.length c) := by
    have := VRel.msl (V := (E.drew.newRow id arr e (flatE xs ++ (List.replicate (c - xs.length) (ofConst zv).cells).flatten)).view) id 0 xs.length c
      ⟨.row _, by simp only [Env.newRow]; exact List.getElem?_set_self (len_of_get hid), by simp⟩ hcm
    simpa [Env.view, Env.newRow, Env.drew] using this
  refine wpList_cons (awanted_sound ht hw) ?_
  unfold Oper.wp
  rw [run1]
  show wpList P ops _ _ (a.put o.dst _) _
  have hn := h c _ hc7 hcm rfl _ _ hok' rfl ((ht.mono (E.drew_le.trans hle').view).put o.dst hv)
  exact wpList_mono (fun e a w hl => lift_mono ((E.drew_le.trans hle').leN nb) (fun _ _ _ q => q) hl) l _ _ hn
end
end Go.Abs
namespace Go.Abs
/-! A mutable row of a call's own, held by a box, that from here on grows as a plain slice. -/

/-- The box 'ib' holds the slice over the row 'id'. -/
def Env.grw (E : Env) (H1 : Heap) (ib id k cp sz : Nat) (es : List PV) : Env :=
  { E with κ := fun b => if b = E.ρ id then .buf (k * sz) (cp * sz) else E.κ b, ρ := fun i => if i = H1.length then E.ρ ib else E.ρ i,
           tb := fun i => if i = H1.length + 1 then some (E.ρ id) else E.tb i, H := H1 ++ [.row [.slice (es.take k) (.tok (H1.length + 1))], .buf k sz] }

section
variable {E : Env} (ho : E.Ok) {H1 L : Heap} (hE : E.H = H1 ++ L) {ib id k cp sz : Nat} {es : List PV}
  (hib : H1.length ≤ ib) (hid : H1.length ≤ id) (hne : ib ≠ id) (hbox : E.H[ib]? = some (.row [.msl id 0 k cp])) (hrow : E.H[id]? = some (.row (flatE es))) (hk : k ≤ es.length) (hcp : es.length = cp)
  (hes : ∀ e ∈ es, e.cells.length = sz) (hb : ∀ e ∈ es, ∀ x ∈ e.cells, Bel H1.length x)

include ho hrow in
theorem Env.grw_cell (a : Addr) (v : Value) (h : E.view.cell a = some v) : (E.grw H1 ib id k cp sz es).view.cell a = some v := by
  obtain ⟨_, _, _, _, _, h4⟩ := ho.rows id _ hrow
  simp only [Env.view] at h ⊢
  split at h
  · rename_i hs
    have hne : a.block ≠ E.ρ id := by rintro e; rw [e, h4] at hs; cases hs
    have : ((E.grw H1 ib id k cp sz es).κ a.block).stable a.off = true := by
      simp only [Env.grw, if_neg hne]; exact hs
    rw [if_pos this]; exact h
  · cases h

include hE in
theorem Env.grw_get {i : Nat} (hi : i < H1.length) : (E.grw H1 ib id k cp sz es).H[i]? = E.H[i]? := by
  show (H1 ++ _)[i]? = _
  rw [cut_get hE hi, List.getElem?_append_left hi]

include ho hE hrow in
theorem Env.grw_tok {i : Nat} (hi : i < H1.length) {t : TokI} (h : (E.grw H1 ib id k cp sz es).view.tok i = some t) : E.view.tok i = some t := by
  have e1 := Env.grw_get (ib := ib) (id := id) (k := k) (cp := cp) (sz := sz) (es := es) hE hi
  obtain ⟨_, _, _, _, _, h4⟩ := ho.rows id _ hrow
  have e2 : (E.grw H1 ib id k cp sz es).tb i = E.tb i := by simp only [Env.grw]; rw [if_neg (by omega)]
  simp only [Env.view, e1, e2] at h ⊢
  split at h
  · rename_i n s hx
    rw [← h]
    cases htb : E.tb i with
    | none => rfl
    | some b =>
      obtain ⟨arr, elem, pos, _, h6⟩ := ho.bufs i n s b hx htb
      have hne : b ≠ E.ρ id := by rintro e; rw [e, h4] at h6; cases h6
      simp only [Option.bind_some]
      rw [show (E.grw H1 ib id k cp sz es).κ b = E.κ b by simp only [Env.grw, if_neg hne]]
  · cases h

include ho hE hrow in
theorem Env.grw_rel {v : Value} {p : PV} (h : VRel E.view v p) (hp : Bel H1.length p) : VRel (E.grw H1 ib id k cp sz es).view v p := by
  refine VRel.cut (V := E.view) (V' := (E.grw H1 ib id k cp sz es).view) (n := H1.length) (Env.grw_cell ho hrow) (fun i hi hb => ⟨?_, ?_, fun t ht => Env.grw_tok ho hE hrow hi ht⟩) h hp
  · obtain ⟨o, h1, h2⟩ := hb
    exact ⟨o, by rw [Env.grw_get hE hi]; exact h1, h2⟩
  · show (if i = H1.length then _ else _) = _
    rw [if_neg (by omega)]; rfl

include ho hE hbox hrow in
theorem Env.grw_leN {n : Nat} (hn : n ≤ H1.length) : E.leN n (E.grw H1 ib id k cp sz es) := by
  refine ⟨rfl, rfl, rfl, Nat.le_refl _, fun b hb h1 _ => ⟨?_, rfl⟩, Env.grw_cell ho hrow, fun i hi hb => ⟨?_, ?_, fun t' ht => ⟨t', Env.grw_tok ho hE hrow (by omega) ht, .inl rfl⟩⟩, fun b hb hx => ?_⟩
  · simp only [Env.grw]
    rw [if_neg]
    rintro rfl
    exact h1 ⟨id, _, hrow, rfl⟩
  · obtain ⟨o, h1, h2⟩ := hb
    exact ⟨o, by rw [Env.grw_get hE (by omega)]; exact h1, h2⟩
  · show (if i = H1.length then _ else _) = _
    rw [if_neg (by omega)]; rfl
  · rcases hx with ⟨i, cs, h1, h2⟩ | ⟨i, m, s, h1, h2⟩
    · left
      by_cases hi : i < H1.length
      · rw [Env.grw_get hE hi] at h1
        refine ⟨i, cs, h1, ?_⟩
        rw [← h2]; show _ = (if i = H1.length then _ else _)
        rw [if_neg (by omega)]
      · by_cases he : i = H1.length
        · subst he
          refine ⟨ib, _, hbox, ?_⟩
          rw [← h2]; show _ = (if H1.length = H1.length then _ else _)
          rw [if_pos rfl]
        · exfalso
          have : (E.grw H1 ib id k cp sz es).H[i]? = ([.row [.slice (es.take k) (.tok (H1.length + 1))], .buf k sz] : Heap)[i - H1.length]? := by
            show (H1 ++ _)[i]? = _
            rw [List.getElem?_append_right (by omega)]
          rw [this] at h1
          match hd : i - H1.length, h1 with
          | 0, _ => omega
          | 1, h1 => cases h1
          | j + 2, h1 => cases h1
    · by_cases hi : i < H1.length
      · right
        rw [Env.grw_get hE hi] at h1
        refine ⟨i, m, s, h1, ?_⟩
        rw [← h2]; show _ = (if i = H1.length + 1 then _ else _)
        rw [if_neg (by omega)]
      · left
        have : (E.grw H1 ib id k cp sz es).H[i]? = ([.row [.slice (es.take k) (.tok (H1.length + 1))], .buf k sz] : Heap)[i - H1.length]? := by
          show (H1 ++ _)[i]? = _
          rw [List.getElem?_append_right (by omega)]
        rw [this] at h1
        match hd : i - H1.length, h1 with
        | 0, h1 => cases h1
        | 1, _ =>
          have e : i = H1.length + 1 := by omega
          have h2 : (if i = H1.length + 1 then some (E.ρ id) else E.tb i) = some b := h2
          rw [if_pos e] at h2
          exact ⟨id, _, hrow, by cases h2; rfl⟩
        | j + 2, h1 => cases h1

include ho hE hrow hk hcp hes hb in
theorem Env.grw_msl {v : Value} (h : VRel E.view v (.msl id 0 k cp)) : VRel (E.grw H1 ib id k cp sz es).view v (.slice (es.take k) (.tok (H1.length + 1))) := by
  obtain ⟨arr, elem, h1, h2, h3, h4⟩ := ho.rows id _ hrow
  cases h with
  | msl _ _ _ _ hbn hm =>
    have hlenf := flatE_length es hes
    have hκ : (E.grw H1 ib id k cp sz es).κ (E.ρ id) = .buf (k * sz) (cp * sz) := by simp only [Env.grw, if_pos]
    let vs : Nat → Nat → Value := fun i j => arr.getD (i * sz + j) undef
    have hbound : ∀ i j, i < k → j < sz → i * sz + j < k * sz := by
      intro i j hi hj
      have : (i + 1) * sz ≤ k * sz := Nat.mul_le_mul_right _ (by omega)
      rw [Nat.add_mul] at this; omega
    have hks : k * sz ≤ es.length * sz := Nat.mul_le_mul_right _ hk
    have hcell2 : ∀ i j, i < k → j < sz → (E.grw H1 ib id k cp sz es).view.cell ⟨E.ρ id, i * sz + j, none⟩ = some (vs i j) := by
      intro i j hi hj
      have hbd := hbound i j hi hj
      simp only [Env.view, hκ, Kind.stable, decide_eq_true_eq, if_pos hbd]
      show E.w.cell? _ = _
      rw [cell_row h1]
      show _ = some (arr.getD _ undef)
      rw [Array.getD_eq_getD_getElem?, Array.getElem?_eq_getElem (by omega)]; rfl
    have hadd : ∀ n, (⟨E.ρ id, 0, none⟩ : Addr).add n = ⟨E.ρ id, n, none⟩ := by
      intro n; unfold Addr.add; split
      · rename_i e; subst e; rfl
      · simp
    have hget1 : (E.grw H1 ib id k cp sz es).H[H1.length + 1]? = some (.buf k sz) := by
      show (H1 ++ _)[H1.length + 1]? = _
      rw [List.getElem?_append_right (by omega), Nat.add_sub_cancel_left]; rfl
    have htake : (es.take k).length = k := by rw [List.length_take]; omega
    refine .slice ⟨E.ρ id, 0, none⟩ k cp sz (es.take k) _ vs htake (by omega) hm ?_ ?_ ?_ ⟨⟨_, hget1, by simp⟩, fun t ht => ?_⟩
    · intro i hi
      rw [List.getElem_take]
      exact hes _ (List.getElem_mem _)
    · intro i j hi hj
      rw [hadd]; exact hcell2 i j hi hj
    · intro i j hi hj
      rw [List.length_take] at hi
      have hi' : i < es.length := by omega
      have hik : i < k := by omega
      have hjs : j < sz := by rw [List.getElem_take] at hj; rwa [hes _ (List.getElem_mem _)] at hj
      have hlt := hbound i j hik hjs
      have hlt' : i * sz + j < (flatE es).length := by rw [hlenf]; omega
      have hget := flatE_get es hes i j hi' hjs
      have hr := h3 (i * sz + j) hlt'
      rw [List.getElem?_eq_getElem hlt', List.getElem?_eq_getElem (by rw [hes _ (List.getElem_mem _)]; exact hjs)] at hget
      have hget' := Option.some.inj hget
      have hr2 := Env.grw_rel (ib := ib) (id := id) (k := k) (cp := cp) (sz := sz) (es := es) ho hE hrow hr (by
        rw [hget']; exact hb _ (List.getElem_mem _) _ (List.getElem_mem _))
      rw [hget'] at hr2
      simp only [List.getElem_take]
      exact hr2
    · simp only [Env.view, hget1] at ht
      have e2 : (E.grw H1 ib id k cp sz es).tb (H1.length + 1) = some (E.ρ id) := by simp only [Env.grw, if_pos]
      rw [e2] at ht
      simp only [Option.bind_some, hκ, Option.some.injEq] at ht
      subst ht
      exact ⟨by simp, fun _ => .inr ⟨_, _, _, 0, rfl, rfl, by simp, by simp⟩⟩

include ho hE hib hid hne hbox hrow hk hcp hes hb in
theorem Env.Ok.grw (hb1 : HBel H1.length H1) : (E.grw H1 ib id k cp sz es).Ok := by
  have hg : ∀ {i : Nat} {o : AObj}, i < H1.length → (E.grw H1 ib id k cp sz es).H[i]? = some o → E.H[i]? = some o := fun hi h => by rw [← Env.grw_get hE hi]; exact h
  have hρ : ∀ i, i < H1.length → (E.grw H1 ib id k cp sz es).ρ i = E.ρ i := fun i hi => by show (if i = H1.length then _ else _) = _; rw [if_neg (by omega)]
  have hρ0 : (E.grw H1 ib id k cp sz es).ρ H1.length = E.ρ ib := by show (if H1.length = H1.length then _ else _) = _; rw [if_pos rfl]
  have htb : ∀ i, i < H1.length → (E.grw H1 ib id k cp sz es).tb i = E.tb i := fun i hi => by show (if i = H1.length + 1 then _ else _) = _; rw [if_neg (by omega)]
  have htb1 : (E.grw H1 ib id k cp sz es).tb (H1.length + 1) = some (E.ρ id) := by show (if H1.length + 1 = H1.length + 1 then _ else _) = _; rw [if_pos rfl]
  have hκ : ∀ b, b ≠ E.ρ id → (E.grw H1 ib id k cp sz es).κ b = E.κ b := fun b hb => by simp only [Env.grw, if_neg hb]
  have hout : ∀ i o, ¬ i < H1.length → (E.grw H1 ib id k cp sz es).H[i]? = some o → (i = H1.length ∧ o = .row [.slice (es.take k) (.tok (H1.length + 1))]) ∨ (i = H1.length + 1 ∧ o = .buf k sz) := by
    intro i o hi h
    have : (E.grw H1 ib id k cp sz es).H[i]? = ([.row [.slice (es.take k) (.tok (H1.length + 1))], .buf k sz] : Heap)[i - H1.length]? := by
      show (H1 ++ _)[i]? = _
      rw [List.getElem?_append_right (by omega)]
    rw [this] at h
    match hd : i - H1.length, h with
    | 0, h => cases h; exact .inl ⟨by omega, rfl⟩
    | 1, h => cases h; exact .inr ⟨by omega, rfl⟩
    | j + 2, h => cases h
  obtain ⟨arrI, elemI, i1, i2, i3, i4⟩ := ho.rows id _ hrow
  obtain ⟨arrB, elemB, b1, b2, b3, b4⟩ := ho.rows ib _ hbox
  have hbi : E.ρ ib ≠ E.ρ id := fun e => hne (ho.injr ib id _ _ hbox hrow e)
  refine ⟨?_, ?_, ?_, ?_, ho.globs_of (Env.grw_cell ho hrow) (by intro i b vs hi; by_cases hl : i < H1.length; exact hg hl hi; rcases hout i _ hl hi with ⟨_, e⟩ | ⟨_, e⟩ <;> cases e)⟩
  · intro i cs hi
    by_cases hl : i < H1.length
    · have hi1 : H1[i]? = some (.row cs) := by rw [← cut_get hE hl]; exact hg hl hi
      obtain ⟨arr, elem, h1, h2, h3, h4⟩ := ho.rows i cs (hg hl hi)
      have hm : AObj.row cs ∈ H1 := List.mem_of_getElem? hi1
      have hni : E.ρ i ≠ E.ρ id := fun e => by have := ho.injr i id _ _ (hg hl hi) hrow e; omega
      rw [hρ i hl]
      exact ⟨arr, elem, h1, h2, fun j hj => Env.grw_rel ho hE hrow (h3 j hj) (hb1 _ hm _ (List.getElem_mem hj)), by rw [hκ _ hni]; exact h4⟩
    · rcases hout i _ hl hi with ⟨rfl, e⟩ | ⟨_, e⟩
      · cases e
        rw [hρ0]
        refine ⟨arrB, elemB, b1, by simpa using b2, fun j hj => ?_, by rw [hκ _ hbi]; exact b4⟩
        have hj0 : j = 0 := by simp at hj; omega
        subst hj0
        exact Env.grw_msl ho hE hrow hk hcp hes hb (b3 0 (by simp))
      · cases e
  · intro i n s b hi hb'
    by_cases hl : i < H1.length
    · rw [htb i hl] at hb'
      obtain ⟨arr, elem, pos, h1, h2⟩ := ho.bufs i n s b (hg hl hi) hb'
      have hni : b ≠ E.ρ id := by rintro e; rw [e, i4] at h2; cases h2
      exact ⟨arr, elem, pos, h1, by rw [hκ _ hni]; exact h2⟩
    · rcases hout i _ hl hi with ⟨_, e⟩ | ⟨rfl, e⟩
      · cases e
      · cases e
        rw [htb1] at hb'
        cases hb'
        refine ⟨arrI, elemI, k * sz, i1, ?_⟩
        rw [i2, flatE_length es hes, hcp]
        simp only [Env.grw, if_pos]
  · intro i i' cs cs' h1 h2 e
    by_cases hl : i < H1.length
    · by_cases hl' : i' < H1.length
      · rw [hρ i hl, hρ i' hl'] at e
        exact ho.injr i i' cs cs' (hg hl h1) (hg hl' h2) e
      · rcases hout i' _ hl' h2 with ⟨rfl, _⟩ | ⟨_, e'⟩
        · rw [hρ i hl, hρ0] at e
          have := ho.injr i ib _ _ (hg hl h1) hbox e
          omega
        · cases e'
    · rcases hout i _ hl h1 with ⟨rfl, _⟩ | ⟨_, e'⟩
      · by_cases hl' : i' < H1.length
        · rw [hρ i' hl', hρ0] at e
          have := ho.injr ib i' _ _ hbox (hg hl' h2) e
          omega
        · rcases hout i' _ hl' h2 with ⟨rfl, _⟩ | ⟨_, e'⟩
          · rfl
          · cases e'
      · cases e'
  · intro i i' n s n' s' b h1 h2 e e'
    by_cases hl : i < H1.length
    · by_cases hl' : i' < H1.length
      · rw [htb i hl] at e
        rw [htb i' hl'] at e'
        exact ho.injb i i' n s n' s' b (hg hl h1) (hg hl' h2) e e'
      · rcases hout i' _ hl' h2 with ⟨_, q⟩ | ⟨rfl, _⟩
        · cases q
        · rw [htb i hl] at e
          rw [htb1] at e'
          cases e'
          obtain ⟨_, _, _, _, h6⟩ := ho.bufs i n s _ (hg hl h1) e
          rw [i4] at h6; cases h6
    · rcases hout i _ hl h1 with ⟨_, q⟩ | ⟨rfl, _⟩
      · cases q
      · rw [htb1] at e
        cases e
        by_cases hl' : i' < H1.length
        · rw [htb i' hl'] at e'
          obtain ⟨_, _, _, _, h6⟩ := ho.bufs i' n' s' _ (hg hl' h2) e'
          rw [i4] at h6; cases h6
        · rcases hout i' _ hl' h2 with ⟨_, q⟩ | ⟨rfl, _⟩
          · cases q
          · rfl
end

section
variable {P : Program} {N nb : Nat} {Q : Post}
/-- The slots that are kept: the box under its new name, and what lies below. -/
def GrwL (T : Slots) (ib n : Nat) : List (Nat × PV) → Prop
  | [] => True
  | (d, v) :: l => ((T d = v ∧ Bel n v) ∨ (T d = .optr ib 0 ∧ v = .optr n 0)) ∧ GrwL T ib n l

theorem awp_grw {c : Code} {T : Slots} {H : Heap} (l : List (Nat × PV)) {H1 L : Heap} (ib id k cp sz : Nat) (es : List PV) (hl : GrwL T ib H1.length l) (hH : H = H1 ++ L) (hn : nb ≤ H1.length) (hb1 : HBel H1.length H1)
    (hib : H1.length ≤ ib) (hid : H1.length ≤ id) (hne : ib ≠ id) (hbox : H[ib]? = some (.row [.msl id 0 k cp])) (hrow : H[id]? = some (.row (flatE es))) (hk : k ≤ es.length) (hcp : es.length = cp)
    (hes : ∀ e ∈ es, e.cells.length = sz) (hb : ∀ e ∈ es, ∀ x ∈ e.cells, Bel H1.length x)
    (h : AWP P N nb c Q (mkS l) (H1 ++ [.row [.slice (es.take k) (.tok (H1.length + 1))], .buf k sz])) : AWP P N nb c Q T H := by
  intro E a ho hE ht
  have hE' : E.H = H1 ++ L := hE.trans hH
  rw [← hE] at hbox hrow
  have hbx : ∀ {v : Value}, VRel E.view v (.optr ib 0) → VRel (E.grw H1 ib id k cp sz es).view v (.optr H1.length 0) := by
    intro v hv
    cases hv with
    | optr _ _ h =>
      have e : (E.grw H1 ib id k cp sz es).view.rho H1.length = E.view.rho ib := by show (if H1.length = H1.length then _ else _) = _; rw [if_pos rfl]; rfl
      rw [← e]
      refine .optr _ _ ⟨.row [.slice (es.take k) (.tok (H1.length + 1))], ?_, by simp⟩
      show (H1 ++ _)[H1.length]? = _
      rw [List.getElem?_append_right (Nat.le_refl _), Nat.sub_self]; rfl
  refine wp_mono (h (E.grw H1 ib id k cp sz es) a (ho.grw hE' hib hid hne hbox hrow hk hcp hes hb hb1) rfl ⟨ht.size, ht.defers, ?_⟩) fun e a w hl => lift_mono (Env.grw_leN ho hE' hbox hrow hn) (fun _ _ _ q => q) hl
  intro i hi
  have hT := ht.rel i hi
  clear h hi
  induction l with
  | nil => exact .junk _
  | cons x l ih =>
    obtain ⟨d, v⟩ := x
    simp only [mkS, upd]
    split
    · rename_i e
      subst e
      rcases hl.1 with ⟨h1, h2⟩ | ⟨h1, rfl⟩
      · rw [← h1] at h2 ⊢; exact Env.grw_rel ho hE' hrow hT h2
      · rw [h1] at hT; exact hbx hT
    · exact ih hl.2
end
end Go.Abs
namespace Go.Abs
/-! Loads of a struct from a box that keep what is known of its slices' room. -/
theorem sound_loadK {P : Program} {E : Env} {N : Nat} {a : Act} {T : Nat → PV} (ho : E.Ok) (ht : TRel E.view N a T) {t : TypeId} {x : Operand} (hx : okOpnd N x = true) {i : TI} (hi : tinfo P t = some i) (hagg : i.agg = true)
    {id off : Nat} {cs : List PV} (hT : aev T x = .optr id off) (hcs : E.H[id]? = some (.row cs)) (hl : off + i.sz ≤ cs.length) :
    ∃ val, (Instr.loadAt t (a.eval x)).run P E.w = .ok val E.w ∧ VRel E.view val (.agg ((cs.drop off).take i.sz)) := by
  have hr := vrel_eval ht x hx
  rw [hT] at hr
  obtain ⟨hv, hb⟩ := hr.optr_inv
  rw [hv]
  have hc : Cells E ⟨E.ρ id, off, none⟩ (cs.drop off) := .row hcs
  obtain ⟨h1, h2⟩ := hc.loadVar (P := P) ho hi
  obtain ⟨arr, e1, e2⟩ := h1 hagg (by simp; omega)
  exact ⟨_, by simpa [Instr.loadAt, Instr.sureAddr, Env.view] using e1, e2⟩
theorem sound_fill1 {P : Program} {E : Env} {N : Nat} {a : Act} {T : Nat → PV} (ht : TRel E.view N a T) (fl : List (Nat × TI)) (f : Nat) (x : Operand) (arr : Array Value) (cs : List PV) (h : RL E.view arr cs) (hok : okOpnd N x = true) {off : Nat} {i : TI} (hf : fl[f]? = some (off, i))
    (hc1 : (aev T x).isJunk = false) (hc2 : (aev T x).cells.length = i.sz) (hc3 : off + i.sz ≤ cs.length) :
    ∃ arr', Instr.fill ((fl.map fun x => (x.1, x.2.sz)).toArray[·]?) arr [(f, a.eval x)] = some arr' ∧ RL E.view arr' (splice cs off (aev T x).cells) := by
  have hr := vrel_eval ht x hok
  obtain ⟨c1, c2⟩ := hr.not_junk_cells hc1
  have h' := foldl_splice (V := E.view) (a.eval x).cells.toList (aev T x).cells off 0 arr cs h (by simp [c1]) (fun j hj => by
    have := c2 j (by simpa using hj)
    rw [Array.getD_eq_getD_getElem?] at this
    rw [List.getD_eq_getElem?_getD, Array.getElem?_toList]
    exact this)
  rw [Nat.add_zero] at h'
  refine ⟨_, ?_, h'⟩
  simp only [Instr.fill]
  simp only [List.getElem?_toArray, List.getElem?_map, hf, Option.map_some]
  rw [if_neg]
  · congr 1
    rw [← Array.foldl_toList, Array.toList_zipIdx]
  · have c3 : (a.eval x).cells.size = i.sz := c1.trans hc2
    have c4 := h.1
    rw [c3, c4]; simp; omega
theorem sound_buildK {P : Program} {E : Env} {N : Nat} {a : Act} {T : Nat → PV} (ht : TRel E.view N a T) {t : TypeId} {f : Nat} {x : Operand} (hok : okOpnd N x = true) {fl : List (Nat × TI)} (hfl : tflds P t = some fl) {z : PV} (hz : tzero P t = some z) (hj : z.isJunk = false) {off : Nat} {i : TI} (hf : fl[f]? = some (off, i))
    (hc1 : (aev T x).isJunk = false) (hc2 : (aev T x).cells.length = i.sz) (hc3 : off + i.sz ≤ z.cells.length) :
    ∃ val, (Instr.build t #[(f, a.eval x)]).run P E.w = .ok val E.w ∧ VRel E.view val (.agg (splice z.cells off (aev T x).cells)) := by
  obtain ⟨fs, h1, h2⟩ := tflds_some hfl
  obtain ⟨f', v, h3, h4, rfl⟩ := tzero_some hz
  have hr := run_places (P := P) (w := E.w) fs.toList fl h2
  obtain ⟨c1, c2⟩ := (vrel_ofConst E.view v).not_junk_cells hj
  obtain ⟨arr', e1, e2⟩ := sound_fill1 (P := P) ht fl f x v.cells (ofConst v).cells ⟨c1, c2⟩ hok hf hc1 hc2 hc3
  refine ⟨.agg arr', ?_, .agg _ _ e2.1 e2.2⟩
  simp only [Instr.build, Sem.run_bind, run_zero h3 h4, Result.andThen_ok, run_under h1, Array.mapM_eq_mapM_toList, Sem.run_map, hr]
  simp only [e1, Sem.run_pure]
section
variable {P : Program} {N nb : Nat} {ops : Array Oper} {Q : Post}
theorem aops_buildK {o : Oper} {l : List Oper} {T : Slots} {H : Heap} {x : Operand} {t : TypeId} {f : Nat} {fl : List (Nat × TI)} {z v : PV} {off : Nat} {i : TI} (hop : o.op = .build t #[(f, x)]) (hok : okOpnd N x = true) (hfl : tflds P t = some fl) (hz : tzero P t = some z) (hj : z.isJunk = false) (hf : fl[f]? = some (off, i))
    (hc1 : (aev T x).isJunk = false) (hc2 : (aev T x).cells.length = i.sz) (hc3 : off + i.sz ≤ z.cells.length) (hv : .agg (splice z.cells off (aev T x).cells) = v) (hw : awanted ops.toList T N o = some true) (h : AOps P N nb ops Q l (updO T o.dst v) H) : AOps P N nb ops Q (o :: l) T H := by
  subst hv
  refine aops_done hw (fun E a ho hH ht => ?_) h
  subst hH
  obtain ⟨val, h1, h2⟩ := sound_buildK (P := P) ht hok hfl hz hj hf hc1 hc2 hc3
  refine ⟨E, val, .inl ?_, .refl E, ho, rfl, h2⟩
  unfold execOp
  rw [hop]
  simp only [List.map_toArray, List.map_cons, List.map_nil, Sem.run_bind, h1, Result.andThen_ok, Sem.run_pure]
end
section
variable {P : Program} {N nb : Nat} {ops : Array Oper} {Q : Post}
theorem aops_loadK {o : Oper} {l : List Oper} {T : Slots} {H : Heap} {x : Operand} {t : TypeId} {i : TI} {id off : Nat} {cs : List PV} (hop : o.op = .load t x) (hx : aev T x = .optr id off) (hcs : H[id]? = some (.row cs)) (hi : tinfo P t = some i) (hagg : i.agg = true)
    (hl : off + i.sz ≤ cs.length) (hw : awanted ops.toList T N o = some true) (hok : okOpnd N x = true) (h : AOps P N nb ops Q l (updO T o.dst (.agg ((cs.drop off).take i.sz))) H) : AOps P N nb ops Q (o :: l) T H := by
  refine aops_done hw (fun E a ho hH ht => ?_) h
  subst hH
  obtain ⟨val, h1, h2⟩ := sound_loadK (P := P) ho ht hok hi hagg hx hcs hl
  refine ⟨E, val, .inl ?_, .refl E, ho, rfl, h2⟩
  unfold execOp
  rw [hop]
  simp only [Sem.run_bind, h1, Result.andThen_ok, Sem.run_pure]
theorem acalls_ofK {f : FuncId} {fn : Func} {c : Code} {args : List PV} {R : PV → Heap → Prop} {H : Heap} {x : Nat} {t : TypeId} {i : TI} (hf : P.funcs[f]? = some fn) (hb : fn.body = some c) (hN : fn.ntmps = N) (hl : args.length ≤ N) (hrs : fn.results.toList = [.cell x t]) (hxN : x < N) (hi : tinfo P t = some i) (hagg : i.agg = true)
    (h : HBel H.length H → AWP P N H.length c (fun e T H => (e = .normal ∨ e = .ret) ∧ ∃ id off cs, T x = .optr id off ∧ H[id]? = some (.row cs) ∧ off + i.sz ≤ cs.length ∧ R (.agg ((cs.drop off).take i.sz)) H) (enter args) H) : ACalls P f args H R := by
  intro E vargs ho hH hrl
  refine calls_of_wp hf hb (wp_mono (h (by have := ho.hbel; rw [hH] at this; exact this) E _ ho hH ⟨by simp [hrl.1, hN]; omega, rfl, fun i hi => ?_⟩) ?_)
  · rw [Array.getD_eq_getD_getElem?, Array.getElem?_append]
    unfold enter
    by_cases hia : i < args.length
    · rw [if_pos (by rw [hrl.1]; exact hia), ← Array.getD_eq_getD_getElem?, List.getD_eq_getElem?_getD, List.getElem?_eq_getElem hia]
      exact hrl.2 i hia
    · rw [List.getD_eq_getElem?_getD, List.getElem?_eq_none (by omega)]
      exact .junk _
  · rintro e a w ⟨E', T', rfl, h2, h3, h4, he, id, off, cs, hT, hcs, hlen, hR⟩
    obtain ⟨val, h5, h6⟩ : ∃ val, (results fn a.tmps).run P E'.w = .ok val E'.w ∧ VRel E'.view val (.agg ((cs.drop off).take i.sz)) := by
      obtain ⟨val, k1, k2⟩ := sound_loadK (P := P) h3 h4 (x := .tmp x) (by simpa [okOpnd] using hxN) hi hagg (by simpa [aev] using hT) hcs hlen
      refine ⟨val, ?_, k2⟩
      have hr := h4.rel x hxN
      rw [hT] at hr
      have hp := hr.optr_inv.1
      simp only [Act.eval, Instr.loadAt, hp, Instr.sureAddr, Sem.run_bind, Sem.run_pure, Result.andThen_ok] at k1
      rw [results_eq, Array.mapM_eq_mapM_toList, hrs]
      simp only [List.mapM_cons, List.mapM_nil, resF, hp, asAddr, Sem.run_bind, Sem.run_map, k1, Sem.run_pure, Result.andThen_ok]
      rfl
    rcases he with rfl | rfl
    · exact ⟨h4.defers, val, h5, E', val, _, rfl, rfl, (hH ▸ h2 : E.leN E.H.length E').le, h3, h6, hR⟩
    · exact ⟨h4.defers, val, h5, E', val, _, rfl, rfl, (hH ▸ h2 : E.leN E.H.length E').le, h3, h6, hR⟩
end
end Go.Abs
namespace Go.Abs
open Go.RowKit
/-! Calls of the library whose contracts say that the old blocks stay as they are. -/
section
variable {P : Program} {f : FuncId} {args : List PV} {H : Heap} {r : PV}
theorem below_cell {w w' : World} (h : Below w.heap.size w w') (a : Addr) (v : Value) (hc : w.cell? a = some v) : w'.cell? a = some v := by
  have hlt : a.block < w.heap.size := by
    rcases Nat.lt_or_ge a.block w.heap.size with q | q
    · exact q
    · unfold World.cell? at hc
      rw [Array.getElem?_eq_none q] at hc
      simp at hc
  unfold World.cell? at hc ⊢
  rw [h.block _ hlt]; exact hc
theorem acalls_below (h : ∀ (E : Env) (vargs : Array Value), E.Ok → E.H = H → RL E.view vargs args → ∃ v, VRel E.view v r ∧ Calls P f vargs E.w fun e w' => e = .returned v ∧ Below E.w.heap.size E.w w') : ACalls P f args H fun r' H' => r' = r ∧ H' = H := by
  intro E vargs ho hH hrl
  obtain ⟨v, hv, hc⟩ := h E vargs ho hH hrl
  refine hc.mono fun e w' ⟨he, hb⟩ => ?_
  let E' : Env := { E with w := w' }
  have hview : E.view.le E'.view := by
    refine ⟨fun a v hc => ?_, fun id h => h, fun id _ => rfl, fun id t' _ ht => ⟨t', ht, .inl rfl⟩⟩
    simp only [Env.view, E'] at hc ⊢
    split at hc
    · rename_i hs
      rw [if_pos hs]; exact below_cell hb _ _ hc
    · cases hc
  refine ⟨E', v, r, he, rfl, ⟨hb.os, hb.tape, hb.output, hb.size, fun b hlt _ _ => ⟨rfl, hb.block b hlt⟩, hview, fun b _ => id⟩, ?_, hv.mono hview, rfl, hH⟩
  refine ⟨?_, ?_, ho.injr, ho.injb, ho.globs_of hview.cell fun _ _ _ h => h⟩
  · intro id cs hi
    obtain ⟨arr, elem, h1, h2, h3, h4⟩ := ho.rows id cs hi
    exact ⟨arr, elem, (hb.block _ (ho.rowBlock hi)).trans h1, h2, fun i hl => (h3 i hl).mono hview, h4⟩
  · intro id n sz b hi hb'
    obtain ⟨arr, elem, pos, h1, h2⟩ := ho.bufs id n sz b hi hb'
    exact ⟨arr, elem, pos, (hb.block _ (ho.bufBlock hi hb')).trans h1, h2⟩
/-- strings.Join at a slice that a call has grown. -/
theorem acalls_join (hnone : ∀ (a : Option Addr) (c : Nat) (sep : ByteArray) (w : World), Calls P f #[.slice a 0 c, .string sep] w fun e w' => e = .returned (.string ⟨#[]⟩) ∧ w' = w)
    (hjoin : ∀ (bk o c : Nat) (xs : List ByteArray) (sep : ByteArray) (w : World), (∀ (j : Nat) x, xs[j]? = some x → w.cell? ⟨bk, o + j, none⟩ = some (.string x)) → bk < w.heap.size → xs.length ≤ 140737488355328 → xs.length ≤ c → (Lib.join (xs.map (·.data.toList)) sep.data.toList).length ≤ 140737488355328 →
      Calls P f #[.slice (some ⟨bk, o, none⟩) xs.length c, .string sep] w fun e w' => e = .returned (.string ⟨(Lib.join (xs.map (·.data.toList)) sep.data.toList).toArray⟩) ∧ Below w.heap.size w w')
    {xs : List (List UInt8)} {sep : List UInt8} {id sz : Nat} (hid : H[id]? = some (.buf xs.length sz)) (hN : xs.length ≤ 140737488355328) (hlen : (Lib.join xs sep).length ≤ 140737488355328) :
    ACalls P f [.slice (xs.map PV.str) (.tok id), .str sep] H fun r' H' => r' = .str (Lib.join xs sep) ∧ H' = H := by
  refine acalls_below fun E vargs ho hH hrl => ?_
  obtain ⟨hsz, hr⟩ := hrl
  have h0 := hr 0 (by simp)
  have h1 := hr 1 (by simp)
  simp only [List.getElem_cons_zero, List.getElem_cons_succ] at h0 h1
  obtain ⟨v0, v1, rfl⟩ : ∃ v0 v1, vargs = #[v0, v1] := by
    have : vargs.size = 2 := by simpa using hsz
    exact ⟨vargs[0], vargs[1], by apply Array.ext <;> simp [this]; intro i hi hi2; match i, hi2 with | 0, _ => rfl | 1, _ => rfl⟩
  simp only [Array.getD_eq_getD_getElem?, List.getElem?_toArray, List.getElem?_cons_zero, List.getElem?_cons_succ, Option.getD_some] at h0 h1
  cases h1 with
  | str s =>
  by_cases hxs : xs = []
  · subst hxs
    obtain ⟨a, c, rfl⟩ : ∃ a c, v0 = .slice a 0 c := by
      cases h0 with
      | nils _ _ => exact ⟨_, _, rfl⟩
      | slice a len cap sz _ _ vs hl => simp at hl; subst hl; exact ⟨_, _, rfl⟩
    exact ⟨.string ⟨#[]⟩, VRel.str ⟨#[]⟩, (hnone a c s E.w).mono fun e w' ⟨h1, h2⟩ => ⟨h1, h2 ▸ Below.refl _ _⟩⟩
  · generalize hes : xs.map PV.str = es at h0
    cases h0 with
    | nils _ _ => exact absurd (by simpa using hes) hxs
    | slice a len cap sz2 _ _ vs hl hcap hmax hsz2 hc hr2 ht =>
      subst hes
      rw [List.length_map] at hl
      subst hl
      have hpos : 0 < xs.length := List.length_pos_iff.2 hxs
      have hsz1 : sz2 = 1 := by
        have := hsz2 0 (by simpa using hpos)
        simp only [List.getElem_map] at this
        exact this.symm
      subst hsz1
      obtain ⟨hborn, ht⟩ := ht
      have htok : E.view.tok id = some ⟨xs.length, sz, (E.tb id).bind fun b => match E.κ b with | .buf pos cend => some (b, pos, cend) | _ => none⟩ := by
        simp only [Env.view, hH, hid]
        rfl
      obtain ⟨_, ht⟩ := ht _ htok
      obtain ⟨bk, o, rfl⟩ : ∃ bk o, a = ⟨bk, o, none⟩ := by
        rcases ht rfl with ⟨_, h⟩ | ⟨b, pos, cend, off, _, h, _⟩
        · obtain ⟨b, off, h⟩ := h hpos
          exact ⟨b, off, by cases h; rfl⟩
        · exact ⟨b, off, by cases h; rfl⟩
      let ys : List ByteArray := xs.map fun l => ⟨l.toArray⟩
      have hyx : ys.map (·.data.toList) = xs := by simp [ys, Function.comp_def]
      have hylen : ys.length = xs.length := by simp [ys]
      have hadd : ∀ n, (⟨bk, o, none⟩ : Addr).add n = ⟨bk, o + n, none⟩ := by
        intro n; unfold Addr.add; split
        · rename_i e; subst e; rfl
        · rfl
      have hcell : ∀ j (hj : j < xs.length), E.w.cell? ⟨bk, o + j, none⟩ = some (.string ⟨xs[j].toArray⟩) := by
        intro j hj
        have h1 := hc j 0 hj (by omega)
        have h2 := hr2 j 0 (by simpa using hj) (by simp [PV.cells])
        simp only [List.getElem_map] at h2
        have h2 : VRel E.view (vs j 0) (.str xs[j]) := h2
        rw [hadd, Nat.mul_one, Nat.add_zero] at h1
        obtain ⟨s', hs'⟩ : ∃ s' : ByteArray, vs j 0 = .string s' ∧ s'.data.toList = xs[j] := by
          generalize vs j 0 = q at h2
          generalize hxj : xs[j] = l at h2
          cases h2 with
          | str s' => exact ⟨s', rfl, rfl⟩
        rw [hs'.1] at h1
        rw [← hs'.2]
        simp only [Env.view] at h1
        split at h1
        · rw [h1]
        · cases h1
      have hbk : bk < E.w.heap.size := by
        have := hcell 0 hpos
        rcases Nat.lt_or_ge bk E.w.heap.size with q | q
        · exact q
        · unfold World.cell? at this
          rw [Array.getElem?_eq_none q] at this
          simp at this
      have key := hjoin bk o cap ys s E.w (fun j x hx => by
        have hj : j < xs.length := by
          rcases Nat.lt_or_ge j ys.length with q | q
          · omega
          · rw [List.getElem?_eq_none q] at hx; cases hx
        rw [hcell j hj]
        rw [List.getElem?_eq_getElem (by omega)] at hx
        simp only [ys, List.getElem_map, Option.some.injEq] at hx
        rw [hx]) hbk (by omega) (by omega) (by rw [hyx]; exact hlen)
      rw [hyx, hylen] at key
      exact ⟨_, VRel.str ⟨(Lib.join xs s.data.toList).toArray⟩, key⟩
end
end Go.Abs
namespace Go.Abs
open Go.RowKit
/-! Constants of the program: blocks that stay as they are, told by objects at the heap's start. -/
def Pre (G H : Heap) : Prop := ∀ (k : Nat) (o : AObj), G[k]? = some o → H[k]? = some o
theorem Pre.refl (G : Heap) : Pre G G := fun _ _ h => h
theorem Pre.app {G H : Heap} (h : Pre G H) (L : Heap) : Pre G (H ++ L) := fun k o hk => by
  have := h k o hk
  rw [List.getElem?_append_left (len_of_get this)]; exact this
/-- A call that leaves every heap that begins so as it is. -/
def PG (G : Heap) (P : Program) (f : FuncId) (args : List PV) (r : PV) : Prop := ∀ H, Pre G H → ACalls P f args H fun r' H' => r' = r ∧ H' = H
theorem PC.pg {G : Heap} {P : Program} {f : FuncId} {args : List PV} {r : PV} (h : PC P f args r) : PG G P f args r := fun H _ => h H
section
variable {P : Program} {N : Nat}
theorem pg_of {G : Heap} {f : FuncId} {fn : Func} {c : Code} {args : List PV} {r : PV} (hf : P.funcs[f]? = some fn) (hb : fn.body = some c) (hN : fn.ntmps = N) (hl : args.length ≤ N) (hr : Bel 0 r)
    (h : ∀ H, Pre G H → HBel H.length H → AWP P N H.length c (fun e T H' => (e = .normal ∨ e = .ret) ∧ ∃ r' L, aresults P N T H' fn.results.toList = some r' ∧ r'.drop1 = r ∧ H' = H ++ L) (enter args) H) : PG G P f args r :=
  fun H hG => keeps_of hf hb hN hl (hr.mono (Nat.zero_le _)) fun hb' => h H hG hb'
/-- What a constant's object tells of the world. -/
theorem glob_cell {E : Env} (ho : E.Ok) {id b : Nat} {vs : List Value} (hid : E.H[id]? = some (.glob b vs)) {i : Nat} (h : i < vs.length) : E.w.cell? ⟨b, i, none⟩ = some vs[i] := by
  have := ho.globs id b vs hid i h
  simp only [Env.view] at this
  split at this
  · exact this
  · cases this
end
end Go.Abs
namespace Go.Abs
/-! Comparison of structs of an integer and a string. -/
structure ISAt (P : Program) (t : TypeId) where
  f0 : Field
  f1 : Field
  ut : P.underlying t = some (.struct #[f0, f1])
  held : P.stoodInHeld t = false
  n0 : f0.name ≠ "_"
  n1 : f1.name ≠ "_"
  o0 : f0.offset = 0
  o1 : f1.offset = 1
  u0 : P.underlying f0.type = some (.int .i64)
  u1 : P.underlying f1.type = some .string
  a0 : ∀ w, (isAgg f0.type).run P w = .ok false w
  a1 : ∀ w, (isAgg f1.type).run P w = .ok false w
  gu : P.eqGuardType P.depth t = false
theorem run_eqIS {P : Program} {t : TypeId} (F : ISAt P t) (w : World) (a b : Int) (s s' : ByteArray) :
    (Op.equal t (.agg #[.int .i64 a, .string s]) (.agg #[.int .i64 b, .string s'])).run P w = .ok ((a == b) && (s.toList == s'.toList)) w := by
  have hf : P.fieldsOf t = #[F.f0, F.f1] := by unfold Program.fieldsOf; rw [F.ut]
  have p0 : ∀ (x : Value) (y : Value) w, (part F.f0.type #[x, y] F.f0.offset).run P w = .ok x w := fun x y w => by
    simp only [part, Sem.run_bind, F.a0, Result.andThen_ok, F.o0]; rfl
  have p1 : ∀ (x : Value) (y : Value) w, (part F.f1.type #[x, y] F.f1.offset).run P w = .ok y w := fun x y w => by
    simp only [part, Sem.run_bind, F.a1, Result.andThen_ok, F.o1]; rfl
  show (Op.equalIn (9999 + 1) t _ _).run P w = _
  rw [run_equalIn_struct w 9999 t _ _ (by rw [hf]; exact F.ut) F.held, hf]
  show (Op.eqFields 9999 _ _ [F.f0, F.f1]).run P w = _
  simp only [Op.eqFields, if_pos F.n0, if_pos F.n1, Sem.run_bind, p0, p1, Result.andThen_ok, run_equalIn_int w 9998 _ _ _ _ _ F.u0, run_equalIn_string w 9998 _ _ _ F.u1, Sem.run_ite, Sem.run_pure]
  cases h1 : (a == b) <;> cases h2 : (s.toList == s'.toList) <;> simp
theorem guard_is {P : Program} {t : TypeId} (F : ISAt P t) {w : World} (op : BinOp) (x y : Operand) (u v : Array Value) : (eqGuard op t x y (.agg u) (.agg v)).run P w = .ok () w := by
  unfold eqGuard
  simp only [Sem.run_bind, run_program, Result.andThen_ok, F.gu, Bool.not_false, if_true, Sem.run_ite, Sem.run_pure]
  split <;> rfl
theorem aops_neqIS {P : Program} {N nb : Nat} {ops : Array Oper} {Q : Post} {o : Oper} {l : List Oper} {T : Slots} {H : Heap} {t y' : TypeId} {x y : Operand} {a b : Int} {s s' : List UInt8} (F : ISAt P t)
    (hop : o.op = .binOp .neq t x y y') (hx : aev T x = .agg [.int .i64 a, .str s]) (hy : aev T y = .agg [.int .i64 b, .str s']) (hw : awanted ops.toList T N o = some true) (okx : okOpnd N x = true) (oky : okOpnd N y = true)
    (h : AOps P N nb ops Q l (updO T o.dst (.bool (!(decide (a = b) && decide (s = s'))))) H) : AOps P N nb ops Q (o :: l) T H := by
  refine aops_done hw (fun E A ho hH ht => ?_) h
  have rx := vrel_eval ht x okx
  have ry := vrel_eval ht y oky
  rw [hx] at rx; rw [hy] at ry
  have inv : ∀ {v : Value} {n : Int} {q : List UInt8}, VRel E.view v (.agg [.int .i64 n, .str q]) → ∃ z : ByteArray, v = .agg #[.int .i64 n, .string z] ∧ z.data.toList = q := by
    intro v n q hv
    cases hv with
    | agg arr _ hl hr =>
      have h0 := hr 0 (by simp)
      have h1 := hr 1 (by simp)
      simp only [List.getElem_cons_zero, List.getElem_cons_succ] at h0 h1
      have hs : arr.size = 2 := by simpa using hl
      rw [Array.getD_eq_getD_getElem?, Array.getElem?_eq_getElem (by omega)] at h0 h1
      simp only [Option.getD_some] at h0 h1
      generalize hg0 : arr[0] = g0 at h0
      generalize hg1 : arr[1] = g1 at h1
      cases h0 with
      | int =>
        cases h1 with
        | str z =>
          refine ⟨z, ?_, rfl⟩
          congr 1
          apply Array.ext
          · simp [hs]
          · intro i hi hi2
            match i, hi2 with
            | 0, _ => exact hg0
            | 1, _ => exact hg1
  obtain ⟨z, hvx, hz⟩ := inv rx
  obtain ⟨z', hvy, hz'⟩ := inv ry
  have hb : ((a == b) && (z.toList == z'.toList)) = (decide (a = b) && decide (s = s')) := by
    have e : ∀ (q : ByteArray), q.toList = q.data.toList := fun q => by rw [ByteArray.toList_eq]
    rw [e, e, hz, hz', Bool.eq_iff_iff]
    simp
  refine ⟨E, .bool (!(decide (a = b) && decide (s = s'))), .inl ?_, .refl E, ho, hH, .bool _⟩
  unfold execOp
  rw [hop]
  simp only [Sem.run_bind, hvx, hvy, guard_is F, Result.andThen_ok, binOp, run_eqIS F, Sem.run_pure, hb]
end Go.Abs
namespace Go.Abs
/-! A call of the library that lays one new block of strings and hands back the slice over it. -/
theorem vrel_newStrs {E : Env} (ho : E.Ok) (xs : List (List UInt8)) (t : TypeId) (hm : xs.length ≤ maxLen) :
    VRel (E.newFixed (.cells (xs.map fun l => Value.string ⟨l.toArray⟩).toArray t (0, 0))).view (.slice (some ⟨E.w.heap.size, 0, none⟩) xs.length xs.length) (.slice (xs.map PV.str) .none) := by
  have hadd : ∀ n, (⟨E.w.heap.size, 0, none⟩ : Addr).add n = ⟨E.w.heap.size, n, none⟩ := by
    intro n; unfold Addr.add; split
    · rename_i e; subst e; rfl
    · simp
  refine .slice _ _ _ 1 _ _ (fun i _ => Value.string ⟨(xs.getD i []).toArray⟩) (by simp) (Nat.le_refl _) hm ?_ ?_ ?_ trivial
  · intro i hi
    simp only [List.getElem_map]; rfl
  · intro i j hi hj
    have hj0 : j = 0 := by omega
    subst hj0
    rw [hadd, Nat.mul_one, Nat.add_zero]
    simp only [Env.view, Env.newFixed, if_pos, Kind.stable, if_true]
    unfold World.cell?
    rw [heap_alloc_new]
    simp [hi, List.getD_eq_getElem?_getD]
  · intro i j hi hj
    simp only [List.getElem_map] at hj ⊢
    have hi' : i < xs.length := by simpa using hi
    have hj0 : j = 0 := by
      have : j < 1 := hj
      omega
    subst hj0
    rw [List.getD_eq_getElem?_getD, List.getElem?_eq_getElem hi']
    exact VRel.str ⟨xs[i].toArray⟩
theorem acalls_newStrs {P : Program} {f : FuncId} {args : List PV} {H : Heap} {xs : List (List UInt8)} {t : TypeId} (hm : xs.length ≤ maxLen)
    (h : ∀ (E : Env) (vargs : Array Value), E.Ok → E.H = H → RL E.view vargs args → Calls P f vargs E.w fun e w' => e = .returned (.slice (some ⟨E.w.heap.size, 0, none⟩) xs.length xs.length) ∧ w' = E.w.alloc (.cells (xs.map fun l => Value.string ⟨l.toArray⟩).toArray t (0, 0))) :
    ACalls P f args H fun r' H' => r' = .slice (xs.map PV.str) .none ∧ H' = H := by
  intro E vargs ho hH hrl
  refine (h E vargs ho hH hrl).mono ?_
  rintro e w' ⟨rfl, rfl⟩
  exact ⟨E.newFixed _, _, _, rfl, rfl, Env.newFixed_le ho _, ho.newFixed _, vrel_newStrs ho xs t hm, rfl, hH⟩
end Go.Abs
namespace Go.Abs
def Ty.zero : Ty := .mk 0 0 []
abbrev MSt := List Ty × List Bool
/-- The arguments, one behind the other. -/
def matchL : List (Ty × (Ty → MSt → Bool × MSt)) → MSt → Bool × MSt
  | [], s => (true, s)
  | (a, f) :: r, s => if (f a s).1 then matchL r (f a s).2 else (false, (f a s).2)
/-- What the matcher does. -/
def matchT (ps : List Int) (t : Ty) : Ty → MSt → Bool × MSt
  | .mk pk pi us, s =>
    if (decide (pk = 2) && decide (idxI (fun x => decide (pi = x)) ps ≥ 0)) = true then
      if s.2.getD (idxI (fun x => decide (pi = x)) ps).toNat false = true then ((s.1.getD (idxI (fun x => decide (pi = x)) ps).toNat .zero).eqb t, s)
      else (true, s.1.set (idxI (fun x => decide (pi = x)) ps).toNat t, s.2.set (idxI (fun x => decide (pi = x)) ps).toNat true)
    else if (!decide (t.kind = pk) || !decide (t.id = pi) || !decide ((t.args.length : Int) = us.length)) = true then (false, s)
    else matchL (t.args.zip (us.map fun u => fun a s => matchT ps a u s)) s
theorem matchT_eq (ps : List Int) (t p : Ty) (s : MSt) : matchT ps t p s =
    if (decide (p.kind = 2) && decide (idxI (fun x => decide (p.id = x)) ps ≥ 0)) = true then
      if s.2.getD (idxI (fun x => decide (p.id = x)) ps).toNat false = true then ((s.1.getD (idxI (fun x => decide (p.id = x)) ps).toNat .zero).eqb t, s)
      else (true, s.1.set (idxI (fun x => decide (p.id = x)) ps).toNat t, s.2.set (idxI (fun x => decide (p.id = x)) ps).toNat true)
    else if (!decide (t.kind = p.kind) || !decide (t.id = p.id) || !decide ((t.args.length : Int) = p.args.length)) = true then (false, s)
    else matchL (t.args.zip (p.args.map fun u => fun a s => matchT ps a u s)) s := by
  cases p; rw [matchT]; rfl

/-- What the state keeps. -/
structure MOk (n : Nat) (s : MSt) : Prop where
  l1 : s.1.length = n
  l2 : s.2.length = n
  w : ∀ a ∈ s.1, a.W

theorem idxI_lt {α : Type} {p : α → Bool} {xs : List α} (h : idxI p xs ≥ 0) : idxI p xs < xs.length := by
  unfold idxI at h ⊢
  cases hq : xs.findIdx? p with
  | none => rw [hq] at h; simp at h
  | some i =>
    obtain ⟨hi, _⟩ := List.findIdx?_eq_some_iff_getElem.1 hq
    simp only; omega

theorem matchL_ok {n : Nat} : ∀ (l : List (Ty × (Ty → MSt → Bool × MSt))) (s : MSt), MOk n s → (∀ x ∈ l, ∀ s, MOk n s → MOk n (x.2 x.1 s).2) → MOk n (matchL l s).2
  | [], s, h, _ => h
  | (a, f) :: r, s, h, hl => by
    have h1 := hl _ (List.mem_cons_self ..) s h
    unfold matchL
    split
    · exact matchL_ok r _ h1 (fun x hx => hl x (List.mem_cons_of_mem _ hx))
    · exact h1

theorem matchT_ok (ps : List Int) : ∀ (p t : Ty) (s : MSt), t.W → MOk ps.length s → MOk ps.length (matchT ps t p s).2
  | .mk pk pi us, t, s, hw, h => by
    rw [matchT]
    split
    · split
      · exact h
      · rename_i hb
        refine ⟨by simp [h.l1], by simp [h.l2], fun a ha => ?_⟩
        rcases List.mem_or_eq_of_mem_set ha with h' | h'
        · exact h.w a h'
        · exact h' ▸ hw
    · split
      · exact h
      · refine matchL_ok _ _ h ?_
        rintro ⟨a, f⟩ hx s hs
        have hx1 := List.of_mem_zip hx
        obtain ⟨u, hu, rfl⟩ := List.mem_map.1 hx1.2
        exact matchT_ok ps u a s (hw.arg hx1.1) hs
end Go.Abs
namespace Go.Abs
def mH (H : Heap) (ia ib : Nat) (s : MSt) : Heap := (H.set ia (.row (flatE (s.1.map Ty.enc)))).set ib (.row (s.2.map PV.bool))
theorem mH_len (H : Heap) (ia ib : Nat) (s : MSt) : (mH H ia ib s).length = H.length := by simp [mH]
theorem mH_rules {H : Heap} {im ia ib : Nat} {R : AObj} (hia : ia < H.length) (hib : ib < H.length) (h1 : ia ≠ ib) (h2 : im ≠ ia) (h3 : im ≠ ib) (hR : H[im]? = some R) :
    (∀ s L, (mH H ia ib s ++ L)[im]? = some R) ∧ (∀ s L, (mH H ia ib s ++ L)[ia]? = some (.row (flatE (s.1.map Ty.enc)))) ∧ (∀ s L, (mH H ia ib s ++ L)[ib]? = some (.row (s.2.map PV.bool))) ∧
    (∀ s L xs, (mH H ia ib s ++ L).set ia (.row (flatE (List.map Ty.enc xs))) = mH H ia ib (xs, s.2) ++ L) ∧ (∀ s L bs, (mH H ia ib s ++ L).set ib (.row (List.map PV.bool bs)) = mH H ia ib (s.1, bs) ++ L) ∧
    (∀ s L k, (mH H ia ib s ++ L)[H.length + k]? = L[k]?) ∧ (∀ s L, (mH H ia ib s ++ L)[H.length]? = L[0]?) ∧ (∀ s L k o, (mH H ia ib s ++ L).set (H.length + k) o = mH H ia ib s ++ L.set k o) ∧ (∀ s L o, (mH H ia ib s ++ L).set H.length o = mH H ia ib s ++ L.set 0 o) ∧
    (∀ s, (mH H ia ib s).length = H.length) := by
  have hm := len_of_get hR
  have get : ∀ s L k, k < H.length → (mH H ia ib s ++ L)[k]? = (mH H ia ib s)[k]? := fun s L k hk => List.getElem?_append_left (by rw [mH_len]; exact hk)
  refine ⟨fun s L => ?_, fun s L => ?_, fun s L => ?_, fun s L xs => ?_, fun s L bs => ?_, fun s L k => ?_, fun s L => ?_, fun s L k o => ?_, fun s L o => ?_, fun s => mH_len ..⟩
  · rw [get _ _ _ hm]; simp only [mH]; rw [List.getElem?_set_ne (Ne.symm h3), List.getElem?_set_ne (Ne.symm h2)]; exact hR
  · rw [get _ _ _ hia]; simp only [mH]; rw [List.getElem?_set_ne (Ne.symm h1), List.getElem?_set_self hia]
  · rw [get _ _ _ hib]; simp only [mH]; rw [List.getElem?_set_self (by simpa using hib)]
  · rw [List.set_append_left _ _ (by rw [mH_len]; exact hia)]; simp only [mH]; rw [List.set_comm _ _ (Ne.symm h1), List.set_set]
  · rw [List.set_append_left _ _ (by rw [mH_len]; exact hib)]; simp only [mH]; rw [List.set_set]
  · have := get_app (mH H ia ib s) L k; rwa [mH_len] at this
  · have := get_app0 (mH H ia ib s) L; rwa [mH_len] at this
  · have := set_app (mH H ia ib s) L k o; rwa [mH_len] at this
  · have := set_app0 (mH H ia ib s) L o; rwa [mH_len] at this
theorem mH_self {H : Heap} {ia ib : Nat} {s : MSt} (h1 : H[ia]? = some (.row (flatE (s.1.map Ty.enc)))) (h2 : H[ib]? = some (.row (s.2.map PV.bool))) : mH H ia ib s = H := by
  unfold mH; rw [list_set_self h1, list_set_self h2]
theorem mH_bel {H : Heap} {ia ib : Nat} {s s' : MSt} (hb : HBel H.length (mH H ia ib s)) (hia : ia < H.length) (hib : ib < H.length) (h1 : ia ≠ ib) : HBel H.length (mH H ia ib s') := by
  intro o ho
  obtain ⟨k, hk⟩ := List.mem_iff_getElem?.1 ho
  simp only [mH] at hk
  by_cases e1 : k = ib
  · subst e1
    rw [List.getElem?_set_self (by simpa using hib)] at hk
    cases hk
    intro c hc
    obtain ⟨b, _, rfl⟩ := List.mem_map.1 hc
    exact .bool _
  · rw [List.getElem?_set_ne (Ne.symm e1)] at hk
    by_cases e2 : k = ia
    · subst e2
      rw [List.getElem?_set_self hia] at hk
      cases hk
      intro c hc
      obtain ⟨l, hl, hc⟩ := List.mem_flatten.1 hc
      obtain ⟨e, he, rfl⟩ := List.mem_map.1 hl
      obtain ⟨t, _, rfl⟩ := List.mem_map.1 he
      rw [Ty.enc_cells] at hc
      simp at hc
      rcases hc with rfl | rfl | rfl
      · exact .int _ _
      · exact .int _ _
      · exact bel_slice_ty _ _
    · rw [List.getElem?_set_ne (Ne.symm e2)] at hk
      refine hb o (List.mem_iff_getElem?.2 ⟨k, ?_⟩)
      simp only [mH]
      rw [List.getElem?_set_ne (Ne.symm e1), List.getElem?_set_ne (Ne.symm e2)]; exact hk
end Go.Abs
namespace Go.Abs
theorem Ty.W_iff (k i : Int) (us : List Ty) : (Ty.mk k i us).W ↔ us.length * 40 ≤ 2 ^ 47 ∧ ∀ u ∈ us, u.W := ⟨fun h => by cases h with | mk h1 h2 => exact ⟨h1, h2⟩, fun h => .mk h.1 h.2⟩
theorem Ty.eqb_self (a : Ty) : a.eqb a = true := (Ty.eqb_iff a a).2 rfl
end Go.Abs
set_option maxRecDepth 4000
namespace Go.Abs
/-- api.Token, as data. -/
structure Tk where
  kind : Int
  text : List UInt8
def Tk.enc (t : Tk) : PV := .agg [.int .i64 t.kind, .str t.text]
theorem Tk.enc_eq (t : Tk) : t.enc = .agg [.int .i64 t.kind, .str t.text] := rfl
theorem Tk.enc_cells (t : Tk) : t.enc.cells = [.int .i64 t.kind, .str t.text] := rfl
theorem Tk.eta (t : Tk) : Tk.mk t.kind t.text = t := rfl
theorem Tk.enc_drop1 (t : Tk) : t.enc.drop1 = t.enc := by rw [Tk.enc_eq]; rfl
theorem Tk.enc_drop0 (t : Tk) : t.enc.drop0 = t.enc := by rw [Tk.enc_eq]; rfl
theorem Tk.enc_len (t : Tk) : t.enc.cells.length = 2 := by rw [Tk.enc_cells]; rfl
theorem Tk.enc_junk (t : Tk) : t.enc.isJunk = false := by rw [Tk.enc_eq]; rfl
theorem Tk.enc_agg (t : Tk) : PV.agg t.enc.cells = t.enc := by rw [Tk.enc_cells, Tk.enc_eq]
theorem Tk.bel (n : Nat) (t : Tk) : Bel n t.enc := .agg _ (by
  intro c hc
  simp only [List.mem_cons, List.not_mem_nil, or_false] at hc
  rcases hc with rfl | rfl
  · exact .int _ _
  · exact .str _)
theorem bel_Tk (n : Nat) (us : List Tk) : Bel n (.slice (us.map Tk.enc) .none) := .slice _ _ (fun e he c hc => by
  obtain ⟨b, _, rfl⟩ := List.mem_map.1 he
  have := Tk.bel n b
  rw [Tk.enc_eq] at this hc
  cases this with | agg _ h => exact h c hc) (by simp)
theorem bel_Tk_tok {n id : Nat} (us : List Tk) (h : id < n) : Bel n (.slice (us.map Tk.enc) (.tok id)) := by
  have := bel_Tk n us
  cases this with
  | slice _ _ h1 h2 => exact .slice _ _ h1 (fun _ e => by cases e; exact h)
/-- Rules. -/
theorem TkS : (∀ t : Tk, t.enc.cells = [.int .i64 t.kind, .str t.text]) ∧ (∀ t : Tk, t.enc.isJunk = false) ∧ (∀ t : Tk, t.enc.drop1 = t.enc) ∧ (∀ t : Tk, t.enc.drop0 = t.enc) ∧ (∀ (t : Tk) (b : Nat), t.enc.fits ⟨true, 2, b⟩ = true) :=
  ⟨Tk.enc_cells, Tk.enc_junk, Tk.enc_drop1, Tk.enc_drop0, fun t b => by rw [Tk.enc_eq]; rfl⟩
theorem TkF : (∀ (kind : Int) (text : List UInt8), PV.agg [.int .i64 kind, .str text] = (Tk.mk kind text).enc) ∧
    (∀ t : Tk, Tk.mk t.kind t.text = t) ∧
    (∀ (kind : Int) (text : List UInt8), (Tk.mk kind text).kind = kind) ∧
    (∀ (kind : Int) (text : List UInt8), (Tk.mk kind text).text = text) :=
  ⟨fun kind text => (Tk.enc_eq (Tk.mk kind text)).symm, Tk.eta, fun _ _ => rfl, fun _ _ => rfl⟩
/-- No list is longer than the rows bear. -/
def Tk.W (t : Tk) : Prop := t.text.length ≤ 2 ^ 47
theorem app_Tk {us : List Tk} {u : Tk} {id : Nat} {tl : Tail} (hb : (us.length + 1) * 24 ≤ 2 ^ 47) (fresh : Nat) (H : Heap) (hH : H[id]? = some (.buf us.length 2)) :
    aappend ⟨true, 2, 24⟩ fresh H (.slice (us.map Tk.enc) (.tok id)) (.slice [u.enc] tl) = some (.slice ((us ++ [u]).map Tk.enc) (.tok id), some (id, .buf (us.length + 1) 2)) := by
  have hmx : maxLen = 9223372036854775807 := by decide
  rw [aappend_tok1 (n := us.length) hH (by simp) (by simpa using hb) (by simp; omega) (fun e he => by obtain ⟨v, _, rfl⟩ := List.mem_map.1 he; exact v.enc_len) u.enc_len (by rw [Tk.enc_cells]; rfl) (by decide)]
  simp
/-- Rules in one. -/
theorem qX : type_of% (And.intro @TkS (@TkF)) := And.intro @TkS (@TkF)
end Go.Abs
namespace Go.Abs
/-! The chapter 'lexer', over lists of bytes. -/
def isSpB (c : UInt8) : Bool := c == 32 || c == 9 || c == 10 || c == 13
def isLetB (c : UInt8) : Bool := (decide (97 ≤ c) && decide (c ≤ 122)) || (decide (65 ≤ c) && decide (c ≤ 90)) || c == 95
def isDigB (c : UInt8) : Bool := decide (48 ≤ c) && decide (c ≤ 57)
def notNl (c : UInt8) : Bool := !(c == 10)
def wordB (c : UInt8) : Bool := isLetB c || isDigB c
def runL (p : UInt8 → Bool) : List UInt8 → Nat
  | [] => 0
  | c :: r => if p c then runL p r + 1 else 0
theorem runL_le (p : UInt8 → Bool) : ∀ s, runL p s ≤ s.length
  | [] => Nat.le_refl _
  | c :: r => by have := runL_le p r; simp only [runL, List.length_cons]; split <;> omega
theorem runL_pos {p : UInt8 → Bool} {c : UInt8} {r : List UInt8} : 0 < runL p (c :: r) ↔ p c = true := by
  simp only [runL]; split <;> simp_all
/-- The step of a scan. -/
theorem runL_drop {p : UInt8 → Bool} {s : List UInt8} {i : Nat} (h : i < s.length) : runL p (s.drop i) = if p s[i] then runL p (s.drop (i + 1)) + 1 else 0 := by
  rw [List.drop_eq_getElem_cons h, runL]
/-- A string literal's end, as the reference counts it: the flag says that the byte ahead was a backslash that counts. -/
def litG : Bool → List UInt8 → Option Nat
  | _, [] => none
  | e, c :: r => if c = 10 then none else if c = 34 ∧ e = false then some 1 else (litG (decide (c = 92) && !e) r).map (· + 1)
/-- As the lexer counts it. -/
def litO : List UInt8 → Option Nat
  | [] => none
  | [c] => if c = 34 then some 1 else none
  | c :: d :: r => if c = 10 then none else if c = 34 then some 1 else if c = 92 ∧ d ≠ 10 then (litO r).map (· + 2) else (litO (d :: r)).map (· + 1)
theorem litO_eq : ∀ s, litO s = litG false s
  | [] => rfl
  | [c] => by
    simp only [litO, litG]
    by_cases h1 : c = 34
    · subst h1; simp
    · by_cases h2 : c = 10 <;> simp [h1, h2]
  | c :: d :: r => by
    have i1 := litO_eq r
    have i2 := litO_eq (d :: r)
    simp only [litO]
    rw [litG]
    by_cases h1 : c = 10
    · simp [h1]
    · rw [if_neg h1, if_neg h1]
      by_cases h2 : c = 34
      · simp [h2]
      · have e2 : (c = 34 ∧ (false : Bool) = false) = False := by simp [h2]
        simp only [h2, if_false, e2]
        by_cases h3 : c = 92
        · by_cases h4 : d = 10
          · have e3 : (c = 92 ∧ d ≠ 10) = False := by simp [h4]
            simp only [e3, if_false]
            rw [i2]
            simp [litG, h3, h4]
          · have e3 : (c = 92 ∧ d ≠ 10) = True := by simp [h3, h4]
            simp only [e3, if_true]
            rw [i1]
            simp [litG, h3, h4, Option.map_map, Function.comp_def]
        · have e3 : (c = 92 ∧ d ≠ 10) = False := by simp [h3]
          simp only [e3, if_false]
          rw [i2]
          simp [h3]
theorem litG_le : ∀ (s : List UInt8) (e : Bool) (k : Nat), litG e s = some k → 1 ≤ k ∧ k ≤ s.length
  | [], e, k, h => by cases h
  | c :: r, e, k, h => by
    rw [litG] at h
    split at h
    · cases h
    · split at h
      · cases h; simp
      · cases hq : litG (decide (c = 92) && !e) r with
        | none => rw [hq] at h; cases h
        | some m =>
          rw [hq] at h
          simp only [Option.map_some, Option.some.injEq] at h
          have := litG_le r _ m hq
          simp only [List.length_cons]; omega
def bytesOf (s : String) : List UInt8 := s.toUTF8.data.toList
def kwL : List (List UInt8) := [[117, 115, 101], [112, 117, 98], [97, 115], [102, 110], [115, 116, 114, 117, 99, 116], [101, 110, 117, 109], [116, 114, 97, 105, 116], [105, 109, 112, 108], [102, 111, 114], [99, 111, 110, 115, 116], [109, 97, 99, 114, 111], [108, 101, 116], [109, 117, 116], [119, 104, 105, 108, 101], [114, 101, 116, 117, 114, 110], [109, 97, 116, 99, 104], [105, 102], [101, 108, 115, 101], [110, 101, 119], [116, 114, 117, 101], [102, 97, 108, 115, 101], [116, 121, 112, 101]]
def twoL : List (List UInt8) := ["::", "=>", "->", "==", "&&", "||"].map bytesOf
def oneL : List UInt8 := [40, 41, 123, 125, 91, 93, 60, 62, 44, 59, 58, 46, 61, 43, 45, 42, 47, 33, 38, 124]
/-- The first token's length and kind. -/
def firstT (s : List UInt8) : Nat × Int :=
  match s with
  | [] => (0, 0)
  | c :: r =>
    if isSpB c then (runL isSpB s, 101)
    else if s.take 2 = [47, 47] then (runL notNl s, 102)
    else if isLetB c then (if kwL.contains (s.take (runL wordB s)) then (runL wordB s, 104) else (runL wordB s, 103))
    else if isDigB c then (runL isDigB s, 105)
    else if c = 34 then (match litG false r with | some k => (k + 1, 106) | none => (runL notNl s, 108))
    else if s.length > 1 ∧ twoL.contains (s.take 2) = true then (2, 107)
    else if oneL.contains c then (1, 107)
    else (1, 108)
theorem firstT_bd {s : List UInt8} (h : s ≠ []) : 1 ≤ (firstT s).1 ∧ (firstT s).1 ≤ s.length := by
  cases s with
  | nil => exact absurd rfl h
  | cons c r =>
    have key : ∀ p : UInt8 → Bool, p c = true → 1 ≤ runL p (c :: r) ∧ runL p (c :: r) ≤ (c :: r).length := fun p hp => ⟨runL_pos.2 hp, runL_le _ _⟩
    unfold firstT
    simp only
    split
    · exact key _ ‹_›
    · split
      · rename_i h2
        refine key _ ?_
        have : c = 47 := by simpa using (List.cons.inj h2).1
        subst this; rfl
      · split
        · rename_i h3
          have := key wordB (by unfold wordB; rw [h3]; rfl)
          split <;> exact this
        · split
          · exact key _ ‹_›
          · split
            · rename_i h5
              split
              · rename_i k hk
                have := litG_le _ _ _ hk
                simp only [List.length_cons]; omega
              · refine key _ ?_
                subst h5; rfl
            · split
              · rename_i h6; simp only [List.length_cons] at h6 ⊢; omega
              · split <;> simp
def tokL : Nat → List UInt8 → List Tk
  | 0, _ => []
  | n + 1, s => if s = [] then [] else ⟨(firstT s).2, s.take (firstT s).1⟩ :: tokL n (s.drop (firstT s).1)
end Go.Abs
