/- Part 3 of a proof of the law GreentreeReference: Go data as trees, the walks of the functions that the law reaches, the plain laws. -/
import Derived.Test.YtllfdppfagffiaaGBGreentreeReference
set_option linter.unusedVariables false
set_option linter.unusedSimpArgs false
namespace Go.Abs
/-! Bundles of rules, for shorter texts. -/
theorem jA : type_of% (And.intro @asq.eq_1 (And.intro @asq.eq_2 (And.intro @as0.eq_1 (And.intro @as0.eq_2 (And.intro @as1.eq_1 (And.intro @as1.eq_2 (And.intro @as1.eq_3 (And.intro @as2.eq_1 (And.intro @as2.eq_2 (@awanted.eq_1)))))))))) := And.intro @asq.eq_1 (And.intro @asq.eq_2 (And.intro @as0.eq_1 (And.intro @as0.eq_2 (And.intro @as1.eq_1 (And.intro @as1.eq_2 (And.intro @as1.eq_3 (And.intro @as2.eq_1 (And.intro @as2.eq_2 (@awanted.eq_1)))))))))
theorem jG : type_of% (And.intro @gsq.eq_1 (And.intro @gsq.eq_2 (And.intro @gs0.eq_1 (And.intro @gs0.eq_2 (And.intro @gs1.eq_1 (And.intro @gs1.eq_2 (And.intro @gs2.eq_1 (And.intro @gs2.eq_2 (And.intro @gcond.eq_1 (And.intro @gop.eq_1 (And.intro @gop.eq_2 (And.intro @Op.operands.eq_1 (And.intro @Op.operands.eq_2 (And.intro @Op.operands.eq_3 (And.intro @Op.operands.eq_4 (And.intro @Op.operands.eq_5 (And.intro @Op.operands.eq_6 (And.intro @Op.operands.eq_7 (And.intro @Op.operands.eq_8 (And.intro @Op.operands.eq_9 (And.intro @Op.operands.eq_10 (And.intro @Op.operands.eq_11 (And.intro @Op.operands.eq_12 (And.intro @Op.operands.eq_13 (And.intro @Op.operands.eq_14 (And.intro @Op.operands.eq_15 (And.intro @Op.operands.eq_16 (And.intro @Op.operands.eq_17 (And.intro @Op.operands.eq_18 (And.intro @Op.operands.eq_19 (And.intro @Op.operands.eq_20 (And.intro @Op.operands.eq_21 (And.intro @Op.operands.eq_22 (And.intro @Op.operands.eq_23 (And.intro @Op.operands.eq_24 (And.intro @Op.operands.eq_25 (And.intro @Op.operands.eq_26 (And.intro @Op.operands.eq_27 (And.intro @Op.operands.eq_28 (And.intro @Op.operands.eq_29 (And.intro @Op.operands.eq_30 (And.intro @Op.operands.eq_31 (And.intro @Op.operands.eq_32 (And.intro @Op.operands.eq_33 (And.intro @Op.operands.eq_34 (And.intro @Op.operands.eq_35 (And.intro @Op.operands.eq_36 (And.intro @Op.operands.eq_37 (And.intro @Op.operands.eq_38 (And.intro @Op.operands.eq_39 (And.intro @Op.operands.eq_40 (And.intro @Op.operands.eq_41 (And.intro @Op.operands.eq_42 (And.intro @Op.operands.eq_43 (And.intro @Call.operands.eq_1 (And.intro @SG (@Array.toList_append.{0}))))))))))))))))))))))))))))))))))))))))))))))))))))))))) := And.intro @gsq.eq_1 (And.intro @gsq.eq_2 (And.intro @gs0.eq_1 (And.intro @gs0.eq_2 (And.intro @gs1.eq_1 (And.intro @gs1.eq_2 (And.intro @gs2.eq_1 (And.intro @gs2.eq_2 (And.intro @gcond.eq_1 (And.intro @gop.eq_1 (And.intro @gop.eq_2 (And.intro @Op.operands.eq_1 (And.intro @Op.operands.eq_2 (And.intro @Op.operands.eq_3 (And.intro @Op.operands.eq_4 (And.intro @Op.operands.eq_5 (And.intro @Op.operands.eq_6 (And.intro @Op.operands.eq_7 (And.intro @Op.operands.eq_8 (And.intro @Op.operands.eq_9 (And.intro @Op.operands.eq_10 (And.intro @Op.operands.eq_11 (And.intro @Op.operands.eq_12 (And.intro @Op.operands.eq_13 (And.intro @Op.operands.eq_14 (And.intro @Op.operands.eq_15 (And.intro @Op.operands.eq_16 (And.intro @Op.operands.eq_17 (And.intro @Op.operands.eq_18 (And.intro @Op.operands.eq_19 (And.intro @Op.operands.eq_20 (And.intro @Op.operands.eq_21 (And.intro @Op.operands.eq_22 (And.intro @Op.operands.eq_23 (And.intro @Op.operands.eq_24 (And.intro @Op.operands.eq_25 (And.intro @Op.operands.eq_26 (And.intro @Op.operands.eq_27 (And.intro @Op.operands.eq_28 (And.intro @Op.operands.eq_29 (And.intro @Op.operands.eq_30 (And.intro @Op.operands.eq_31 (And.intro @Op.operands.eq_32 (And.intro @Op.operands.eq_33 (And.intro @Op.operands.eq_34 (And.intro @Op.operands.eq_35 (And.intro @Op.operands.eq_36 (And.intro @Op.operands.eq_37 (And.intro @Op.operands.eq_38 (And.intro @Op.operands.eq_39 (And.intro @Op.operands.eq_40 (And.intro @Op.operands.eq_41 (And.intro @Op.operands.eq_42 (And.intro @Op.operands.eq_43 (And.intro @Call.operands.eq_1 (And.intro @SG (@Array.toList_append.{0}))))))))))))))))))))))))))))))))))))))))))))))))))))))))
theorem jP : type_of% (And.intro @psq.eq_1 (And.intro @psq.eq_2 (And.intro @ps0.eq_1 (And.intro @ps0.eq_2 (And.intro @ps1.eq_1 (And.intro @ps1.eq_2 (And.intro @ps2.eq_1 (And.intro @ps2.eq_2 (And.intro @gcond.eq_1 (And.intro @gop.eq_1 (And.intro @gop.eq_2 (And.intro @Op.operands.eq_1 (And.intro @Op.operands.eq_2 (And.intro @Op.operands.eq_3 (And.intro @Op.operands.eq_4 (And.intro @Op.operands.eq_5 (And.intro @Op.operands.eq_6 (And.intro @Op.operands.eq_7 (And.intro @Op.operands.eq_8 (And.intro @Op.operands.eq_9 (And.intro @Op.operands.eq_10 (And.intro @Op.operands.eq_11 (And.intro @Op.operands.eq_12 (And.intro @Op.operands.eq_13 (And.intro @Op.operands.eq_14 (And.intro @Op.operands.eq_15 (And.intro @Op.operands.eq_16 (And.intro @Op.operands.eq_17 (And.intro @Op.operands.eq_18 (And.intro @Op.operands.eq_19 (And.intro @Op.operands.eq_20 (And.intro @Op.operands.eq_21 (And.intro @Op.operands.eq_22 (And.intro @Op.operands.eq_23 (And.intro @Op.operands.eq_24 (And.intro @Op.operands.eq_25 (And.intro @Op.operands.eq_26 (And.intro @Op.operands.eq_27 (And.intro @Op.operands.eq_28 (And.intro @Op.operands.eq_29 (And.intro @Op.operands.eq_30 (And.intro @Op.operands.eq_31 (And.intro @Op.operands.eq_32 (And.intro @Op.operands.eq_33 (And.intro @Op.operands.eq_34 (And.intro @Op.operands.eq_35 (And.intro @Op.operands.eq_36 (And.intro @Op.operands.eq_37 (And.intro @Op.operands.eq_38 (And.intro @Op.operands.eq_39 (And.intro @Op.operands.eq_40 (And.intro @Op.operands.eq_41 (And.intro @Op.operands.eq_42 (And.intro @Op.operands.eq_43 (And.intro @Call.operands.eq_1 (And.intro @SG (@Array.toList_append.{0}))))))))))))))))))))))))))))))))))))))))))))))))))))))))) := And.intro @psq.eq_1 (And.intro @psq.eq_2 (And.intro @ps0.eq_1 (And.intro @ps0.eq_2 (And.intro @ps1.eq_1 (And.intro @ps1.eq_2 (And.intro @ps2.eq_1 (And.intro @ps2.eq_2 (And.intro @gcond.eq_1 (And.intro @gop.eq_1 (And.intro @gop.eq_2 (And.intro @Op.operands.eq_1 (And.intro @Op.operands.eq_2 (And.intro @Op.operands.eq_3 (And.intro @Op.operands.eq_4 (And.intro @Op.operands.eq_5 (And.intro @Op.operands.eq_6 (And.intro @Op.operands.eq_7 (And.intro @Op.operands.eq_8 (And.intro @Op.operands.eq_9 (And.intro @Op.operands.eq_10 (And.intro @Op.operands.eq_11 (And.intro @Op.operands.eq_12 (And.intro @Op.operands.eq_13 (And.intro @Op.operands.eq_14 (And.intro @Op.operands.eq_15 (And.intro @Op.operands.eq_16 (And.intro @Op.operands.eq_17 (And.intro @Op.operands.eq_18 (And.intro @Op.operands.eq_19 (And.intro @Op.operands.eq_20 (And.intro @Op.operands.eq_21 (And.intro @Op.operands.eq_22 (And.intro @Op.operands.eq_23 (And.intro @Op.operands.eq_24 (And.intro @Op.operands.eq_25 (And.intro @Op.operands.eq_26 (And.intro @Op.operands.eq_27 (And.intro @Op.operands.eq_28 (And.intro @Op.operands.eq_29 (And.intro @Op.operands.eq_30 (And.intro @Op.operands.eq_31 (And.intro @Op.operands.eq_32 (And.intro @Op.operands.eq_33 (And.intro @Op.operands.eq_34 (And.intro @Op.operands.eq_35 (And.intro @Op.operands.eq_36 (And.intro @Op.operands.eq_37 (And.intro @Op.operands.eq_38 (And.intro @Op.operands.eq_39 (And.intro @Op.operands.eq_40 (And.intro @Op.operands.eq_41 (And.intro @Op.operands.eq_42 (And.intro @Op.operands.eq_43 (And.intro @Call.operands.eq_1 (And.intro @SG (@Array.toList_append.{0}))))))))))))))))))))))))))))))))))))))))))))))))))))))))
theorem jD : type_of% (And.intro @dsq.eq_1 (And.intro @dsq.eq_2 (And.intro @ds0.eq_1 (And.intro @ds0.eq_2 (And.intro @ds1.eq_1 (And.intro @ds1.eq_2 (And.intro @ds1.eq_3 (And.intro @ds2.eq_1 (And.intro @ds2.eq_2 (And.intro @ds3.eq_1 (And.intro @ds3.eq_2 (And.intro @awanted.eq_1 (And.intro @hapB.eq_1 (And.intro @effIds.eq_1 (And.intro @effIds.eq_2 (And.intro @effSet.eq_1 (And.intro @effSet.eq_2 (And.intro @nextFresh.eq_1 (And.intro @nextFresh.eq_2 (And.intro @ard.eq_1 (And.intro @ard.eq_2 (And.intro @ard.eq_3 (And.intro @ard.eq_4 (And.intro @freshOk.eq_1 (And.intro @freshOk.eq_2 (@isUnborn.eq_1)))))))))))))))))))))))))) := And.intro @dsq.eq_1 (And.intro @dsq.eq_2 (And.intro @ds0.eq_1 (And.intro @ds0.eq_2 (And.intro @ds1.eq_1 (And.intro @ds1.eq_2 (And.intro @ds1.eq_3 (And.intro @ds2.eq_1 (And.intro @ds2.eq_2 (And.intro @ds3.eq_1 (And.intro @ds3.eq_2 (And.intro @awanted.eq_1 (And.intro @hapB.eq_1 (And.intro @effIds.eq_1 (And.intro @effIds.eq_2 (And.intro @effSet.eq_1 (And.intro @effSet.eq_2 (And.intro @nextFresh.eq_1 (And.intro @nextFresh.eq_2 (And.intro @ard.eq_1 (And.intro @ard.eq_2 (And.intro @ard.eq_3 (And.intro @ard.eq_4 (And.intro @freshOk.eq_1 (And.intro @freshOk.eq_2 (@isUnborn.eq_1)))))))))))))))))))))))))
theorem jH : type_of% (And.intro @gdq.eq_1 (And.intro @gdq.eq_2 (And.intro @gd0.eq_1 (And.intro @gd0.eq_2 (And.intro @gd1.eq_1 (And.intro @gd1.eq_2 (And.intro @gd2.eq_1 (And.intro @gd2.eq_2 (And.intro @gd3.eq_1 (And.intro @gd3.eq_2 (And.intro @gcond.eq_1 (And.intro @gop.eq_1 (And.intro @gop.eq_2 (And.intro @Op.operands.eq_1 (And.intro @Op.operands.eq_2 (And.intro @Op.operands.eq_3 (And.intro @Op.operands.eq_4 (And.intro @Op.operands.eq_5 (And.intro @Op.operands.eq_6 (And.intro @Op.operands.eq_7 (And.intro @Op.operands.eq_8 (And.intro @Op.operands.eq_9 (And.intro @Op.operands.eq_10 (And.intro @Op.operands.eq_11 (And.intro @Op.operands.eq_12 (And.intro @Op.operands.eq_13 (And.intro @Op.operands.eq_14 (And.intro @Op.operands.eq_15 (And.intro @Op.operands.eq_16 (And.intro @Op.operands.eq_17 (And.intro @Op.operands.eq_18 (And.intro @Op.operands.eq_19 (And.intro @Op.operands.eq_20 (And.intro @Op.operands.eq_21 (And.intro @Op.operands.eq_22 (And.intro @Op.operands.eq_23 (And.intro @Op.operands.eq_24 (And.intro @Op.operands.eq_25 (And.intro @Op.operands.eq_26 (And.intro @Op.operands.eq_27 (And.intro @Op.operands.eq_28 (And.intro @Op.operands.eq_29 (And.intro @Op.operands.eq_30 (And.intro @Op.operands.eq_31 (And.intro @Op.operands.eq_32 (And.intro @Op.operands.eq_33 (And.intro @Op.operands.eq_34 (And.intro @Op.operands.eq_35 (And.intro @Op.operands.eq_36 (And.intro @Op.operands.eq_37 (And.intro @Op.operands.eq_38 (And.intro @Op.operands.eq_39 (And.intro @Op.operands.eq_40 (And.intro @Op.operands.eq_41 (And.intro @Op.operands.eq_42 (And.intro @Op.operands.eq_43 (And.intro @Call.operands.eq_1 (And.intro @SG (And.intro @Array.toList_append.{0} (And.intro @hapB.eq_1 (And.intro @effIds.eq_1 (And.intro @effIds.eq_2 (And.intro @effSet.eq_1 (And.intro @effSet.eq_2 (And.intro @nextFresh.eq_1 (And.intro @nextFresh.eq_2 (And.intro @ard.eq_1 (And.intro @ard.eq_2 (And.intro @ard.eq_3 (And.intro @ard.eq_4 (And.intro @freshOk.eq_1 (And.intro @freshOk.eq_2 (@isUnborn.eq_1))))))))))))))))))))))))))))))))))))))))))))))))))))))))))))))))))))))))) := And.intro @gdq.eq_1 (And.intro @gdq.eq_2 (And.intro @gd0.eq_1 (And.intro @gd0.eq_2 (And.intro @gd1.eq_1 (And.intro @gd1.eq_2 (And.intro @gd2.eq_1 (And.intro @gd2.eq_2 (And.intro @gd3.eq_1 (And.intro @gd3.eq_2 (And.intro @gcond.eq_1 (And.intro @gop.eq_1 (And.intro @gop.eq_2 (And.intro @Op.operands.eq_1 (And.intro @Op.operands.eq_2 (And.intro @Op.operands.eq_3 (And.intro @Op.operands.eq_4 (And.intro @Op.operands.eq_5 (And.intro @Op.operands.eq_6 (And.intro @Op.operands.eq_7 (And.intro @Op.operands.eq_8 (And.intro @Op.operands.eq_9 (And.intro @Op.operands.eq_10 (And.intro @Op.operands.eq_11 (And.intro @Op.operands.eq_12 (And.intro @Op.operands.eq_13 (And.intro @Op.operands.eq_14 (And.intro @Op.operands.eq_15 (And.intro @Op.operands.eq_16 (And.intro @Op.operands.eq_17 (And.intro @Op.operands.eq_18 (And.intro @Op.operands.eq_19 (And.intro @Op.operands.eq_20 (And.intro @Op.operands.eq_21 (And.intro @Op.operands.eq_22 (And.intro @Op.operands.eq_23 (And.intro @Op.operands.eq_24 (And.intro @Op.operands.eq_25 (And.intro @Op.operands.eq_26 (And.intro @Op.operands.eq_27 (And.intro @Op.operands.eq_28 (And.intro @Op.operands.eq_29 (And.intro @Op.operands.eq_30 (And.intro @Op.operands.eq_31 (And.intro @Op.operands.eq_32 (And.intro @Op.operands.eq_33 (And.intro @Op.operands.eq_34 (And.intro @Op.operands.eq_35 (And.intro @Op.operands.eq_36 (And.intro @Op.operands.eq_37 (And.intro @Op.operands.eq_38 (And.intro @Op.operands.eq_39 (And.intro @Op.operands.eq_40 (And.intro @Op.operands.eq_41 (And.intro @Op.operands.eq_42 (And.intro @Op.operands.eq_43 (And.intro @Call.operands.eq_1 (And.intro @SG (And.intro @Array.toList_append.{0} (And.intro @hapB.eq_1 (And.intro @effIds.eq_1 (And.intro @effIds.eq_2 (And.intro @effSet.eq_1 (And.intro @effSet.eq_2 (And.intro @nextFresh.eq_1 (And.intro @nextFresh.eq_2 (And.intro @ard.eq_1 (And.intro @ard.eq_2 (And.intro @ard.eq_3 (And.intro @ard.eq_4 (And.intro @freshOk.eq_1 (And.intro @freshOk.eq_2 (@isUnborn.eq_1))))))))))))))))))))))))))))))))))))))))))))))))))))))))))))))))))))))))
theorem jX : type_of% (And.intro @xq.eq_1 (And.intro @xq.eq_2 (And.intro @xd0.eq_1 (And.intro @xd0.eq_2 (And.intro @xd1.eq_1 (And.intro @xd1.eq_2 (And.intro @xd2.eq_1 (And.intro @xd2.eq_2 (And.intro @xd4.eq_1 (And.intro @xd4.eq_2 (And.intro @xchk.eq_1 (And.intro @gcond.eq_1 (And.intro @gop.eq_1 (And.intro @gop.eq_2 (And.intro @Op.operands.eq_1 (And.intro @Op.operands.eq_2 (And.intro @Op.operands.eq_3 (And.intro @Op.operands.eq_4 (And.intro @Op.operands.eq_5 (And.intro @Op.operands.eq_6 (And.intro @Op.operands.eq_7 (And.intro @Op.operands.eq_8 (And.intro @Op.operands.eq_9 (And.intro @Op.operands.eq_10 (And.intro @Op.operands.eq_11 (And.intro @Op.operands.eq_12 (And.intro @Op.operands.eq_13 (And.intro @Op.operands.eq_14 (And.intro @Op.operands.eq_15 (And.intro @Op.operands.eq_16 (And.intro @Op.operands.eq_17 (And.intro @Op.operands.eq_18 (And.intro @Op.operands.eq_19 (And.intro @Op.operands.eq_20 (And.intro @Op.operands.eq_21 (And.intro @Op.operands.eq_22 (And.intro @Op.operands.eq_23 (And.intro @Op.operands.eq_24 (And.intro @Op.operands.eq_25 (And.intro @Op.operands.eq_26 (And.intro @Op.operands.eq_27 (And.intro @Op.operands.eq_28 (And.intro @Op.operands.eq_29 (And.intro @Op.operands.eq_30 (And.intro @Op.operands.eq_31 (And.intro @Op.operands.eq_32 (And.intro @Op.operands.eq_33 (And.intro @Op.operands.eq_34 (And.intro @Op.operands.eq_35 (And.intro @Op.operands.eq_36 (And.intro @Op.operands.eq_37 (And.intro @Op.operands.eq_38 (And.intro @Op.operands.eq_39 (And.intro @Op.operands.eq_40 (And.intro @Op.operands.eq_41 (And.intro @Op.operands.eq_42 (And.intro @Op.operands.eq_43 (And.intro @Call.operands.eq_1 (And.intro @SG (And.intro @Array.toList_append.{0} (And.intro @hapB.eq_1 (And.intro @effIds.eq_1 (And.intro @effIds.eq_2 (And.intro @effSet.eq_1 (And.intro @effSet.eq_2 (And.intro @nextFresh.eq_1 (And.intro @nextFresh.eq_2 (And.intro @ard.eq_1 (And.intro @ard.eq_2 (And.intro @ard.eq_3 (And.intro @ard.eq_4 (And.intro @freshOk.eq_1 (And.intro @freshOk.eq_2 (And.intro @isUnborn.eq_1 (And.intro @Nat.le_refl (And.intro @decide_true (And.intro @Bool.true_or (And.intro @Bool.or_true (And.intro @List.all_cons.{0} (And.intro @List.all_nil.{0} (@Bool.and_true))))))))))))))))))))))))))))))))))))))))))))))))))))))))))))))))))))))))))))))))) := And.intro @xq.eq_1 (And.intro @xq.eq_2 (And.intro @xd0.eq_1 (And.intro @xd0.eq_2 (And.intro @xd1.eq_1 (And.intro @xd1.eq_2 (And.intro @xd2.eq_1 (And.intro @xd2.eq_2 (And.intro @xd4.eq_1 (And.intro @xd4.eq_2 (And.intro @xchk.eq_1 (And.intro @gcond.eq_1 (And.intro @gop.eq_1 (And.intro @gop.eq_2 (And.intro @Op.operands.eq_1 (And.intro @Op.operands.eq_2 (And.intro @Op.operands.eq_3 (And.intro @Op.operands.eq_4 (And.intro @Op.operands.eq_5 (And.intro @Op.operands.eq_6 (And.intro @Op.operands.eq_7 (And.intro @Op.operands.eq_8 (And.intro @Op.operands.eq_9 (And.intro @Op.operands.eq_10 (And.intro @Op.operands.eq_11 (And.intro @Op.operands.eq_12 (And.intro @Op.operands.eq_13 (And.intro @Op.operands.eq_14 (And.intro @Op.operands.eq_15 (And.intro @Op.operands.eq_16 (And.intro @Op.operands.eq_17 (And.intro @Op.operands.eq_18 (And.intro @Op.operands.eq_19 (And.intro @Op.operands.eq_20 (And.intro @Op.operands.eq_21 (And.intro @Op.operands.eq_22 (And.intro @Op.operands.eq_23 (And.intro @Op.operands.eq_24 (And.intro @Op.operands.eq_25 (And.intro @Op.operands.eq_26 (And.intro @Op.operands.eq_27 (And.intro @Op.operands.eq_28 (And.intro @Op.operands.eq_29 (And.intro @Op.operands.eq_30 (And.intro @Op.operands.eq_31 (And.intro @Op.operands.eq_32 (And.intro @Op.operands.eq_33 (And.intro @Op.operands.eq_34 (And.intro @Op.operands.eq_35 (And.intro @Op.operands.eq_36 (And.intro @Op.operands.eq_37 (And.intro @Op.operands.eq_38 (And.intro @Op.operands.eq_39 (And.intro @Op.operands.eq_40 (And.intro @Op.operands.eq_41 (And.intro @Op.operands.eq_42 (And.intro @Op.operands.eq_43 (And.intro @Call.operands.eq_1 (And.intro @SG (And.intro @Array.toList_append.{0} (And.intro @hapB.eq_1 (And.intro @effIds.eq_1 (And.intro @effIds.eq_2 (And.intro @effSet.eq_1 (And.intro @effSet.eq_2 (And.intro @nextFresh.eq_1 (And.intro @nextFresh.eq_2 (And.intro @ard.eq_1 (And.intro @ard.eq_2 (And.intro @ard.eq_3 (And.intro @ard.eq_4 (And.intro @freshOk.eq_1 (And.intro @freshOk.eq_2 (And.intro @isUnborn.eq_1 (And.intro @Nat.le_refl (And.intro @decide_true (And.intro @Bool.true_or (And.intro @Bool.or_true (And.intro @List.all_cons.{0} (And.intro @List.all_nil.{0} (@Bool.and_true))))))))))))))))))))))))))))))))))))))))))))))))))))))))))))))))))))))))))))))))
theorem jC : type_of% (And.intro @acallR.eq_def (And.intro @acall.eq_1 (And.intro @acall.eq_2 (@awanted.eq_1)))) := And.intro @acallR.eq_def (And.intro @acall.eq_1 (And.intro @acall.eq_2 (@awanted.eq_1)))
theorem jE : type_of% (And.intro @acallR.eq_def (And.intro @acall.eq_1 (And.intro @acall.eq_2 (And.intro @gcond.eq_1 (And.intro @Op.operands.eq_1 (And.intro @Op.operands.eq_2 (And.intro @Op.operands.eq_3 (And.intro @Op.operands.eq_4 (And.intro @Op.operands.eq_5 (And.intro @Op.operands.eq_6 (And.intro @Op.operands.eq_7 (And.intro @Op.operands.eq_8 (And.intro @Op.operands.eq_9 (And.intro @Op.operands.eq_10 (And.intro @Op.operands.eq_11 (And.intro @Op.operands.eq_12 (And.intro @Op.operands.eq_13 (And.intro @Op.operands.eq_14 (And.intro @Op.operands.eq_15 (And.intro @Op.operands.eq_16 (And.intro @Op.operands.eq_17 (And.intro @Op.operands.eq_18 (And.intro @Op.operands.eq_19 (And.intro @Op.operands.eq_20 (And.intro @Op.operands.eq_21 (And.intro @Op.operands.eq_22 (And.intro @Op.operands.eq_23 (And.intro @Op.operands.eq_24 (And.intro @Op.operands.eq_25 (And.intro @Op.operands.eq_26 (And.intro @Op.operands.eq_27 (And.intro @Op.operands.eq_28 (And.intro @Op.operands.eq_29 (And.intro @Op.operands.eq_30 (And.intro @Op.operands.eq_31 (And.intro @Op.operands.eq_32 (And.intro @Op.operands.eq_33 (And.intro @Op.operands.eq_34 (And.intro @Op.operands.eq_35 (And.intro @Op.operands.eq_36 (And.intro @Op.operands.eq_37 (And.intro @Op.operands.eq_38 (And.intro @Op.operands.eq_39 (And.intro @Op.operands.eq_40 (And.intro @Op.operands.eq_41 (And.intro @Op.operands.eq_42 (And.intro @Op.operands.eq_43 (And.intro @Call.operands.eq_1 (And.intro @SG (@Array.toList_append.{0})))))))))))))))))))))))))))))))))))))))))))))))))) := And.intro @acallR.eq_def (And.intro @acall.eq_1 (And.intro @acall.eq_2 (And.intro @gcond.eq_1 (And.intro @Op.operands.eq_1 (And.intro @Op.operands.eq_2 (And.intro @Op.operands.eq_3 (And.intro @Op.operands.eq_4 (And.intro @Op.operands.eq_5 (And.intro @Op.operands.eq_6 (And.intro @Op.operands.eq_7 (And.intro @Op.operands.eq_8 (And.intro @Op.operands.eq_9 (And.intro @Op.operands.eq_10 (And.intro @Op.operands.eq_11 (And.intro @Op.operands.eq_12 (And.intro @Op.operands.eq_13 (And.intro @Op.operands.eq_14 (And.intro @Op.operands.eq_15 (And.intro @Op.operands.eq_16 (And.intro @Op.operands.eq_17 (And.intro @Op.operands.eq_18 (And.intro @Op.operands.eq_19 (And.intro @Op.operands.eq_20 (And.intro @Op.operands.eq_21 (And.intro @Op.operands.eq_22 (And.intro @Op.operands.eq_23 (And.intro @Op.operands.eq_24 (And.intro @Op.operands.eq_25 (And.intro @Op.operands.eq_26 (And.intro @Op.operands.eq_27 (And.intro @Op.operands.eq_28 (And.intro @Op.operands.eq_29 (And.intro @Op.operands.eq_30 (And.intro @Op.operands.eq_31 (And.intro @Op.operands.eq_32 (And.intro @Op.operands.eq_33 (And.intro @Op.operands.eq_34 (And.intro @Op.operands.eq_35 (And.intro @Op.operands.eq_36 (And.intro @Op.operands.eq_37 (And.intro @Op.operands.eq_38 (And.intro @Op.operands.eq_39 (And.intro @Op.operands.eq_40 (And.intro @Op.operands.eq_41 (And.intro @Op.operands.eq_42 (And.intro @Op.operands.eq_43 (And.intro @Call.operands.eq_1 (And.intro @SG (@Array.toList_append.{0})))))))))))))))))))))))))))))))))))))))))))))))))
theorem jO : type_of% (And.intro @aop.eq_1 (And.intro @aop.eq_2 (And.intro @aop.eq_3 (And.intro @aop.eq_4 (And.intro @aop.eq_5 (And.intro @aop.eq_6 (And.intro @aop.eq_7 (And.intro @aop.eq_8 (And.intro @aop.eq_9 (And.intro @aop.eq_10 (And.intro @aop.eq_11 (And.intro @aop.eq_12 (And.intro @aop.eq_13 (And.intro @aop.eq_14 (And.intro @aop.eq_15 (And.intro @aop.eq_16 (And.intro @aop.eq_17 (And.intro @aop.eq_18 (And.intro @aop.eq_19 (And.intro @aop.eq_20 (And.intro @aop.eq_21 (And.intro @aop.eq_22 (And.intro @aop.eq_23 (And.intro @aload.eq_1 (And.intro @aload.eq_2 (And.intro @aload.eq_3 (And.intro @ajust.eq_1 (And.intro @astore.eq_1 (And.intro @astore.eq_2 (And.intro @splice.eq_1 (And.intro @splice.eq_2 (And.intro @afldAddr.eq_1 (And.intro @afld.eq_def (And.intro @aidxAddr.eq_1 (And.intro @aidxAddr.eq_2 (And.intro @aidxAddr.eq_3 (And.intro @aidx.eq_1 (And.intro @aidx.eq_2 (And.intro @abin.eq_1 (And.intro @abin.eq_2 (And.intro @abin.eq_3 (And.intro @abin.eq_4 (And.intro @abin.eq_5 (And.intro @abin.eq_6 (And.intro @abin.eq_7 (And.intro @abin.eq_8 (And.intro @abin.eq_9 (And.intro @abin.eq_10 (And.intro @abin.eq_11 (And.intro @abin.eq_12 (And.intro @abin.eq_13 (And.intro @abin.eq_14 (And.intro @abin.eq_15 (And.intro @abin.eq_16 (And.intro @abin.eq_17 (And.intro @abin.eq_18 (And.intro @abin.eq_19 (And.intro @abin.eq_20 (And.intro @abin.eq_21 (And.intro @abin.eq_22 (And.intro @abin.eq_23 (And.intro @abin.eq_24 (And.intro @abin.eq_25 (And.intro @abin.eq_26 (And.intro @abin.eq_27 (And.intro @abin.eq_28 (And.intro @abin.eq_29 (And.intro @abin.eq_30 (And.intro @aun.eq_1 (And.intro @aun.eq_2 (And.intro @aun.eq_3 (And.intro @abuiltin.eq_1 (And.intro @abuiltin.eq_2 (And.intro @abuiltin.eq_3 (And.intro @abuiltin.eq_4 (And.intro @abuiltin.eq_5 (And.intro @abuild.eq_1 (And.intro @abuild.eq_2 (And.intro @abuildS.eq_1 (And.intro @abuildS.eq_2 (And.intro @aslice.eq_1 (And.intro @aslice.eq_2 (And.intro @aslice.eq_3 (And.intro @aslice.eq_4 (And.intro @aslice.eq_5 (And.intro @abndO.eq_1 (And.intro @abndO.eq_2 (And.intro @abnd.eq_1 (And.intro @abnd.eq_2 (And.intro @amakeSlice.eq_1 (@amakeSlice.eq_2))))))))))))))))))))))))))))))))))))))))))))))))))))))))))))))))))))))))))))))))))))))))))) := And.intro @aop.eq_1 (And.intro @aop.eq_2 (And.intro @aop.eq_3 (And.intro @aop.eq_4 (And.intro @aop.eq_5 (And.intro @aop.eq_6 (And.intro @aop.eq_7 (And.intro @aop.eq_8 (And.intro @aop.eq_9 (And.intro @aop.eq_10 (And.intro @aop.eq_11 (And.intro @aop.eq_12 (And.intro @aop.eq_13 (And.intro @aop.eq_14 (And.intro @aop.eq_15 (And.intro @aop.eq_16 (And.intro @aop.eq_17 (And.intro @aop.eq_18 (And.intro @aop.eq_19 (And.intro @aop.eq_20 (And.intro @aop.eq_21 (And.intro @aop.eq_22 (And.intro @aop.eq_23 (And.intro @aload.eq_1 (And.intro @aload.eq_2 (And.intro @aload.eq_3 (And.intro @ajust.eq_1 (And.intro @astore.eq_1 (And.intro @astore.eq_2 (And.intro @splice.eq_1 (And.intro @splice.eq_2 (And.intro @afldAddr.eq_1 (And.intro @afld.eq_def (And.intro @aidxAddr.eq_1 (And.intro @aidxAddr.eq_2 (And.intro @aidxAddr.eq_3 (And.intro @aidx.eq_1 (And.intro @aidx.eq_2 (And.intro @abin.eq_1 (And.intro @abin.eq_2 (And.intro @abin.eq_3 (And.intro @abin.eq_4 (And.intro @abin.eq_5 (And.intro @abin.eq_6 (And.intro @abin.eq_7 (And.intro @abin.eq_8 (And.intro @abin.eq_9 (And.intro @abin.eq_10 (And.intro @abin.eq_11 (And.intro @abin.eq_12 (And.intro @abin.eq_13 (And.intro @abin.eq_14 (And.intro @abin.eq_15 (And.intro @abin.eq_16 (And.intro @abin.eq_17 (And.intro @abin.eq_18 (And.intro @abin.eq_19 (And.intro @abin.eq_20 (And.intro @abin.eq_21 (And.intro @abin.eq_22 (And.intro @abin.eq_23 (And.intro @abin.eq_24 (And.intro @abin.eq_25 (And.intro @abin.eq_26 (And.intro @abin.eq_27 (And.intro @abin.eq_28 (And.intro @abin.eq_29 (And.intro @abin.eq_30 (And.intro @aun.eq_1 (And.intro @aun.eq_2 (And.intro @aun.eq_3 (And.intro @abuiltin.eq_1 (And.intro @abuiltin.eq_2 (And.intro @abuiltin.eq_3 (And.intro @abuiltin.eq_4 (And.intro @abuiltin.eq_5 (And.intro @abuild.eq_1 (And.intro @abuild.eq_2 (And.intro @abuildS.eq_1 (And.intro @abuildS.eq_2 (And.intro @aslice.eq_1 (And.intro @aslice.eq_2 (And.intro @aslice.eq_3 (And.intro @aslice.eq_4 (And.intro @aslice.eq_5 (And.intro @abndO.eq_1 (And.intro @abndO.eq_2 (And.intro @abnd.eq_1 (And.intro @abnd.eq_2 (And.intro @amakeSlice.eq_1 (@amakeSlice.eq_2))))))))))))))))))))))))))))))))))))))))))))))))))))))))))))))))))))))))))))))))))))))))))
theorem jL : type_of% (And.intro @aload.eq_1 (And.intro @aload.eq_2 (@aload.eq_3))) := And.intro @aload.eq_1 (And.intro @aload.eq_2 (@aload.eq_3))
theorem jN : type_of% (And.intro @true_and (And.intro @and_true (And.intro @LS (And.intro @SS (And.intro @SX (And.intro @HS (And.intro @mkS_cons (And.intro @mkS_nil (And.intro @eq_self' (And.intro @List.map_nil.{0, 0} (And.intro @beq_self_eq_true.{0} (@Nat.succ_ne_self)))))))))))) := And.intro @true_and (And.intro @and_true (And.intro @LS (And.intro @SS (And.intro @SX (And.intro @HS (And.intro @mkS_cons (And.intro @mkS_nil (And.intro @eq_self' (And.intro @List.map_nil.{0, 0} (And.intro @beq_self_eq_true.{0} (@Nat.succ_ne_self)))))))))))
end Go.Abs
namespace Go.Abs
theorem dp_skip {P : Program} {N : Nat} {ops : Array Oper} {Q : Post} {k : Nat} {o : Oper} {l : List Oper} {T : Slots} {G : Nat → Bool} {H : Heap} {r : PV} (hc : gcond ops.toList T G N o = some false)
    (h : DP P N ops Q (k + 1) l (msk (.tup []) (updO T o.dst r) (ugO G o.dst false)) H) : DP P N ops Q k (o :: l) (msk (.tup []) T G) H := by
  intro prev hn
  rw [msk_put_false] at h
  exact dops_skipR [] (fun p hp => .inr ⟨by rw [hn p hp]; simp, by simp⟩) hc (h _ (hn.app _ _))
theorem x1_skip {P : Program} {N : Nat} {ops : Array Oper} {Q : Post} {n0 k m : Nat} {o : Oper} {l : List Oper} {T : Slots} {G : Nat → Bool} {B : Heap} {r : PV} (hc : gcond ops.toList T G N o = some false)
    (h : X1 P N ops Q n0 (k + 1) l (msk (.tup []) (updO T o.dst r) (ugO G o.dst false)) (B ++ List.replicate m .unborn)) : X1 P N ops Q n0 k (o :: l) (msk (.tup []) T G) (B ++ List.replicate m .unborn) := by
  intro prev hn
  rw [msk_put_false] at h
  exact dops_skipR [] (fun p hp => .inr ⟨by rw [hn.noeff p hp]; simp, by simp⟩) hc (h _ (hn.app (by simp)))
/-- Rules for a slice's bounds among operands. -/
theorem jS : (∀ x : Operand, (some x).toArray.toList = [x]) ∧ ((none : Option Operand).toArray.toList = []) ∧ ((none : Option Operand).isNone = true) ∧ (∀ x : Operand, (some x).isNone = false) ∧ (∀ l : List Operand, [] ++ l = l) ∧ (∀ l : List Operand, l ++ [] = l) ∧
    (∀ (x : Operand) (l m : List Operand), (x :: l) ++ m = x :: (l ++ m)) ∧ ((false = true) = False) ∧ (∀ p : Prop, (p ∧ False) = False) ∧ (∀ p : Prop, (False ∧ p) = False) ∧ (∀ (c : Bool) (G : Nat → Bool) (v : Value), gOk c G (.const v) = true) :=
  ⟨fun _ => rfl, rfl, rfl, fun _ => rfl, fun _ => rfl, fun l => List.append_nil l, fun _ _ _ => rfl, by simp, by simp, by simp, fun _ _ _ => rfl⟩
end Go.Abs
namespace Go.Abs
theorem wrap_id' {n : Int} (h0 : -9223372036854775808 ≤ n) (h : n ≤ 9223372036854775807) : IntKind.i64.wrap n = n := by
  simp [IntKind.wrap, IntKind.bits, IntKind.signed]
  omega
section
variable {P : Program} {N nb : Nat} {ops : Array Oper} {Q : Post}
/-- The capacity of a slice that is full. -/
theorem aops_cap {o : Oper} {l : List Oper} {T : Slots} {H : Heap} {x : Operand} {t : TypeId} {es : List PV} (hop : o.op = .call ⟨.builtin .cap, #[x], #[t]⟩) (hx : aev T x = .slice es .full) (hw : awanted ops.toList T N o = some true) (hok : okOpnd N x = true)
    (hte : (telem P t).isSome = true) (h : AOps P N nb ops Q l (updO T o.dst (.int .i64 es.length)) H) : AOps P N nb ops Q (o :: l) T H := by
  refine aops_done hw (fun E a ho hH ht => ?_) h
  have hr := vrel_eval ht x hok
  rw [hx] at hr
  obtain ⟨e, hu⟩ := telem_isSome hte
  obtain ⟨ad, hval⟩ : ∃ ad, a.eval x = .slice ad es.length es.length := by
    generalize a.eval x = y at hr
    cases hr with
    | nils _ _ => exact ⟨none, rfl⟩
    | slice ad len cap sz _ _ vs hlen hcap hmax hsz hc hr ht =>
      have : cap = len := ht
      subst this; subst hlen; exact ⟨some ad, rfl⟩
  refine ⟨E, .int .i64 es.length, .inl ?_, .refl E, ho, hH, .int _ _⟩
  unfold execOp
  rw [hop]
  simp only
  refine (run_builtin (c := ⟨.builtin .cap, #[x], #[t]⟩) (a := a) (E := E) (P := P) (xs := [x]) (ts := [t]) (ty := o.type) rfl rfl rfl (s := Builtin.cap_ #[t] o.type #[a.eval x]) rfl).trans ?_
  simp only [Builtin.cap_, List.getElem?_toArray, List.getElem?_cons_zero, Sem.run_bind, run_under hu, Result.andThen_ok, hval, Sem.run_pure, goInt]
theorem wanted_none {o : Oper} {y : Nat → Option Bool} (h : o.guard = none) : Region.wanted o y = true := by unfold Region.wanted; rw [h]
/-- An empty slice's room: append of a made slice, cut to nothing. -/
theorem aops_grow {o1 o2 o3 o4 : Oper} {l : List Oper} {T : Slots} {H : Heap} {x y s : Nat} {d1 d2 d3 d4 : Nat} {t u : TypeId} {ei : TypeId × TI} {z : PV} {n : Int} (id : Nat) (hid : H[id]? = some .unborn)
    (g1 : o1.guard = none) (g2 : o2.guard = none) (g3 : o3.guard = none) (g4 : o4.guard = none)
    (p1 : o1.op = .call ⟨.builtin .append, #[.tmp x, .tmp y], #[t, u]⟩) (p2 : o2.op = .move (.tmp s)) (p3 : o3.op = .call ⟨.builtin .len, #[.tmp d2], #[t]⟩) (p4 : o4.op = .slice t (.tmp d1) none (some (.tmp d3)) none)
    (e1 : o1.dst = some d1) (e2 : o2.dst = some d2) (e3 : o3.dst = some d3) (e4 : o4.dst = some d4)
    (hd : d1 ≠ d2 ∧ d1 ≠ d3 ∧ d2 ≠ d3 ∧ s ≠ d1 ∧ x < N ∧ y < N ∧ s < N ∧ d1 < N ∧ d2 < N ∧ d3 < N)
    (hx : T x = .slice [] .full) (hy : T y = .int .i64 n) (hs : T s = .slice [] .full) (hn : 0 < n) (hnb : n * ei.2.bytes ≤ 2 ^ 47) (hnm : n ≤ maxLen)
    (hte : telem P t = some ei) (htu : tint P u = some .i64) (hz : tzero P ei.1 = some z) (hzf : z.fits ei.2 = true) (hsz : 0 < ei.2.sz)
    (h : AOps P N nb ops Q l (upd (upd (upd (upd T d1 .junk) d2 (.slice [] .full)) d3 (.int .i64 0)) d4 (.slice [] (.tok id))) (H.set id (.buf 0 ei.2.sz))) : AOps P N nb ops Q (o1 :: o2 :: o3 :: o4 :: l) T H := by
  obtain ⟨q1, q2, q3, q4, q5, q6, q7, q8, q9, q10⟩ := hd
  obtain ⟨e, i⟩ := ei
  obtain ⟨h1, h2⟩ := telem_some hte
  obtain ⟨dd, f, h3, h4, rfl⟩ := tinfo_some h2
  obtain ⟨f', zv, h5, h6, rfl⟩ := tzero_some hz
  simp only at h5 hzf hnb hsz h
  rw [h4] at h5; cases h5
  obtain ⟨hzs, hzj⟩ := PV.fits_spec hzf
  simp only at hzs
  have hue : P.underlying u = some (.int .i64) := by
    unfold tint at htu
    split at htu
    · rename_i k hq; cases htu; exact hq
    · cases htu
  intro E a ho hH ht
  subst hH
  obtain ⟨zc1, zc2⟩ := (vrel_ofConst E.view zv).not_junk_cells hzj
  have hzv : zv.cells.size = f.size := zc1.trans hzs
  have full : ∀ v, VRel E.view v (.slice [] .full) → ∃ ad, v = .slice ad 0 0 := fun v hv => by
    cases hv with
    | nils _ _ => exact ⟨none, rfl⟩
    | slice ad len cap sz _ _ vs hlen hcap hmax hsz' hc hr ht =>
      have : cap = len := ht
      subst this; simp at hlen; subst hlen; exact ⟨some ad, rfl⟩
  have rx := ht.rel x q5
  have rs := ht.rel s q7
  have ry := ht.rel y q6
  rw [hx] at rx; rw [hs] at rs; rw [hy] at ry
  obtain ⟨adx, vx⟩ := full _ rx
  obtain ⟨ads, vs⟩ := full _ rs
  have vy := ry.int_inv
  have vx' : a.eval (.tmp x) = .slice adx 0 0 := vx
  have vy' : a.eval (.tmp y) = .int .i64 n := vy
  obtain ⟨m, rfl⟩ : ∃ m : Nat, n = m := ⟨n.toNat, by omega⟩
  have em : maxLen = 9223372036854775807 := by decide
  have hw : IntKind.i64.wrap (m : Int) = m := wrap_id' (by omega) (by omega)
  obtain ⟨c, hc6, hc7, hc8⟩ := run_choose_cap (P := P) (w := E.w) m 0 e
  have hcm : c ≤ maxLen := by
    have := hc8 (by have e2 : maxLen = 2 ^ 63 - 1 := rfl; omega)
    have e2 : maxLen = 2 ^ 63 - 1 := rfl
    omega
  let arr : Array Value := #[] ++ Builtin.zeroCells zv.cells m ++ Builtin.zeroCells zv.cells (c - m)
  have harr : arr.size = c * f.size := by
    have h0 : (#[] : Array Value).size = 0 := rfl
    simp only [arr, Array.size_append, zeroCells_size, hzv, h0, Nat.zero_add]
    rw [← Nat.add_mul]; congr 1; omega
  have hd' := ho.drew
  have hid' : E.drew.H[id]? = some .unborn ∨ ∃ n0, E.drew.H[id]? = some (.buf n0 f.size) ∧ n0 < 0 := .inl hid
  have hle' := Env.newBuf_le (E := E.drew) hd' (n := 0) (sz := f.size) hid' arr e 0
  have hok' := Env.Ok.newBuf (E := E.drew) hd' (n := 0) (sz := f.size) hid' arr e 0
  have hlen := tok_len (E := E.drew) (n := 0) hid'
  have hle := E.drew_le.trans hle'
  generalize hE' : E.drew.newBuf id 0 f.size arr e 0 = E' at hle' hok' hle
  have hH' : E'.H = E.H.set id (.buf 0 f.size) := by rw [← hE']; rfl
  have run1 : (execOp a.eval o1).run P E.w = .ok (.value (.slice (some ⟨E.w.heap.size, 0, none⟩) m c)) E'.w := by
    unfold execOp
    rw [p1]
    simp only
    refine (run_builtin (c := ⟨.builtin .append, #[.tmp x, .tmp y], #[t, u]⟩) (a := a) (E := E) (P := P) (xs := [.tmp x, .tmp y]) (ts := [t, u]) (ty := o1.type) rfl rfl rfl (s := Builtin.append_ #[t, u] o1.type #[a.eval (.tmp x), a.eval (.tmp y)]) rfl).trans ?_
    have hc6' : (choose (.appendCap m 0 e)).run P E.w = .ok c E.drew.w := hc6
    have n0 : ¬ (m : Int) < 0 := by omega
    have n1 : ¬ (m : Int) * f.bytes > 2 ^ 48 := by omega
    have n2 : ¬ m ≤ 0 := by omega
    have n3 : ¬ ((m : Nat) : Int) > IntKind.i64.max := by
      have e1 : IntKind.i64.max = 9223372036854775807 := by decide
      have e2 : maxLen = 9223372036854775807 := by decide
      rw [e1]; omega
    have n4 : ¬ Builtin.nextslicecap m 0 * f.bytes > 2 ^ 48 := by
      have := nextslicecap_le m 0 (by omega)
      have := Nat.mul_le_mul_right f.bytes this
      rw [Nat.mul_assoc] at this
      have hb : m * f.bytes ≤ 2 ^ 47 := by exact_mod_cast hnb
      omega
    have n5 : ¬ m * f.size = 0 := by
      intro h0
      rcases Nat.mul_eq_zero.1 h0 with h0 | h0 <;> omega
    have hfirst : (Builtin.firstCells f.size 0 (.slice adx 0 0)).run P E.drew.w = .ok #[] E.drew.w := by
      cases adx <;> simp only [Builtin.firstCells, Nat.zero_mul, loadCells, loadCellsFrom, Sem.run_pure]
    have hai : (asInt (.int .i64 (m : Int))).run P E.w = .ok (m : Int) E.w := rfl
    simp only [Builtin.append_, List.getElem?_toArray, List.getElem?_cons_zero, List.getElem?_cons_succ, Sem.run_bind, run_under h1, run_size h4, run_under hue, Result.andThen_ok, Sem.run_pure, vx', vy', hai, hw, n0, n1, n2, n3, n4, n5, if_true, if_false, run_tinfo h4,
      Int.toNat_natCast, Nat.zero_add, Bool.not_true, Bool.false_eq_true, run_zero h4 h6, hc6', run_ask, hfirst, Go.newRow, run_newObj, false_and]
    rw [← hE']
    rfl
  have hb : E'.tb id = some E.w.heap.size := by rw [← hE']; simp [Env.newBuf, Env.drew]
  have hk : E'.κ E.w.heap.size = .buf 0 arr.size := by rw [← hE']; simp only [Env.newBuf]; exact if_pos rfl
  have rel0 : VRel E'.view (.slice (some ⟨E.w.heap.size, 0, none⟩) 0 c) (.slice [] (.tok id)) := by
    refine .slice _ 0 c f.size [] _ (fun _ _ => undef) rfl (Nat.zero_le _) hcm (fun i h => absurd h (by simp)) (fun i j h => absurd h (by omega)) (fun i j h => absurd h (by simp)) ⟨⟨.buf 0 f.size, by rw [hH']; exact List.getElem?_set_self hlen, by simp⟩, fun t' ht' => ?_⟩
    have hg : E'.H[id]? = some (.buf 0 f.size) := by rw [hH']; exact List.getElem?_set_self hlen
    simp only [Env.view, hg, hb, hk, Option.bind_some, Option.some.injEq] at ht'
    subst ht'
    refine ⟨Nat.le_refl _, fun _ => .inr ⟨E.w.heap.size, 0, arr.size, 0, rfl, rfl, by simp, by rw [harr]; simp⟩⟩
  refine wpList_cons (wanted_none g1) ?_
  unfold Oper.wp
  rw [run1]
  show wpList P ops _ _ (a.put o1.dst _) E'.w
  rw [e1]
  have ht1 : TRel E'.view N (a.put (some d1) (.slice (some ⟨E.w.heap.size, 0, none⟩) m c)) (upd T d1 .junk) := (ht.mono hle.view).put (some d1) (.junk _)
  obtain ⟨E2, v2, r2, le2, ok2, hH2, rel2⟩ := aop_sound (o := o2) (P := P) hok' ht1 (by rw [p2]; simp [okOp, Op.operands, okOpnd, q7]) (mt := false) (fresh := 0) (v := .slice [] .full) (eff := none) (by rw [p2]; simp only [aop, aev, upd, if_neg q4, hs]) (by intro ob h; cases h)
  have ht2 := ((ht1.mono le2.view).put (some d2) rel2)
  obtain ⟨E3, v3, r3, le3, ok3, hH3, rel3⟩ := aop_sound (o := o3) (P := P) ok2 ht2 (by rw [p3]; simp [okOp, Op.operands, Call.operands, okOpnd, q9]) (mt := false) (fresh := 0) (v := .int .i64 0) (eff := none) (by rw [p3]; simp [aop, abuiltin, aev, updO, upd, hte]) (by intro ob h; cases h)
  have ht3 := ((ht2.mono le3.view).put (some d3) rel3)
  have key : ∀ (o : Oper) (E1 E2 : Env) (a : Act) (v : Value) (d : Nat) (l : List Oper) (Q2 : Exit → Act → World → Prop), o.guard = none → o.dst = some d → ((execOp a.eval o).run P E1.w = .ok (.value v) E2.w ∨ ((execOp a.eval o).run P E1.w = .ok .skip E2.w ∧ v = undef)) → wpList P ops Q2 l (a.put (some d) v) E2.w → wpList P ops Q2 (o :: l) a E1.w := by
    intro o E1 E2 a v d l Q2 hg hd hr hn
    refine wpList_cons (wanted_none hg) ?_
    unfold Oper.wp
    rcases hr with hr | ⟨hr, rfl⟩
    · rw [hr]; show wpList P ops _ _ (a.put o.dst _) _; rw [hd]; exact hn
    · rw [hr]; show wpList P ops _ _ (a.put o.dst _) _; rw [hd]; exact hn
  refine key o2 E' E2 _ v2 d2 _ _ g2 e2 r2 ?_
  refine key o3 E2 E3 _ v3 d3 _ _ g3 e3 r3 ?_
  have hv3 : v3 = .int .i64 0 := rel3.int_inv
  have hsz3 := ht3.size
  have gd1 : ∀ (b : Act) (d : Nat) (v : Value), d < b.tmps.size → (b.put (some d) v).tmps.getD d undef = v := fun b d v h => by
    simp only [Act.put]
    rw [Array.getD_eq_getD_getElem?, Array.getElem?_setIfInBounds_self_of_lt h]; rfl
  have gd2 : ∀ (b : Act) (d d' : Nat) (v : Value), d ≠ d' → (b.put (some d) v).tmps.getD d' undef = b.tmps.getD d' undef := fun b d d' v h => by
    simp only [Act.put]
    rw [Array.getD_eq_getD_getElem?, Array.getElem?_setIfInBounds_ne h, ← Array.getD_eq_getD_getElem?]
  have run4 : (execOp (Act.eval (((a.put (some d1) (.slice (some ⟨E.w.heap.size, 0, none⟩) m c)).put (some d2) v2).put (some d3) v3)) o4).run P E3.w = .ok (.value (.slice (some ⟨E.w.heap.size, 0, none⟩) 0 c)) E3.w := by
    unfold execOp
    rw [p4]
    have f1 : (((a.put (some d1) (.slice (some ⟨E.w.heap.size, 0, none⟩) m c)).put (some d2) v2).put (some d3) v3).eval (.tmp d1) = .slice (some ⟨E.w.heap.size, 0, none⟩) m c := by
      show Array.getD _ d1 undef = _
      rw [gd2 _ _ _ _ (Ne.symm q2), gd2 _ _ _ _ (Ne.symm q1), gd1 _ _ _ (by rw [ht.size]; exact q8)]
    have f2 : (((a.put (some d1) (.slice (some ⟨E.w.heap.size, 0, none⟩) m c)).put (some d2) v2).put (some d3) v3).eval (.tmp d3) = .int .i64 0 := by
      show Array.getD _ d3 undef = _
      rw [gd1 _ _ _ (by rw [ht2.size]; exact q10), hv3]
    simp only [Option.map_none, Option.map_some, f1, f2]
    have hb0 : (Instr.sliceBounds true m c none (some (.int .i64 0)) none).run P E3.w = .ok (0, 0, c) E3.w := by
      simp [Instr.sliceBounds, Instr.sliceBound, asInt, asIntOf, Sem.run_bind]
    simp only [Instr.sliceAt, Instr.slice, Sem.run_bind, run_under h1, Result.andThen_ok, hb0, run_size h4, Sem.run_pure, Nat.sub_zero, Nat.sub_self]
    have ha0 : ∀ ad : Addr, ad.add 0 = ad := add_zero'
    split <;> simp [ha0]
  refine key o4 E3 E3 _ _ d4 _ _ g4 e4 (.inl run4) ?_
  have ht4 := ht3.put (some d4) ((rel0.mono le2.view).mono le3.view)
  have hfin := h E3 _ ok3 (by rw [hH3, hH2]; exact hH') ht4
  exact wpList_mono (fun e a w hl => lift_mono (((hle.trans le2).trans le3).leN nb) (fun _ _ _ q => q) hl) l _ _ hfin
end
end Go.Abs
namespace Go.Abs
section
variable {P : Program} {N nb : Nat} {ops : Array Oper} {Q : Post}
/-- An append to an empty slice without room: what it makes is taken as a row that may change. -/
theorem aops_appendM {o : Oper} {l : List Oper} {T : Slots} {H : Heap} {x y : Operand} {t u : TypeId} {ei : TypeId × TI} {z : PV} {xs : List PV} {tl : Tail} (id : Nat) (hid : H[id]? = some .unborn) (hw : awanted ops.toList T N o = some true)
    (hop : o.op = .call ⟨.builtin .append, #[x, y], #[t, u]⟩) (okx : okOpnd N x = true) (oky : okOpnd N y = true) (hx : aev T x = .slice [] .full) (hy : aev T y = .slice xs tl) (hne : xs ≠ [])
    (hb : xs.length * ei.2.bytes ≤ 2 ^ 47) (hm : xs.length ≤ maxLen) (hxs : ∀ e ∈ xs, e.cells.length = ei.2.sz) (hsz : 0 < ei.2.sz)
    (hte : telem P t = some ei) (htu : (telem P u).isSome = true) (hz : tzero P ei.1 = some z) (hzf : z.fits ei.2 = true)
    (h : ∀ (c : Nat) (rest : List PV), xs.length ≤ c → c ≤ maxLen → rest = (List.replicate (c - xs.length) z.cells).flatten → AOps P N nb ops Q l (updO T o.dst (.msl id 0 xs.length c)) (H.set id (.row (flatE xs ++ rest)))) : AOps P N nb ops Q (o :: l) T H := by
  intro E a ho hH ht
  subst hH
  obtain ⟨e, i⟩ := ei
  obtain ⟨h1, h2⟩ := telem_some hte
  obtain ⟨dd, f, h3, h4, rfl⟩ := tinfo_some h2
  obtain ⟨f', zv, h5, h6, rfl⟩ := tzero_some hz
  simp only at h5 hzf hb hxs hsz
  rw [h4] at h5; cases h5
  obtain ⟨hzs, hzj⟩ := PV.fits_spec hzf
  simp only at hzs
  obtain ⟨zc1, zc2⟩ := (vrel_ofConst E.view zv).not_junk_cells hzj
  have hzv : zv.cells.size = f.size := zc1.trans hzs
  obtain ⟨eu, hue⟩ := telem_isSome htu
  have hvx := vrel_eval ht x okx
  have hvy := vrel_eval ht y oky
  rw [hx] at hvx; rw [hy] at hvy
  obtain ⟨adx, vx⟩ : ∃ ad, a.eval x = .slice ad 0 0 := by
    generalize a.eval x = w at hvx
    cases hvx with
    | nils _ _ => exact ⟨none, rfl⟩
    | slice ad len cap sz _ _ vs hlen hcap hmax hsz' hc hr ht =>
      have : cap = len := ht
      subst this; simp at hlen; subst hlen; exact ⟨some ad, rfl⟩
  have em : maxLen = 9223372036854775807 := by decide
  have hxl : 0 < xs.length := List.length_pos_iff.2 hne
  obtain ⟨c, hc6, hc7, hc8⟩ := run_choose_cap (P := P) (w := E.w) xs.length 0 e
  have hcm : c ≤ maxLen := by
    have := hc8 (by have e2 : maxLen = 2 ^ 63 - 1 := rfl; omega)
    have e2 : maxLen = 2 ^ 63 - 1 := rfl
    omega
  have hd := ho.drew
  obtain ⟨arrx, r1, r2, ady, capy, vy, hcy1, hcy2, _⟩ := run_first (P := P) (E := E.drew) hvy hxs
  have hxsz : arrx.size = xs.length * f.size := by rw [r2.1, flatE_length xs hxs]
  have hzl := rl_zero (V := E.view) zv hzj (c - xs.length)
  have hzl2 : RL E.view (Builtin.zeroCells zv.cells (c - xs.length)) ((List.replicate (c - xs.length) (ofConst zv).cells).flatten) := by
    have := hzl
    rw [flatE_replicate] at this
    exact this
  let arr : Array Value := #[] ++ arrx ++ Builtin.zeroCells zv.cells (c - xs.length)
  have hrl : RL E.drew.view arr (flatE xs ++ (List.replicate (c - xs.length) (ofConst zv).cells).flatten) := by
    have := rl_append (V := E.drew.view) (a1 := arrx) (c1 := flatE xs) r2 hzl2
    simpa [arr] using this
  have hle' := Env.newRow_le (E := E.drew) hd (id := id) hid arr e (flatE xs ++ (List.replicate (c - xs.length) (ofConst zv).cells).flatten)
  have hok' := Env.Ok.newRow (E := E.drew) hd (id := id) hid arr e (flatE xs ++ (List.replicate (c - xs.length) (ofConst zv).cells).flatten) hrl.1 hrl.2
  have hlen := len_of_get hid
  have run1 : (execOp a.eval o).run P E.w = .ok (.value (.slice (some ⟨E.w.heap.size, 0, none⟩) xs.length c)) (E.drew.newRow id arr e (flatE xs ++ (List.replicate (c - xs.length) (ofConst zv).cells).flatten)).w := by
    unfold execOp
    rw [hop]
    simp only
    refine (run_builtin (c := ⟨.builtin .append, #[x, y], #[t, u]⟩) (a := a) (E := E) (P := P) (xs := [x, y]) (ts := [t, u]) (ty := o.type) rfl rfl rfl (s := Builtin.append_ #[t, u] o.type #[a.eval x, a.eval y]) rfl).trans ?_
    have hc6' : (choose (.appendCap xs.length 0 e)).run P E.w = .ok c E.drew.w := hc6
    have n2 : ¬ xs.length ≤ 0 := by omega
    have n3 : ¬ ((xs.length : Nat) : Int) > IntKind.i64.max := by
      have e1 : IntKind.i64.max = 9223372036854775807 := by decide
      rw [e1]; omega
    have n4 : ¬ Builtin.nextslicecap xs.length 0 * f.bytes > 2 ^ 48 := by
      have := nextslicecap_le xs.length 0 (by omega)
      have := Nat.mul_le_mul_right f.bytes this
      rw [Nat.mul_assoc] at this
      omega
    have hfirst : (Builtin.firstCells f.size 0 (.slice adx 0 0)).run P E.drew.w = .ok #[] E.drew.w := by
      cases adx <;> simp only [Builtin.firstCells, Nat.zero_mul, loadCells, loadCellsFrom, Sem.run_pure]
    have r1' : (Builtin.firstCells f.size xs.length (.slice ady xs.length capy)).run P E.drew.w = .ok arrx E.drew.w := by rw [← vy]; exact r1
    simp only [Builtin.append_, List.getElem?_toArray, List.getElem?_cons_zero, List.getElem?_cons_succ, Sem.run_bind, run_under h1, run_size h4, run_under hue, Result.andThen_ok, Sem.run_pure, vx, vy, Builtin.lenOf, n2, n3, n4, if_true, if_false, run_tinfo h4,
      Nat.zero_add, Bool.not_false, Bool.false_eq_true, run_zero h4 h6, hc6', run_ask, hfirst, r1', Go.newRow, run_newObj, false_and]
    rfl
  have hv : VRel (E.drew.newRow id arr e (flatE xs ++ (List.replicate (c - xs.length) (ofConst zv).cells).flatten)).view (.slice (some ⟨E.w.heap.size, 0, none⟩) xs.length c) (.msl id 0 xs.length c) := by
    have := VRel.msl (V := (E.drew.newRow id arr e (flatE xs ++ (List.replicate (c - xs.length) (ofConst zv).cells).flatten)).view) id 0 xs.length c
      ⟨.row _, by simp only [Env.newRow]; exact List.getElem?_set_self (len_of_get hid), by simp⟩ hcm
    simpa [Env.view, Env.newRow, Env.drew] using this
  refine wpList_cons (awanted_sound ht hw) ?_
  unfold Oper.wp
  rw [run1]
  show wpList P ops _ _ (a.put o.dst _) _
  have hn := h c _ hc7 hcm rfl _ _ hok' rfl ((ht.mono (E.drew_le.trans hle').view).put o.dst hv)
  exact wpList_mono (fun e a w hl => lift_mono ((E.drew_le.trans hle').leN nb) (fun _ _ _ q => q) hl) l _ _ hn
end
end Go.Abs
namespace Go.Abs
def Ty.zero : Ty := .mk 0 0 []
abbrev MSt := List Ty × List Bool
/-- The arguments, one behind the other. -/
def matchL : List (Ty × (Ty → MSt → Bool × MSt)) → MSt → Bool × MSt
  | [], s => (true, s)
  | (a, f) :: r, s => if (f a s).1 then matchL r (f a s).2 else (false, (f a s).2)
/-- What the matcher does. -/
def matchT (ps : List Int) (t : Ty) : Ty → MSt → Bool × MSt
  | .mk pk pi us, s =>
    if (decide (pk = 2) && decide (idxI (fun x => decide (pi = x)) ps ≥ 0)) = true then
      if s.2.getD (idxI (fun x => decide (pi = x)) ps).toNat false = true then ((s.1.getD (idxI (fun x => decide (pi = x)) ps).toNat .zero).eqb t, s)
      else (true, s.1.set (idxI (fun x => decide (pi = x)) ps).toNat t, s.2.set (idxI (fun x => decide (pi = x)) ps).toNat true)
    else if (!decide (t.kind = pk) || !decide (t.id = pi) || !decide ((t.args.length : Int) = us.length)) = true then (false, s)
    else matchL (t.args.zip (us.map fun u => fun a s => matchT ps a u s)) s
theorem matchT_eq (ps : List Int) (t p : Ty) (s : MSt) : matchT ps t p s =
    if (decide (p.kind = 2) && decide (idxI (fun x => decide (p.id = x)) ps ≥ 0)) = true then
      if s.2.getD (idxI (fun x => decide (p.id = x)) ps).toNat false = true then ((s.1.getD (idxI (fun x => decide (p.id = x)) ps).toNat .zero).eqb t, s)
      else (true, s.1.set (idxI (fun x => decide (p.id = x)) ps).toNat t, s.2.set (idxI (fun x => decide (p.id = x)) ps).toNat true)
    else if (!decide (t.kind = p.kind) || !decide (t.id = p.id) || !decide ((t.args.length : Int) = p.args.length)) = true then (false, s)
    else matchL (t.args.zip (p.args.map fun u => fun a s => matchT ps a u s)) s := by
  cases p; rw [matchT]; rfl

/-- What the state keeps. -/
structure MOk (n : Nat) (s : MSt) : Prop where
  l1 : s.1.length = n
  l2 : s.2.length = n
  w : ∀ a ∈ s.1, a.W

theorem idxI_lt {α : Type} {p : α → Bool} {xs : List α} (h : idxI p xs ≥ 0) : idxI p xs < xs.length := by
  unfold idxI at h ⊢
  cases hq : xs.findIdx? p with
  | none => rw [hq] at h; simp at h
  | some i =>
    obtain ⟨hi, _⟩ := List.findIdx?_eq_some_iff_getElem.1 hq
    simp only; omega

theorem matchL_ok {n : Nat} : ∀ (l : List (Ty × (Ty → MSt → Bool × MSt))) (s : MSt), MOk n s → (∀ x ∈ l, ∀ s, MOk n s → MOk n (x.2 x.1 s).2) → MOk n (matchL l s).2
  | [], s, h, _ => h
  | (a, f) :: r, s, h, hl => by
    have h1 := hl _ (List.mem_cons_self ..) s h
    unfold matchL
    split
    · exact matchL_ok r _ h1 (fun x hx => hl x (List.mem_cons_of_mem _ hx))
    · exact h1

theorem matchT_ok (ps : List Int) : ∀ (p t : Ty) (s : MSt), t.W → MOk ps.length s → MOk ps.length (matchT ps t p s).2
  | .mk pk pi us, t, s, hw, h => by
    rw [matchT]
    split
    · split
      · exact h
      · rename_i hb
        refine ⟨by simp [h.l1], by simp [h.l2], fun a ha => ?_⟩
        rcases List.mem_or_eq_of_mem_set ha with h' | h'
        · exact h.w a h'
        · exact h' ▸ hw
    · split
      · exact h
      · refine matchL_ok _ _ h ?_
        rintro ⟨a, f⟩ hx s hs
        have hx1 := List.of_mem_zip hx
        obtain ⟨u, hu, rfl⟩ := List.mem_map.1 hx1.2
        exact matchT_ok ps u a s (hw.arg hx1.1) hs
end Go.Abs
namespace Go.Abs
def mH (H : Heap) (ia ib : Nat) (s : MSt) : Heap := (H.set ia (.row (flatE (s.1.map Ty.enc)))).set ib (.row (s.2.map PV.bool))
theorem mH_len (H : Heap) (ia ib : Nat) (s : MSt) : (mH H ia ib s).length = H.length := by simp [mH]
theorem mH_rules {H : Heap} {im ia ib : Nat} {R : AObj} (hia : ia < H.length) (hib : ib < H.length) (h1 : ia ≠ ib) (h2 : im ≠ ia) (h3 : im ≠ ib) (hR : H[im]? = some R) :
    (∀ s L, (mH H ia ib s ++ L)[im]? = some R) ∧ (∀ s L, (mH H ia ib s ++ L)[ia]? = some (.row (flatE (s.1.map Ty.enc)))) ∧ (∀ s L, (mH H ia ib s ++ L)[ib]? = some (.row (s.2.map PV.bool))) ∧
    (∀ s L xs, (mH H ia ib s ++ L).set ia (.row (flatE (List.map Ty.enc xs))) = mH H ia ib (xs, s.2) ++ L) ∧ (∀ s L bs, (mH H ia ib s ++ L).set ib (.row (List.map PV.bool bs)) = mH H ia ib (s.1, bs) ++ L) ∧
    (∀ s L k, (mH H ia ib s ++ L)[H.length + k]? = L[k]?) ∧ (∀ s L, (mH H ia ib s ++ L)[H.length]? = L[0]?) ∧ (∀ s L k o, (mH H ia ib s ++ L).set (H.length + k) o = mH H ia ib s ++ L.set k o) ∧ (∀ s L o, (mH H ia ib s ++ L).set H.length o = mH H ia ib s ++ L.set 0 o) ∧
    (∀ s, (mH H ia ib s).length = H.length) := by
  have hm := len_of_get hR
  have get : ∀ s L k, k < H.length → (mH H ia ib s ++ L)[k]? = (mH H ia ib s)[k]? := fun s L k hk => List.getElem?_append_left (by rw [mH_len]; exact hk)
  refine ⟨fun s L => ?_, fun s L => ?_, fun s L => ?_, fun s L xs => ?_, fun s L bs => ?_, fun s L k => ?_, fun s L => ?_, fun s L k o => ?_, fun s L o => ?_, fun s => mH_len ..⟩
  · rw [get _ _ _ hm]; simp only [mH]; rw [List.getElem?_set_ne (Ne.symm h3), List.getElem?_set_ne (Ne.symm h2)]; exact hR
  · rw [get _ _ _ hia]; simp only [mH]; rw [List.getElem?_set_ne (Ne.symm h1), List.getElem?_set_self hia]
  · rw [get _ _ _ hib]; simp only [mH]; rw [List.getElem?_set_self (by simpa using hib)]
  · rw [List.set_append_left _ _ (by rw [mH_len]; exact hia)]; simp only [mH]; rw [List.set_comm _ _ (Ne.symm h1), List.set_set]
  · rw [List.set_append_left _ _ (by rw [mH_len]; exact hib)]; simp only [mH]; rw [List.set_set]
  · have := get_app (mH H ia ib s) L k; rwa [mH_len] at this
  · have := get_app0 (mH H ia ib s) L; rwa [mH_len] at this
  · have := set_app (mH H ia ib s) L k o; rwa [mH_len] at this
  · have := set_app0 (mH H ia ib s) L o; rwa [mH_len] at this
theorem mH_self {H : Heap} {ia ib : Nat} {s : MSt} (h1 : H[ia]? = some (.row (flatE (s.1.map Ty.enc)))) (h2 : H[ib]? = some (.row (s.2.map PV.bool))) : mH H ia ib s = H := by
  unfold mH; rw [list_set_self h1, list_set_self h2]
theorem mH_bel {H : Heap} {ia ib : Nat} {s s' : MSt} (hb : HBel H.length (mH H ia ib s)) (hia : ia < H.length) (hib : ib < H.length) (h1 : ia ≠ ib) : HBel H.length (mH H ia ib s') := by
  intro o ho
  obtain ⟨k, hk⟩ := List.mem_iff_getElem?.1 ho
  simp only [mH] at hk
  by_cases e1 : k = ib
  · subst e1
    rw [List.getElem?_set_self (by simpa using hib)] at hk
    cases hk
    intro c hc
    obtain ⟨b, _, rfl⟩ := List.mem_map.1 hc
    exact .bool _
  · rw [List.getElem?_set_ne (Ne.symm e1)] at hk
    by_cases e2 : k = ia
    · subst e2
      rw [List.getElem?_set_self hia] at hk
      cases hk
      intro c hc
      obtain ⟨l, hl, hc⟩ := List.mem_flatten.1 hc
      obtain ⟨e, he, rfl⟩ := List.mem_map.1 hl
      obtain ⟨t, _, rfl⟩ := List.mem_map.1 he
      rw [Ty.enc_cells] at hc
      simp at hc
      rcases hc with rfl | rfl | rfl
      · exact .int _ _
      · exact .int _ _
      · exact bel_slice_ty _ _
    · rw [List.getElem?_set_ne (Ne.symm e2)] at hk
      refine hb o (List.mem_iff_getElem?.2 ⟨k, ?_⟩)
      simp only [mH]
      rw [List.getElem?_set_ne (Ne.symm e1), List.getElem?_set_ne (Ne.symm e2)]; exact hk
end Go.Abs
namespace Go.Abs
theorem Ty.W_iff (k i : Int) (us : List Ty) : (Ty.mk k i us).W ↔ us.length * 40 ≤ 2 ^ 47 ∧ ∀ u ∈ us, u.W := ⟨fun h => by cases h with | mk h1 h2 => exact ⟨h1, h2⟩, fun h => .mk h.1 h.2⟩
theorem Ty.eqb_self (a : Ty) : a.eqb a = true := (Ty.eqb_iff a a).2 rfl
end Go.Abs
set_option maxRecDepth 4000
namespace Go.Abs
/-- api.SyntaxTree, as data. -/
inductive St where
  | mk (kind : Int) (text : List UInt8) (ch : List (St))
def St.kind : St → Int | .mk x0 _ _ => x0
def St.text : St → List UInt8 | .mk _ x1 _ => x1
def St.ch : St → List (St) | .mk _ _ x2 => x2
mutual
def St.enc : St → PV
  | .mk x0 x1 x2 => .agg [.int .i64 x0, .str x1, .slice (stEncs x2) .none]
def stEncs : List St → List PV
  | [] => []
  | t :: ts => t.enc :: stEncs ts
end
theorem stEncs_eq (ts : List St) : stEncs ts = ts.map St.enc := by
  induction ts with
  | nil => rfl
  | cons t ts ih => simp [stEncs, ih]
theorem St.enc_eq (t : St) : t.enc = .agg [.int .i64 t.kind, .str t.text, .slice (t.ch.map St.enc) .none] := by
  cases t; simp [St.enc, stEncs_eq, St.kind, St.text, St.ch]
theorem St.enc_cells (t : St) : t.enc.cells = [.int .i64 t.kind, .str t.text, .slice (t.ch.map St.enc) .none] := by
  rw [St.enc_eq]; rfl
theorem St.eta (t : St) : St.mk t.kind t.text t.ch = t := by cases t; rfl
theorem St.enc_drop1 (t : St) : t.enc.drop1 = t.enc := by rw [St.enc_eq]; rfl
theorem St.enc_drop0 (t : St) : t.enc.drop0 = t.enc := by rw [St.enc_eq]; rfl
theorem St.enc_len (t : St) : t.enc.cells.length = 3 := by rw [St.enc_cells]; rfl
theorem St.enc_junk (t : St) : t.enc.isJunk = false := by rw [St.enc_eq]; rfl
theorem St.enc_agg (t : St) : PV.agg t.enc.cells = t.enc := by rw [St.enc_cells, St.enc_eq]
mutual
theorem St.bel (n : Nat) : ∀ t : St, Bel n t.enc
  | .mk x0 x1 x2 => .agg _ (by
      intro c hc
      simp only [List.mem_cons, List.not_mem_nil, or_false] at hc
      rcases hc with rfl | rfl | rfl
      · exact .int _ _
      · exact .str _
      · exact .slice _ _ (stEncsBel n x2) (fun id h => by cases h))
theorem stEncsBel (n : Nat) : ∀ ts : List St, ∀ e ∈ stEncs ts, ∀ c ∈ e.cells, Bel n c
  | [] => fun e he => by simp [stEncs] at he
  | t :: ts => fun e he c hc => by
    simp only [stEncs, List.mem_cons] at he
    rcases he with rfl | he
    · have h := St.bel n t
      rw [St.enc_eq] at h hc
      cases h with
      | agg _ q => exact q c hc
    · exact stEncsBel n ts e he c hc
end
theorem bel_St (n : Nat) (ts : List St) : Bel n (.slice (ts.map St.enc) .none) := by
  rw [← stEncs_eq]; exact .slice _ _ (stEncsBel n ts) (fun id h => by cases h)
mutual
def St.size : St → Nat
  | .mk _ _ x2 => 1 + stSizes x2
def stSizes : List St → Nat
  | [] => 0
  | t :: ts => t.size + stSizes ts
end
theorem stSizes_mem {u : St} : ∀ {us : List St}, u ∈ us → u.size ≤ stSizes us
  | [], h => by cases h
  | v :: us, h => by
    simp only [stSizes]
    rcases List.mem_cons.1 h with rfl | h
    · omega
    · have := stSizes_mem h; omega
theorem St.size_ch {t u : St} (h : u ∈ t.ch) : u.size < t.size := by
  cases t with
  | mk x0 x1 x2 => have := stSizes_mem (us := x2) h; simp only [St.size]; omega
theorem bel_St_tok {n id : Nat} (us : List St) (h : id < n) : Bel n (.slice (us.map St.enc) (.tok id)) := by
  have := bel_St n us
  cases this with
  | slice _ _ h1 h2 => exact .slice _ _ h1 (fun _ e => by cases e; exact h)
/-- Rules. -/
theorem StS : (∀ t : St, t.enc.cells = [.int .i64 t.kind, .str t.text, .slice (t.ch.map St.enc) .none]) ∧ (∀ t : St, t.enc.isJunk = false) ∧ (∀ t : St, t.enc.drop1 = t.enc) ∧ (∀ t : St, t.enc.drop0 = t.enc) ∧ (∀ (t : St) (b : Nat), t.enc.fits ⟨true, 3, b⟩ = true) :=
  ⟨St.enc_cells, St.enc_junk, St.enc_drop1, St.enc_drop0, fun t b => by rw [St.enc_eq]; rfl⟩
theorem StF : (∀ (kind : Int) (text : List UInt8) (ch : List (St)), PV.agg [.int .i64 kind, .str text, .slice (ch.map St.enc) .none] = (St.mk kind text ch).enc) ∧
    (∀ (kind : Int) (text : List UInt8), PV.agg [.int .i64 kind, .str text, .slice [] .none] = (St.mk kind text []).enc) ∧
    (∀ t : St, St.mk t.kind t.text t.ch = t) ∧
    (∀ (kind : Int) (text : List UInt8) (ch : List (St)), (St.mk kind text ch).kind = kind) ∧
    (∀ (kind : Int) (text : List UInt8) (ch : List (St)), (St.mk kind text ch).text = text) ∧
    (∀ (kind : Int) (text : List UInt8) (ch : List (St)), (St.mk kind text ch).ch = ch) :=
  ⟨fun kind text ch => (St.enc_eq (St.mk kind text ch)).symm, fun kind text => (St.enc_eq (St.mk kind text [])).symm, St.eta, fun _ _ _ => rfl, fun _ _ _ => rfl, fun _ _ _ => rfl⟩
/-- No list is longer than the rows bear. -/
inductive St.W : St → Prop
  | mk {kind : Int} {text : List UInt8} {ch : List (St)} (h0 : text.length ≤ 2 ^ 47) (h1 : ch.length * 48 ≤ 2 ^ 47) (kch : ∀ u ∈ ch, St.W u) : St.W (.mk kind text ch)
theorem St.W.w0 {t : St} (h : t.W) : t.text.length ≤ 2 ^ 47 := by cases h; assumption
theorem St.W.w1 {t : St} (h : t.W) : t.ch.length * 48 ≤ 2 ^ 47 := by cases h; assumption
theorem St.W.ch {t u : St} (h : t.W) (hu : u ∈ t.ch) : u.W := by cases h with | mk => exact (by assumption : ∀ u ∈ _, St.W u) u hu
theorem St.W_iff {kind : Int} {text : List UInt8} {ch : List (St)} : (St.mk kind text ch).W ↔ text.length ≤ 2 ^ 47 ∧ ch.length * 48 ≤ 2 ^ 47 ∧ (∀ u ∈ ch, u.W) := by
  constructor
  · intro h
    cases h
    simp_all
  · intro h
    constructor <;> simp_all
theorem St.W.len_ch {t : St} (h : t.W) : t.ch.length * 48 ≤ 2 ^ 47 := h.w1
theorem St.W.max_ch {t : St} (h : t.W) : t.ch.length ≤ maxLen := by
  have em : maxLen = 9223372036854775807 := by decide
  have := h.len_ch; rw [em]; omega
theorem app_St {us : List St} {u : St} {id : Nat} {tl : Tail} (hb : (us.length + 1) * 48 ≤ 2 ^ 47) (fresh : Nat) (H : Heap) (hH : H[id]? = some (.buf us.length 3)) :
    aappend ⟨true, 3, 48⟩ fresh H (.slice (us.map St.enc) (.tok id)) (.slice [u.enc] tl) = some (.slice ((us ++ [u]).map St.enc) (.tok id), some (id, .buf (us.length + 1) 3)) := by
  have hmx : maxLen = 9223372036854775807 := by decide
  rw [aappend_tok1 (n := us.length) hH (by simp) (by simpa using hb) (by simp; omega) (fun e he => by obtain ⟨v, _, rfl⟩ := List.mem_map.1 he; exact v.enc_len) u.enc_len (by rw [St.enc_cells]; rfl) (by decide)]
  simp
/-- api.GreenNode, as data. -/
structure Gn where
  kind : Int
  width : Int
  text : List UInt8
  ch : List (Int)
def Gn.enc (t : Gn) : PV := .agg [.int .i64 t.kind, .int .i64 t.width, .str t.text, .slice (t.ch.map vint) .none]
theorem Gn.enc_eq (t : Gn) : t.enc = .agg [.int .i64 t.kind, .int .i64 t.width, .str t.text, .slice (t.ch.map vint) .none] := rfl
theorem Gn.enc_cells (t : Gn) : t.enc.cells = [.int .i64 t.kind, .int .i64 t.width, .str t.text, .slice (t.ch.map vint) .none] := rfl
theorem Gn.eta (t : Gn) : Gn.mk t.kind t.width t.text t.ch = t := rfl
theorem Gn.enc_drop1 (t : Gn) : t.enc.drop1 = t.enc := by rw [Gn.enc_eq]; rfl
theorem Gn.enc_drop0 (t : Gn) : t.enc.drop0 = t.enc := by rw [Gn.enc_eq]; rfl
theorem Gn.enc_len (t : Gn) : t.enc.cells.length = 4 := by rw [Gn.enc_cells]; rfl
theorem Gn.enc_junk (t : Gn) : t.enc.isJunk = false := by rw [Gn.enc_eq]; rfl
theorem Gn.enc_agg (t : Gn) : PV.agg t.enc.cells = t.enc := by rw [Gn.enc_cells, Gn.enc_eq]
theorem Gn.bel (n : Nat) (t : Gn) : Bel n t.enc := .agg _ (by
  intro c hc
  simp only [List.mem_cons, List.not_mem_nil, or_false] at hc
  rcases hc with rfl | rfl | rfl | rfl
  · exact .int _ _
  · exact .int _ _
  · exact .str _
  · exact bel_ints0 _ _)
theorem bel_Gn (n : Nat) (us : List Gn) : Bel n (.slice (us.map Gn.enc) .none) := .slice _ _ (fun e he c hc => by
  obtain ⟨b, _, rfl⟩ := List.mem_map.1 he
  have := Gn.bel n b
  rw [Gn.enc_eq] at this hc
  cases this with | agg _ h => exact h c hc) (by simp)
theorem bel_Gn_tok {n id : Nat} (us : List Gn) (h : id < n) : Bel n (.slice (us.map Gn.enc) (.tok id)) := by
  have := bel_Gn n us
  cases this with
  | slice _ _ h1 h2 => exact .slice _ _ h1 (fun _ e => by cases e; exact h)
/-- Rules. -/
theorem GnS : (∀ t : Gn, t.enc.cells = [.int .i64 t.kind, .int .i64 t.width, .str t.text, .slice (t.ch.map vint) .none]) ∧ (∀ t : Gn, t.enc.isJunk = false) ∧ (∀ t : Gn, t.enc.drop1 = t.enc) ∧ (∀ t : Gn, t.enc.drop0 = t.enc) ∧ (∀ (t : Gn) (b : Nat), t.enc.fits ⟨true, 4, b⟩ = true) :=
  ⟨Gn.enc_cells, Gn.enc_junk, Gn.enc_drop1, Gn.enc_drop0, fun t b => by rw [Gn.enc_eq]; rfl⟩
theorem GnF : (∀ (kind : Int) (width : Int) (text : List UInt8) (ch : List (Int)), PV.agg [.int .i64 kind, .int .i64 width, .str text, .slice (ch.map vint) .none] = (Gn.mk kind width text ch).enc) ∧
    (∀ (kind : Int) (width : Int) (text : List UInt8), PV.agg [.int .i64 kind, .int .i64 width, .str text, .slice [] .none] = (Gn.mk kind width text []).enc) ∧
    (∀ t : Gn, Gn.mk t.kind t.width t.text t.ch = t) ∧
    (∀ (kind : Int) (width : Int) (text : List UInt8) (ch : List (Int)), (Gn.mk kind width text ch).kind = kind) ∧
    (∀ (kind : Int) (width : Int) (text : List UInt8) (ch : List (Int)), (Gn.mk kind width text ch).width = width) ∧
    (∀ (kind : Int) (width : Int) (text : List UInt8) (ch : List (Int)), (Gn.mk kind width text ch).text = text) ∧
    (∀ (kind : Int) (width : Int) (text : List UInt8) (ch : List (Int)), (Gn.mk kind width text ch).ch = ch) :=
  ⟨fun kind width text ch => (Gn.enc_eq (Gn.mk kind width text ch)).symm, fun kind width text => (Gn.enc_eq (Gn.mk kind width text [])).symm, Gn.eta, fun _ _ _ _ => rfl, fun _ _ _ _ => rfl, fun _ _ _ _ => rfl, fun _ _ _ _ => rfl⟩
/-- No list is longer than the rows bear. -/
def Gn.W (t : Gn) : Prop := t.text.length ≤ 2 ^ 47 ∧ t.ch.length * 8 ≤ 2 ^ 47
theorem Gn.W.len_ch {t : Gn} (h : t.W) : t.ch.length * 8 ≤ 2 ^ 47 := h.2
theorem Gn.W.max_ch {t : Gn} (h : t.W) : t.ch.length ≤ maxLen := by
  have em : maxLen = 9223372036854775807 := by decide
  have := h.len_ch; rw [em]; omega
theorem app_Gn {us : List Gn} {u : Gn} {id : Nat} {tl : Tail} (hb : (us.length + 1) * 56 ≤ 2 ^ 47) (fresh : Nat) (H : Heap) (hH : H[id]? = some (.buf us.length 4)) :
    aappend ⟨true, 4, 56⟩ fresh H (.slice (us.map Gn.enc) (.tok id)) (.slice [u.enc] tl) = some (.slice ((us ++ [u]).map Gn.enc) (.tok id), some (id, .buf (us.length + 1) 4)) := by
  have hmx : maxLen = 9223372036854775807 := by decide
  rw [aappend_tok1 (n := us.length) hH (by simp) (by simpa using hb) (by simp; omega) (fun e he => by obtain ⟨v, _, rfl⟩ := List.mem_map.1 he; exact v.enc_len) u.enc_len (by rw [Gn.enc_cells]; rfl) (by decide)]
  simp
/-- api.GreenArena, as data. -/
structure Ga where
  nodes : List (Gn)
def Ga.enc (t : Ga) : PV := .agg [.slice (t.nodes.map Gn.enc) .none]
theorem Ga.enc_eq (t : Ga) : t.enc = .agg [.slice (t.nodes.map Gn.enc) .none] := rfl
theorem Ga.enc_cells (t : Ga) : t.enc.cells = [.slice (t.nodes.map Gn.enc) .none] := rfl
theorem Ga.eta (t : Ga) : Ga.mk t.nodes = t := rfl
theorem Ga.enc_drop1 (t : Ga) : t.enc.drop1 = t.enc := by rw [Ga.enc_eq]; rfl
theorem Ga.enc_drop0 (t : Ga) : t.enc.drop0 = t.enc := by rw [Ga.enc_eq]; rfl
theorem Ga.enc_len (t : Ga) : t.enc.cells.length = 1 := by rw [Ga.enc_cells]; rfl
theorem Ga.enc_junk (t : Ga) : t.enc.isJunk = false := by rw [Ga.enc_eq]; rfl
theorem Ga.enc_agg (t : Ga) : PV.agg t.enc.cells = t.enc := by rw [Ga.enc_cells, Ga.enc_eq]
theorem Ga.bel (n : Nat) (t : Ga) : Bel n t.enc := .agg _ (by
  intro c hc
  simp only [List.mem_cons, List.not_mem_nil, or_false] at hc
  rcases hc with rfl
  · exact bel_Gn _ _)
theorem bel_Ga (n : Nat) (us : List Ga) : Bel n (.slice (us.map Ga.enc) .none) := .slice _ _ (fun e he c hc => by
  obtain ⟨b, _, rfl⟩ := List.mem_map.1 he
  have := Ga.bel n b
  rw [Ga.enc_eq] at this hc
  cases this with | agg _ h => exact h c hc) (by simp)
theorem bel_Ga_tok {n id : Nat} (us : List Ga) (h : id < n) : Bel n (.slice (us.map Ga.enc) (.tok id)) := by
  have := bel_Ga n us
  cases this with
  | slice _ _ h1 h2 => exact .slice _ _ h1 (fun _ e => by cases e; exact h)
/-- Rules. -/
theorem GaS : (∀ t : Ga, t.enc.cells = [.slice (t.nodes.map Gn.enc) .none]) ∧ (∀ t : Ga, t.enc.isJunk = false) ∧ (∀ t : Ga, t.enc.drop1 = t.enc) ∧ (∀ t : Ga, t.enc.drop0 = t.enc) ∧ (∀ (t : Ga) (b : Nat), t.enc.fits ⟨true, 1, b⟩ = true) :=
  ⟨Ga.enc_cells, Ga.enc_junk, Ga.enc_drop1, Ga.enc_drop0, fun t b => by rw [Ga.enc_eq]; rfl⟩
theorem GaF : (∀ (nodes : List (Gn)), PV.agg [.slice (nodes.map Gn.enc) .none] = (Ga.mk nodes).enc) ∧
    (PV.agg [.slice [] .none] = (Ga.mk []).enc) ∧
    (∀ t : Ga, Ga.mk t.nodes = t) ∧
    (∀ (nodes : List (Gn)), (Ga.mk nodes).nodes = nodes) :=
  ⟨fun nodes => (Ga.enc_eq (Ga.mk nodes)).symm, (Ga.enc_eq (Ga.mk [])).symm, Ga.eta, fun _ => rfl⟩
/-- No list is longer than the rows bear. -/
def Ga.W (t : Ga) : Prop := t.nodes.length * 56 ≤ 2 ^ 47 ∧ (∀ u ∈ t.nodes, u.W)
theorem Ga.W.len_nodes {t : Ga} (h : t.W) : t.nodes.length * 56 ≤ 2 ^ 47 := h.1
theorem Ga.W.max_nodes {t : Ga} (h : t.W) : t.nodes.length ≤ maxLen := by
  have em : maxLen = 9223372036854775807 := by decide
  have := h.len_nodes; rw [em]; omega
theorem Ga.W.el_nodes {t : Ga} (h : t.W) : ∀ u ∈ t.nodes, u.W := h.2
theorem app_Ga {us : List Ga} {u : Ga} {id : Nat} {tl : Tail} (hb : (us.length + 1) * 24 ≤ 2 ^ 47) (fresh : Nat) (H : Heap) (hH : H[id]? = some (.buf us.length 1)) :
    aappend ⟨true, 1, 24⟩ fresh H (.slice (us.map Ga.enc) (.tok id)) (.slice [u.enc] tl) = some (.slice ((us ++ [u]).map Ga.enc) (.tok id), some (id, .buf (us.length + 1) 1)) := by
  have hmx : maxLen = 9223372036854775807 := by decide
  rw [aappend_tok1 (n := us.length) hH (by simp) (by simpa using hb) (by simp; omega) (fun e he => by obtain ⟨v, _, rfl⟩ := List.mem_map.1 he; exact v.enc_len) u.enc_len (by rw [Ga.enc_cells]; rfl) (by decide)]
  simp
/-- Rules in one. -/
theorem qF : type_of% (And.intro @StS (And.intro @StF (And.intro @GnS (And.intro @GnF (And.intro @GaS (@GaF)))))) := And.intro @StS (And.intro @StF (And.intro @GnS (And.intro @GnF (And.intro @GaS (@GaF)))))
end Go.Abs
namespace Go.Abs
/-! The chapter 'greentree', over trees. -/
def St.zero : St := .mk 0 [] []
def Gn.zero : Gn := ⟨0, 0, [], []⟩
def gEq (a b : Gn) : Bool := decide (a.kind = b.kind) && (decide (a.width = b.width) && (decide (a.text = b.text) && decide (a.ch = b.ch)))
theorem gEq_self (a : Gn) : gEq a a = true := by simp [gEq]
def wd (ns : List Gn) (c : Int) : Int := (ns.getD c.toNat .zero).width
def widthG (ns : List Gn) (cs : List Int) (w : Int) : Int := cs.foldl (fun s c => IntKind.i64.wrap (s + wd ns c)) w
def badK (tok : Int) (k : Int) (nc : Nat) (tx : List UInt8) : Bool := (decide (k ≥ tok) && decide ((nc : Int) > 0)) || (!decide (k ≥ tok) && !decide (tx = []))
/-- A node at a place is as it should be. -/
def nodeOk (tok : Int) (ns : List Gn) (i : Nat) (n : Gn) : Bool :=
  n.ch.all (fun c => decide (0 ≤ c) && decide (c < i)) && (decide (n.width = widthG ns n.ch n.text.length) && (!badK tok n.kind n.ch.length n.text && !(ns.take i).any fun m => gEq m n))
def validG (tok : Int) (ns : List Gn) : Int := if (ns.length : Int) > 4000 then 2 else if (List.range ns.length).all (fun i => nodeOk tok ns i (ns.getD i .zero)) then 0 else 3
/-- A tree is as it should be. -/
def trV (tok : Int) : St → Bool
  | .mk k tx cs => !badK tok k cs.length tx && (cs.map fun c => trV tok c).all id
theorem trV_eq (tok : Int) (t : St) : trV tok t = (!badK tok t.kind t.ch.length t.text && t.ch.all (trV tok)) := by
  cases t; rw [trV, List.all_map]; rfl
/-- Inserting. -/
def insL : List (List Gn → List Gn × Int) → List Gn × List Int × Int → List Gn × List Int × Int
  | [], s => s
  | f :: fs, s => insL fs ((f s.1).1, s.2.1 ++ [(f s.1).2], IntKind.i64.wrap (s.2.2 + wd (f s.1).1 (f s.1).2))
def insN (k : Int) (tx : List UInt8) (s : List Gn × List Int × Int) : List Gn × Int :=
  if 0 ≤ idxI (fun m => gEq m ⟨k, s.2.2, tx, s.2.1⟩) s.1 then (s.1, idxI (fun m => gEq m ⟨k, s.2.2, tx, s.2.1⟩) s.1) else (s.1 ++ [⟨k, s.2.2, tx, s.2.1⟩], (s.1.length : Int))
def insT : St → List Gn → List Gn × Int
  | .mk k tx cs, ns => insN k tx (insL (cs.map fun c ns => insT c ns) (ns, [], (tx.length : Int)))
theorem insT_eq (t : St) (ns : List Gn) : insT t ns = insN t.kind t.text (insL (t.ch.map insT) (ns, [], (t.text.length : Int))) := by
  cases t; rw [insT]; rfl
theorem insL_snoc (f : List Gn → List Gn × Int) : ∀ (fs : List (List Gn → List Gn × Int)) (s : List Gn × List Int × Int), insL (fs ++ [f]) s =
    ((f (insL fs s).1).1, (insL fs s).2.1 ++ [(f (insL fs s).1).2], IntKind.i64.wrap ((insL fs s).2.2 + wd (f (insL fs s).1).1 (f (insL fs s).1).2))
  | [], s => rfl
  | g :: fs, s => by simp only [List.cons_append, insL]; exact insL_snoc f fs _
theorem insL_take {cs : List St} {j : Nat} (hj : j < cs.length) (s : List Gn × List Int × Int) : insL ((cs.take (j + 1)).map insT) s =
    ((insT cs[j] (insL ((cs.take j).map insT) s).1).1, (insL ((cs.take j).map insT) s).2.1 ++ [(insT cs[j] (insL ((cs.take j).map insT) s).1).2],
     IntKind.i64.wrap ((insL ((cs.take j).map insT) s).2.2 + wd (insT cs[j] (insL ((cs.take j).map insT) s).1).1 (insT cs[j] (insL ((cs.take j).map insT) s).1).2)) := by
  rw [List.take_succ_eq_append_getElem hj, List.map_append, List.map_singleton, insL_snoc]
/-- What inserting does to the lengths. -/
theorem insN_len (k : Int) (tx : List UInt8) (s : List Gn × List Int × Int) : s.1.length ≤ (insN k tx s).1.length ∧ (insN k tx s).1.length ≤ s.1.length + 1 ∧ 0 ≤ (insN k tx s).2 ∧ (insN k tx s).2 < (insN k tx s).1.length := by
  unfold insN
  split
  · rename_i h
    have := idxI_lt (p := fun m => gEq m ⟨k, s.2.2, tx, s.2.1⟩) (xs := s.1) (by omega)
    simp only; omega
  · simp only [List.length_append, List.length_singleton]; omega
theorem insL_len : ∀ (cs : List St), (∀ c ∈ cs, ∀ ns : List Gn, ns.length ≤ (insT c ns).1.length ∧ (insT c ns).1.length ≤ ns.length + c.size) → ∀ s : List Gn × List Int × Int,
    s.1.length ≤ (insL (cs.map insT) s).1.length ∧ (insL (cs.map insT) s).1.length ≤ s.1.length + stSizes cs ∧ (insL (cs.map insT) s).2.1.length = s.2.1.length + cs.length
  | [], _, s => by simp [insL, stSizes]
  | c :: cs, h, s => by
    have h1 := h c (List.mem_cons_self ..) s.1
    have h2 := insL_len cs (fun d hd => h d (List.mem_cons_of_mem _ hd)) ((insT c s.1).1, s.2.1 ++ [(insT c s.1).2], IntKind.i64.wrap (s.2.2 + wd (insT c s.1).1 (insT c s.1).2))
    simp only [List.map_cons, insL, stSizes, List.length_append, List.length_cons, List.length_nil] at h2 ⊢
    omega
theorem insT_len_k : ∀ (n : Nat) (t : St), t.size ≤ n → ∀ ns : List Gn, ns.length ≤ (insT t ns).1.length ∧ (insT t ns).1.length ≤ ns.length + t.size ∧ 0 ≤ (insT t ns).2 ∧ (insT t ns).2 < (insT t ns).1.length
  | 0, t, h => by cases t; simp [St.size] at h
  | n + 1, t, h => fun ns => by
    rw [insT_eq]
    have h1 := insN_len t.kind t.text (insL (t.ch.map insT) (ns, [], (t.text.length : Int)))
    have h2 := insL_len t.ch (fun c hc ns => by
      have := insT_len_k n c (by have := St.size_ch hc; omega) ns
      omega) (ns, [], (t.text.length : Int))
    have h3 : t.size = 1 + stSizes t.ch := by cases t; simp [St.size, St.ch]
    simp only at h2
    omega
theorem insT_len (t : St) (ns : List Gn) : ns.length ≤ (insT t ns).1.length ∧ (insT t ns).1.length ≤ ns.length + t.size ∧ 0 ≤ (insT t ns).2 ∧ (insT t ns).2 < (insT t ns).1.length := insT_len_k _ t (Nat.le_refl _) ns
theorem ch_le (t : St) : t.ch.length < t.size := by
  have key : ∀ cs : List St, cs.length ≤ stSizes cs := by
    intro cs
    induction cs with
    | nil => simp
    | cons c cs ih => have : 1 ≤ c.size := by cases c; simp only [St.size]; omega
                      simp only [List.length_cons, stSizes]; omega
  cases t with
  | mk k tx cs => have := key cs; simp only [St.ch, St.size]; omega
/-- Sizes up to a limit. -/
def tszL : List (Int → Int) → Int → Int → Int
  | [], _, s => s
  | f :: fs, L, s => if s > L then s else tszL fs L (s + f (L - s))
def tszT : St → Int → Int
  | .mk _ _ cs, L => tszL (cs.map fun c L => tszT c L) L 1
theorem tszT_eq (t : St) (L : Int) : tszT t L = tszL (t.ch.map tszT) L 1 := by cases t; rw [tszT]; rfl
theorem tszL_bd : ∀ (cs : List St) (L s : Int), (∀ c ∈ cs, ∀ M, 0 ≤ M → 1 ≤ tszT c M ∧ tszT c M ≤ M + 1 ∧ (tszT c M ≤ M → (c.size : Int) = tszT c M)) → 0 ≤ L → 1 ≤ s → s ≤ L + 1 →
    s ≤ tszL (cs.map tszT) L s ∧ tszL (cs.map tszT) L s ≤ L + 1 ∧ (tszL (cs.map tszT) L s ≤ L → s + (stSizes cs : Int) = tszL (cs.map tszT) L s)
  | [], L, s, _, h0, h1, h2 => by simp [tszL, stSizes]; omega
  | c :: cs, L, s, hc, h0, h1, h2 => by
    simp only [List.map_cons, tszL, stSizes]
    split
    · omega
    · obtain ⟨q1, q2, q3⟩ := hc c (List.mem_cons_self ..) (L - s) (by omega)
      obtain ⟨r1, r2, r3⟩ := tszL_bd cs L (s + tszT c (L - s)) (fun d hd => hc d (List.mem_cons_of_mem _ hd)) h0 (by omega) (by omega)
      refine ⟨by omega, r2, fun h => ?_⟩
      have r4 := r3 h
      have q4 := q3 (by omega)
      omega
theorem tszT_bd_k : ∀ (n : Nat) (t : St), t.size ≤ n → ∀ L : Int, 0 ≤ L → 1 ≤ tszT t L ∧ tszT t L ≤ L + 1 ∧ (tszT t L ≤ L → (t.size : Int) = tszT t L)
  | 0, t, h => by cases t; simp [St.size] at h
  | n + 1, t, h => fun L hL => by
    rw [tszT_eq]
    have := tszL_bd t.ch L 1 (fun c hc M hM => tszT_bd_k n c (by have := St.size_ch hc; omega) M hM) hL (by omega) (by omega)
    have h3 : t.size = 1 + stSizes t.ch := by cases t; simp [St.size, St.ch]
    omega
theorem tszT_bd (t : St) (L : Int) (hL : 0 ≤ L) : 1 ≤ tszT t L ∧ tszT t L ≤ L + 1 ∧ (tszT t L ≤ L → (t.size : Int) = tszT t L) := tszT_bd_k _ t (Nat.le_refl _) L hL
/-- Depths. -/
def dptT : St → Int
  | .mk _ _ cs => (cs.map fun c => dptT c).foldl max 0 + 1
theorem dptT_eq (t : St) : dptT t = (t.ch.map dptT).foldl max 0 + 1 := by cases t; rw [dptT]; rfl
theorem foldl_max_bd : ∀ (l : List Int) (a b : Int), a ≤ b → (∀ x ∈ l, x ≤ b) → a ≤ l.foldl max a ∧ l.foldl max a ≤ b
  | [], a, b, h, _ => ⟨Int.le_refl _, h⟩
  | x :: l, a, b, h, hl => by
    have := foldl_max_bd l (max a x) b (by have := hl x (List.mem_cons_self ..); omega) (fun y hy => hl y (List.mem_cons_of_mem _ hy))
    rw [List.foldl_cons]; omega
theorem dptT_bd_k : ∀ (n : Nat) (t : St), t.size ≤ n → 1 ≤ dptT t ∧ dptT t ≤ t.size
  | 0, t, h => by cases t; simp [St.size] at h
  | n + 1, t, h => by
    rw [dptT_eq]
    have h3 : t.size = 1 + stSizes t.ch := by cases t; simp [St.size, St.ch]
    have := foldl_max_bd (t.ch.map dptT) 0 (stSizes t.ch) (by omega) (fun x hx => by
      obtain ⟨c, hc, rfl⟩ := List.mem_map.1 hx
      have h1 := dptT_bd_k n c (by have := St.size_ch hc; omega)
      have h2 := stSizes_mem hc
      omega)
    omega
theorem dptT_bd (t : St) : 1 ≤ dptT t ∧ dptT t ≤ t.size := dptT_bd_k _ t (Nat.le_refl _)
/-- The tree of a place, its size, and how 'build' counts. -/
def treN (ns : List Gn) : Nat → Int → St
  | 0, _ => .zero
  | k + 1, i => .mk (ns.getD i.toNat .zero).kind (ns.getD i.toNat .zero).text ((ns.getD i.toNat .zero).ch.map fun c => treN ns k c)
def sizN (ns : List Gn) : Nat → Int → Nat
  | 0, _ => 1
  | k + 1, i => 1 + ((ns.getD i.toNat .zero).ch.map fun c => sizN ns k c).sum
def bldL : List (Int → St × Int) → List St × Int → List St × Int
  | [], s => s
  | f :: fs, s => if s.2 ≥ 0 then bldL fs (s.1 ++ [(f s.2).1], (f s.2).2) else bldL fs s
def bldN (ns : List Gn) : Nat → Int → Int → St × Int
  | 0, _, l => (.zero, l - 1)
  | k + 1, i, l => (.mk (ns.getD i.toNat .zero).kind (ns.getD i.toNat .zero).text (bldL ((ns.getD i.toNat .zero).ch.map fun c => bldN ns k c) ([], l - 1)).1, (bldL ((ns.getD i.toNat .zero).ch.map fun c => bldN ns k c) ([], l - 1)).2)
theorem bldL_neg : ∀ (fs : List (Int → St × Int)) (s : List St × Int), s.2 < 0 → bldL fs s = s
  | [], s, _ => rfl
  | f :: fs, s, h => by rw [bldL, if_neg (by omega)]; exact bldL_neg fs s h
theorem bldL_snoc (f : Int → St × Int) : ∀ (fs : List (Int → St × Int)) (s : List St × Int), bldL (fs ++ [f]) s = if (bldL fs s).2 ≥ 0 then ((bldL fs s).1 ++ [(f (bldL fs s).2).1], (f (bldL fs s).2).2) else bldL fs s
  | [], s => rfl
  | g :: fs, s => by
    simp only [List.cons_append, bldL]
    split <;> exact bldL_snoc f fs _
theorem bldL_spec (ns : List Gn) (k : Nat) (ih : ∀ (c l : Int), 0 ≤ l → -1 ≤ (bldN ns k c l).2 ∧ (bldN ns k c l).2 ≤ l - 1 ∧ ((sizN ns k c : Int) ≤ l → bldN ns k c l = (treN ns k c, l - sizN ns k c)) ∧ ((sizN ns k c : Int) > l → (bldN ns k c l).2 = -1)) :
    ∀ (cs : List Int) (ts : List St) (l : Int), -1 ≤ l →
    -1 ≤ (bldL (cs.map fun c => bldN ns k c) (ts, l)).2 ∧ (bldL (cs.map fun c => bldN ns k c) (ts, l)).2 ≤ l ∧
    (0 ≤ l → ((cs.map fun c => sizN ns k c).sum : Int) ≤ l → bldL (cs.map fun c => bldN ns k c) (ts, l) = (ts ++ cs.map (fun c => treN ns k c), l - ((cs.map fun c => sizN ns k c).sum : Nat))) ∧
    (((cs.map fun c => sizN ns k c).sum : Int) > l → (bldL (cs.map fun c => bldN ns k c) (ts, l)).2 = -1)
  | [], ts, l, h => by simp [bldL]; omega
  | c :: cs, ts, l, h => by
    simp only [List.map_cons, bldL, List.sum_cons]
    by_cases h0 : l ≥ 0
    · rw [if_pos h0]
      obtain ⟨q1, q2, q3, q4⟩ := ih c l h0
      obtain ⟨r1, r2, r3, r4⟩ := bldL_spec ns k ih cs (ts ++ [(bldN ns k c l).1]) (bldN ns k c l).2 q1
      refine ⟨r1, by omega, fun _ hs => ?_, fun hs => ?_⟩
      · have hs1 : (sizN ns k c : Int) ≤ l := by push_cast at hs; omega
        have he := q3 hs1
        rw [he] at r3 ⊢
        simp only at r3 ⊢
        rw [r3 (by omega) (by push_cast at hs; omega)]
        simp only [List.append_assoc, List.singleton_append, Prod.mk.injEq, true_and]
        push_cast; omega
      · by_cases hs1 : (sizN ns k c : Int) ≤ l
        · have he := q3 hs1
          rw [he] at r4 ⊢
          simp only at r4 ⊢
          exact r4 (by push_cast at hs; omega)
        · have := q4 (by omega)
          rw [bldL_neg _ _ (by simp only; omega)]
          exact this
    · rw [if_neg h0, bldL_neg _ _ (by simp only; omega)]
      simp only
      refine ⟨by omega, by omega, fun h => by omega, fun _ => by omega⟩
theorem bldN_spec (ns : List Gn) : ∀ (k : Nat) (i l : Int), 0 ≤ l → -1 ≤ (bldN ns k i l).2 ∧ (bldN ns k i l).2 ≤ l - 1 ∧ ((sizN ns k i : Int) ≤ l → bldN ns k i l = (treN ns k i, l - sizN ns k i)) ∧ ((sizN ns k i : Int) > l → (bldN ns k i l).2 = -1)
  | 0, i, l, h => by
    simp only [bldN, sizN, treN]
    refine ⟨by omega, by omega, fun _ => ?_, fun _ => by omega⟩
    rfl
  | k + 1, i, l, h => by
    obtain ⟨r1, r2, r3, r4⟩ := bldL_spec ns k (fun c l hl => bldN_spec ns k c l hl) (ns.getD i.toNat .zero).ch [] (l - 1) (by omega)
    simp only [bldN, sizN, treN]
    refine ⟨r1, r2, fun hs => ?_, fun hs => r4 (by push_cast at hs; omega)⟩
    by_cases hl : 0 ≤ l - 1
    · rw [r3 hl (by push_cast at hs; omega)]
      simp only [List.nil_append, Prod.mk.injEq, true_and]
      push_cast; omega
    · push_cast at hs; omega
/-- Sizes as the reference counts them. -/
def capL (sz : List Int) (cs : List Int) (s : Int) : Int := cs.foldl (fun s c => min (s + sz.getD c.toNat 0) 4001) s
theorem capL_sum (g : Int → Nat) (sz : List Int) : ∀ (cs : List Int) (s : Nat), (∀ c ∈ cs, sz.getD c.toNat 0 = min (g c : Int) 4001) → capL sz cs (min (s : Int) 4001) = min ((s + (cs.map g).sum : Nat) : Int) 4001
  | [], s, _ => by simp [capL]
  | c :: cs, s, h => by
    have h1 := h c (List.mem_cons_self ..)
    have h2 := capL_sum g sz cs (s + g c) (fun d hd => h d (List.mem_cons_of_mem _ hd))
    unfold capL at h2 ⊢
    rw [List.foldl_cons, h1, List.map_cons, List.sum_cons]
    have e : min (min (s : Int) 4001 + min (g c : Int) 4001) 4001 = min ((s + g c : Nat) : Int) 4001 := by push_cast; omega
    rw [e, h2]
    push_cast; congr 1; omega
end Go.Abs
namespace Go.Abs
theorem range_succ_all {p : Nat → Bool} {i : Nat} (h : (List.range i).all p = true) (hp : p i = true) : (List.range (i + 1)).all p = true := by
  rw [List.range_succ, List.all_append, h]; simp [hp]
theorem range_not_all {p : Nat → Bool} {i n : Nat} (h : i < n) (hp : p i = false) : (List.range n).all p = false := by
  rw [List.all_eq_false]; exact ⟨i, List.mem_range.2 h, by simp [hp]⟩
end Go.Abs
