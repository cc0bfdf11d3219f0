/- Part 3 of a proof of the law NormalizeMatchesReference: Go data as trees, the walks of the functions that the law reaches, the plain laws. -/
import Derived.Test.YtmjoonaejldkhaaGBNormalizeMatchesReference
set_option linter.unusedVariables false
set_option linter.unusedSimpArgs false
namespace Go.Abs
/-! Drawn regions: a first part in which nothing is laid, then operations that lay. -/
def noApp : Op → Bool
  | .call c => match c.callee with
    | .builtin .append => false
    | _ => true
  | .store .. => false
  | _ => true
theorem ard_row {P : Program} {fresh : Nat} {c : Bool} {T : Slots} {G : Nat → Bool} {H : Heap} {o : Op} {v : PV} {e : Eff} (h : gop P fresh c T G H o = some (v, e)) (hn : noApp o = true) : ∀ id ∈ ard T o, ∃ cs, H[id]? = some (.row cs) := by
  have hb : ∀ (x : Option (PV × Eff)) (f : PV × Eff → Option (PV × Eff)) (q : Prop) [Decidable q], (if q then x.bind f else none) = some (v, e) → ∃ r, x = some r := by
    intro x f q _ h
    split at h
    · obtain ⟨r, hr, _⟩ := Option.bind_eq_some_iff.1 h
      exact ⟨r, hr⟩
    · cases h
  cases o with
  | load t x =>
    simp only [gop] at h
    obtain ⟨r, hr⟩ := hb _ _ _ h
    intro id hid
    simp only [ard] at hid
    split at hid
    · rename_i id' off hx
      simp only [List.mem_singleton] at hid
      subst hid
      simp only [aop] at hr
      obtain ⟨i, hi, hr⟩ := Option.bind_eq_some_iff.1 hr
      rw [hx] at hr
      simp only [aload] at hr
      cases hq : H[id]? with
      | none => rw [hq] at hr; simp at hr
      | some ob =>
        cases ob with
        | row cs => exact ⟨cs, rfl⟩
        | unborn => rw [hq] at hr; simp at hr
        | buf n s => rw [hq] at hr; simp at hr
    · cases hid
  | store t x y => cases hn
  | call cl =>
    intro id hid
    simp only [ard] at hid
    simp only [noApp] at hn
    split at hid
    · rename_i hq; rw [hq] at hn; cases hn
    · cases hid
  | _ => intro id hid; simp [ard] at hid
def P1 (n0 k0 : Nat) (prev : Prev) : Prop := ∀ p ∈ prev, p.1 < k0 ∧ p.2.2 = [] ∧ ∀ id ∈ p.2.1, id < n0
theorem P1.app {n0 k : Nat} {prev : Prev} (h : P1 n0 k prev) {rd : List Nat} (hr : ∀ id ∈ rd, id < n0) : P1 n0 (k + 1) (prev ++ [(k, rd, [])]) := by
  intro p hp
  rcases List.mem_append.1 hp with hp | hp
  · obtain ⟨h1, h2⟩ := h p hp; exact ⟨by omega, h2⟩
  · rw [List.mem_singleton] at hp; subst hp; exact ⟨Nat.lt_succ_self _, rfl, hr⟩
theorem P1.noeff {n0 k : Nat} {prev : Prev} (h : P1 n0 k prev) : NoEff prev := fun p hp => (h p hp).2.1
def xchk (n0 k0 m : Nat) (eids : List Nat) : Bool := (eids.all fun id => decide (n0 ≤ id)) || (m % 2 ^ k0 == 2 ^ k0 - 1)
theorem hapB_P1 {n0 k0 m : Nat} {prev : Prev} {rd eids : List Nat} (h : P1 n0 k0 prev) (hm : xchk n0 k0 m eids = true) : hapB m prev rd eids = true := by
  unfold hapB
  rw [List.all_eq_true]
  intro p hp
  obtain ⟨h1, h2, h3⟩ := h p hp
  unfold xchk at hm
  rw [Bool.or_eq_true] at hm ⊢
  rcases hm with hm | hm
  · right
    rw [h2]
    simp only [List.all_nil, Bool.true_and]
    rw [List.all_eq_true] at hm ⊢
    intro id hid
    have := of_decide_eq_true (hm id hid)
    cases hc : p.2.1.contains id with
    | false => rfl
    | true =>
      have := h3 id (by simpa using hc)
      omega
  · left
    have e2 : (m / 2 ^ p.1 % 2 == 1) = m.testBit p.1 := by rw [Nat.testBit_eq_decide_div_mod_eq]; rfl
    rw [e2]
    have hm : m % 2 ^ k0 = 2 ^ k0 - 1 := by simpa using hm
    have := Nat.testBit_mod_two_pow m k0 p.1
    rw [hm, Nat.testBit_two_pow_sub_one] at this
    simp only [h1, decide_true, Bool.true_and] at this
    exact this.symm
theorem hapB_app {m : Nat} {p1 p2 : Prev} {rd eids : List Nat} (h1 : hapB m p1 rd eids = true) (h2 : hapB m p2 rd eids = true) : hapB m (p1 ++ p2) rd eids = true := by
  unfold hapB at h1 h2 ⊢
  rw [List.all_append, h1, h2]; rfl
section
variable {P : Program} {N nb : Nat} {ops : Array Oper} {Q : Post}
def X1 (P : Program) (N : Nat) (ops : Array Oper) (Q : Post) (n0 k : Nat) (l : List Oper) (T : Slots) (H : Heap) : Prop := ∀ prev, P1 n0 k prev → DOps P N ops (fun e T1 H1 => ∃ T2, (∀ i, T2 i = .junk ∨ T2 i = T1 i) ∧ Q e T2 H1) k l prev T H
theorem row_lt {H : Heap} {m id : Nat} {cs : List PV} (h : (H ++ List.replicate m AObj.unborn)[id]? = some (.row cs)) : id < H.length := by
  rcases Nat.lt_or_ge id H.length with hl | hl
  · exact hl
  · rw [List.getElem?_append_right hl, List.getElem?_replicate] at h
    split at h <;> cases h
theorem x_draw {id : Nat} {T : Slots} {H : Heap} (m : Nat) {n0 : Nat} (hn : H.length = n0) (hok : drawOk P ops.toList = true) (h : X1 P N ops Q n0 0 ops.toList (msk (.tup []) T allG) (H ++ List.replicate m .unborn)) : AWP P N nb (.region id ops true) Q T H := by
  refine awp_drawW m hok ?_
  exact h [] (by intro p hp; cases hp)
theorem x1_run {H : Heap} {n0 : Nat} (hu : ∀ id cs, H[id]? = some (.row cs) → id < n0) : ∀ (l l2 : List Oper) (k : Nat) (T : Slots) (G : Nat → Bool) {T' : Slots} {G' : Nat → Bool} {H' : Heap}, l.all (fun o => okOp N o.op) = true → l.all (fun o => noApp o.op) = true →
    psq P N ops.toList l (some (T, G, H)) = some (T', G', H') → (H' = H → X1 P N ops Q n0 (k + l.length) l2 (msk (.tup []) T' G') H) → X1 P N ops Q n0 k (l ++ l2) (msk (.tup []) T G) H
  | [], l2, k, T, G, T', G', H', _, _, hs, h => by cases hs; exact h rfl
  | o :: l, l2, k, T, G, T', G', H', hok, hna, hs, h => by
    simp only [List.all_cons, Bool.and_eq_true] at hok hna
    simp only [psq, ps0] at hs
    cases hw : gcond ops.toList T G N o with
    | none => rw [hw] at hs; simp only [ps1, psq_none] at hs; cases hs
    | some c =>
      rw [hw] at hs
      simp only [ps1] at hs
      cases hg : gop P H.length c T G H o.op with
      | none => rw [hg] at hs; simp only [ps2, psq_none] at hs; cases hs
      | some r =>
        rw [hg] at hs
        obtain ⟨v, e⟩ := r
        cases e with
        | some e => simp only [ps2, psq_none] at hs; cases hs
        | none =>
          simp only [ps2] at hs
          intro prev hp
          refine dops_gstep (fresh := H.length) rfl hok.1 hw hg rfl (hapB_noeff hp.noeff _ _) ?_
          have := x1_run hu l l2 (k + 1) _ _ hok.2 hna.2 hs (fun e => by rw [show k + 1 + l.length = k + (o :: l).length by simp only [List.length_cons]; omega]; exact h e)
          refine this _ (hp.app fun id hid => ?_)
          simp only [effIds, List.append_nil] at hid
          obtain ⟨cs, hcs⟩ := ard_row hg hna.1 id hid
          exact hu id cs hcs
theorem x1_take (n : Nat) {l : List Oper} {n0 k m : Nat} {T T' : Slots} {G G' : Nat → Bool} {B H' : Heap} (hl : B.length = n0) (hs : psq P N ops.toList (l.take n) (some (T, G, B ++ List.replicate m .unborn)) = some (T', G', H'))
    (hok : (l.take n).all (fun o => okOp N o.op) = true) (hna : (l.take n).all (fun o => noApp o.op) = true) (hn : (l.take n).length = n) (h : X1 P N ops Q n0 (k + n) (l.drop n) (msk (.tup []) T' G') (B ++ List.replicate m .unborn)) : X1 P N ops Q n0 k l (msk (.tup []) T G) (B ++ List.replicate m .unborn) := by
  have := x1_run (fun id cs h => hl ▸ row_lt h) (l.take n) (l.drop n) k T G hok hna hs (fun _ => by rw [hn]; exact h)
  rwa [List.take_append_drop] at this
theorem x1_keep {n0 k m : Nat} {o : Oper} {l : List Oper} {T : Slots} {G : Nat → Bool} {B : Heap} {c : Bool} {f : FuncId} {args : List PV} {r : PV} (hl : B.length = n0) (hcall : acall T o.op = some (f, args)) (hc : gcond ops.toList T G N o = some c)
    (hg : o.op.operands.toList.all (gOk c G) = true) (hok : okOp N o.op = true) (hgo : goFn P f = true) (hp : c = true → ∀ L, ACalls P f args (B ++ L) fun r' H'' => r' = r ∧ H'' = B ++ L)
    (h : X1 P N ops Q n0 (k + 1) l (msk (.tup []) (updO T o.dst r) (ugO G o.dst c)) (B ++ List.replicate m .unborn)) : X1 P N ops Q n0 k (o :: l) (msk (.tup []) T G) (B ++ List.replicate m .unborn) := by
  intro prev hn
  cases c
  · rw [msk_put_false] at h
    exact dops_skipR [] (fun p hp => .inr ⟨by rw [hn.noeff p hp]; simp, by simp⟩) hc (h _ (hn.app (by simp)))
  · rw [msk_put_true] at h
    have hcall' := acall_msk (u := .tup []) hcall hg
    obtain ⟨fo, xs, ts, pf, pc, h1, h2, h3⟩ := acall_spec hcall'
    refine dops_call (eff := []) (rd := List.range n0) h1 ((gcond_sound hc).1 rfl _) hok h2 hgo h3 (by simp) (fun H' hH hlen => ?_) (fun p hp => .inr ⟨by rw [hn.noeff p hp]; simp, by simp⟩) (h _ (hn.app (fun id hid => List.mem_range.1 hid)))
    obtain ⟨L, rfl⟩ : ∃ L, H' = B ++ L := by
      refine ⟨H'.drop B.length, ?_⟩
      have hle : B.length ≤ H'.length := by rw [hlen]; simp
      refine (List.take_append_drop B.length H').symm.trans ?_
      congr 1
      refine List.ext_getElem? fun i => ?_
      by_cases hi : i < B.length
      · rw [List.getElem?_take_of_lt hi, hH i (List.mem_range.2 (by omega)), List.getElem?_append_left hi]
      · rw [List.getElem?_eq_none (by simp; omega), List.getElem?_eq_none (by omega)]
    exact hp rfl L
def X2 (P : Program) (N : Nat) (ops : Array Oper) (Q : Post) (n0 k0 k : Nat) (l : List Oper) (prev2 : Prev) (T : Slots) (H : Heap) : Prop := ∀ prev1, P1 n0 k0 prev1 → DOps P N ops (fun e T1 H1 => ∃ T2, (∀ i, T2 i = .junk ∨ T2 i = T1 i) ∧ Q e T2 H1) k l (prev1 ++ prev2) T H
theorem x_mid {n0 k : Nat} {l : List Oper} {T : Slots} {H H1 : Heap} (hH : H = H1) (h : X2 P N ops Q n0 k k l [] T H1) : X1 P N ops Q n0 k l T H := by
  subst hH
  intro prev hp
  have := h prev hp
  rwa [List.append_nil] at this
def xd4 (o : Oper) (k fresh : Nat) (prev : Prev) (T : Slots) (G : Nat → Bool) (H : Heap) (c : Bool) (r : PV × Eff) (rd eids : List Nat) : Bool → Bool → Bool → Option GDSt
  | true, true, true => some (k + 1, nextFresh fresh r.2, prev ++ [(k, rd, eids)], updO T o.dst r.1, ugO G o.dst c, effSet r.2 H)
  | _, _, _ => none
def xd2 (n0 k0 : Nat) (bm : List Nat) (o : Oper) (k fresh : Nat) (prev : Prev) (T : Slots) (G : Nat → Bool) (H : Heap) (c : Bool) : Option (PV × Eff) → Option GDSt
  | some r => xd4 o k fresh prev T G H c r (ard T o.op ++ effIds r.2) (effIds r.2) (freshOk fresh r.2 H) (hapB (bm.getD k 0) prev (ard T o.op ++ effIds r.2) (effIds r.2)) (xchk n0 k0 (bm.getD k 0) (effIds r.2))
  | none => none
def xd1 (P : Program) (n0 k0 : Nat) (bm : List Nat) (o : Oper) (k fresh : Nat) (prev : Prev) (T : Slots) (G : Nat → Bool) (H : Heap) : Option Bool → Option GDSt
  | some c => xd2 n0 k0 bm o k fresh prev T G H c (gop P fresh c T G H o.op)
  | none => none
def xd0 (P : Program) (N : Nat) (ops : List Oper) (n0 k0 : Nat) (bm : List Nat) (o : Oper) : Option GDSt → Option GDSt
  | some (k, fresh, prev, T, G, H) => xd1 P n0 k0 bm o k fresh prev T G H (gcond ops T G N o)
  | none => none
def xq (P : Program) (N : Nat) (ops : List Oper) (n0 k0 : Nat) (bm : List Nat) : List Oper → Option GDSt → Option GDSt
  | [], s => s
  | o :: l, s => xq P N ops n0 k0 bm l (xd0 P N ops n0 k0 bm o s)
theorem xq_none {n0 k0 : Nat} {bm : List Nat} : ∀ l, xq P N ops.toList n0 k0 bm l none = none
  | [] => rfl
  | o :: l => xq_none l
theorem x2_run {n0 k0 : Nat} {bm : List Nat} (hbm : bmasks ops.toList = bm) : ∀ (l l2 : List Oper) (k fresh : Nat) (prev : Prev) (T : Slots) (G : Nat → Bool) (H : Heap) {k' fresh' : Nat} {prev' : Prev} {T' : Slots} {G' : Nat → Bool} {H' : Heap}, l.all (fun o => okOp N o.op) = true →
    xq P N ops.toList n0 k0 bm l (some (k, fresh, prev, T, G, H)) = some (k', fresh', prev', T', G', H') → X2 P N ops Q n0 k0 (k + l.length) l2 prev' (msk (.tup []) T' G') H' → X2 P N ops Q n0 k0 k (l ++ l2) prev (msk (.tup []) T G) H
  | [], l2, k, fresh, prev, T, G, H, k', fresh', prev', T', G', H', _, hs, h => by cases hs; exact h
  | o :: l, l2, k, fresh, prev, T, G, H, k', fresh', prev', T', G', H', hok, hs, h => by
    simp only [List.all_cons, Bool.and_eq_true] at hok
    simp only [xq, xd0] at hs
    cases hw : gcond ops.toList T G N o with
    | none => rw [hw] at hs; simp only [xd1, xq_none] at hs; cases hs
    | some c =>
      rw [hw] at hs
      simp only [xd1] at hs
      cases hg : gop P fresh c T G H o.op with
      | none => rw [hg] at hs; simp only [xd2, xq_none] at hs; cases hs
      | some r =>
        rw [hg] at hs
        simp only [xd2] at hs
        cases h1 : freshOk fresh r.2 H with
        | false => rw [h1] at hs; simp only [xd4, xq_none] at hs; cases hs
        | true =>
          cases h2 : hapB (bm.getD k 0) prev (ard T o.op ++ effIds r.2) (effIds r.2) with
          | false => rw [h1, h2] at hs; simp only [xd4, xq_none] at hs; cases hs
          | true =>
            cases h3 : xchk n0 k0 (bm.getD k 0) (effIds r.2) with
            | false => rw [h1, h2, h3] at hs; simp only [xd4, xq_none] at hs; cases hs
            | true =>
              rw [h1, h2, h3] at hs
              simp only [xd4] at hs
              intro prev1 hp
              refine dops_gstep hbm hok.1 hw hg h1 (hapB_app (hapB_P1 hp h3) h2) ?_
              have := x2_run hbm l l2 (k + 1) _ _ _ _ _ hok.2 hs (by rw [show k + 1 + l.length = k + (o :: l).length by simp only [List.length_cons]; omega]; exact h) prev1 hp
              rwa [← List.append_assoc] at this
theorem x2_take (n : Nat) {l : List Oper} {n0 k0 k k' fresh fresh' : Nat} {bm : List Nat} {prev prev' : Prev} {T T' : Slots} {G G' : Nat → Bool} {H H' : Heap} (hbm : bmasks ops.toList = bm) (hs : xq P N ops.toList n0 k0 bm (l.take n) (some (k, fresh, prev, T, G, H)) = some (k', fresh', prev', T', G', H'))
    (hok : (l.take n).all (fun o => okOp N o.op) = true) (hn : (l.take n).length = n) (h : X2 P N ops Q n0 k0 (k + n) (l.drop n) prev' (msk (.tup []) T' G') H') : X2 P N ops Q n0 k0 k l prev (msk (.tup []) T G) H := by
  have := x2_run hbm (l.take n) (l.drop n) k fresh prev T G H hok hs (by rw [hn]; exact h)
  rwa [List.take_append_drop] at this
theorem x2_end {l : List Oper} {n0 k0 k k' fresh fresh' : Nat} {bm : List Nat} {prev prev' : Prev} {T T' F : Slots} {G G' : Nat → Bool} {H H' : Heap} (hbm : bmasks ops.toList = bm) (hs : xq P N ops.toList n0 k0 bm l (some (k, fresh, prev, T, G, H)) = some (k', fresh', prev', T', G', H'))
    (hok : l.all (fun o => okOp N o.op) = true) (hf : Fin T' G' F) (h : Q .normal F H') : X2 P N ops Q n0 k0 k l prev (msk (.tup []) T G) H := by
  have := x2_run hbm l [] k fresh prev T G H hok hs (Q := Q) (fun prev1 _ => dops_nil ⟨F, fun i => ?_, h⟩)
  · rwa [List.append_nil] at this
  · rcases hf.spec i with e | ⟨e1, e2⟩
    · exact .inl e
    · exact .inr (by simp only [msk, e1, if_true]; exact e2)
theorem x2_fin {n0 k0 k : Nat} {prev : Prev} {T F : Slots} {G : Nat → Bool} {H : Heap} (hf : Fin T G F) (h : Q .normal F H) : X2 P N ops Q n0 k0 k [] prev (msk (.tup []) T G) H :=
  x2_end (fresh := 0) (T' := T) (G' := G) (H' := H) rfl rfl rfl hf h
/-- A call that sets one place (or none: 'ob' as it was). -/
theorem x2_fx {n0 k0 k : Nat} {bm : List Nat} {o : Oper} {l : List Oper} {prev : Prev} {T : Slots} {G : Nat → Bool} {H H1 : Heap} {f : FuncId} {args : List PV} {r : PV} (rd : List Nat) (id : Nat) (ob : AObj) (hbm : bmasks ops.toList = bm) (hcall : acall T o.op = some (f, args)) (hc : gcond ops.toList T G N o = some true)
    (hg : o.op.operands.toList.all (gOk true G) = true) (hok : okOp N o.op = true) (hgo : goFn P f = true) (hp : ∀ H' : Heap, (∀ id ∈ rd, H'[id]? = H[id]?) → H'.length = H.length → ACalls P f args H' fun r' H'' => r' = r ∧ H'' = H'.set id ob) (hid : id ∈ rd)
    (hap : hapB (bm.getD k 0) prev rd [id] = true) (hx : xchk n0 k0 (bm.getD k 0) [id] = true) (hH : H.set id ob = H1) (h : X2 P N ops Q n0 k0 (k + 1) l (prev ++ [(k, rd, [id])]) (msk (.tup []) (updO T o.dst r) (ugO G o.dst true)) H1) : X2 P N ops Q n0 k0 k (o :: l) prev (msk (.tup []) T G) H := by
  subst hH
  intro prev1 hn
  rw [msk_put_true] at h
  have hcall' := acall_msk (u := .tup []) hcall hg
  obtain ⟨fo, xs, ts, pf, pc, h1, h2, h3⟩ := acall_spec hcall'
  have := h prev1 hn
  rw [← List.append_assoc] at this
  refine dops_call (eff := [(id, ob)]) (rd := rd) h1 ((gcond_sound hc).1 rfl _) hok h2 hgo h3 (by simp [hid]) (fun H' hH hl => hp H' hH hl) ?_ this
  exact hapB_spec (eff := [(id, ob)]) (by rw [hbm]; exact hapB_app (hapB_P1 hn hx) hap)
end
end Go.Abs
namespace Go.Abs
/-! Bundles of rules, for shorter texts. -/
theorem jA : type_of% (And.intro @asq.eq_1 (And.intro @asq.eq_2 (And.intro @as0.eq_1 (And.intro @as0.eq_2 (And.intro @as1.eq_1 (And.intro @as1.eq_2 (And.intro @as1.eq_3 (And.intro @as2.eq_1 (And.intro @as2.eq_2 (@awanted.eq_1)))))))))) := And.intro @asq.eq_1 (And.intro @asq.eq_2 (And.intro @as0.eq_1 (And.intro @as0.eq_2 (And.intro @as1.eq_1 (And.intro @as1.eq_2 (And.intro @as1.eq_3 (And.intro @as2.eq_1 (And.intro @as2.eq_2 (@awanted.eq_1)))))))))
theorem jG : type_of% (And.intro @gsq.eq_1 (And.intro @gsq.eq_2 (And.intro @gs0.eq_1 (And.intro @gs0.eq_2 (And.intro @gs1.eq_1 (And.intro @gs1.eq_2 (And.intro @gs2.eq_1 (And.intro @gs2.eq_2 (And.intro @gcond.eq_1 (And.intro @gop.eq_1 (And.intro @gop.eq_2 (And.intro @Op.operands.eq_1 (And.intro @Op.operands.eq_2 (And.intro @Op.operands.eq_3 (And.intro @Op.operands.eq_4 (And.intro @Op.operands.eq_5 (And.intro @Op.operands.eq_6 (And.intro @Op.operands.eq_7 (And.intro @Op.operands.eq_8 (And.intro @Op.operands.eq_9 (And.intro @Op.operands.eq_10 (And.intro @Op.operands.eq_11 (And.intro @Op.operands.eq_12 (And.intro @Op.operands.eq_13 (And.intro @Op.operands.eq_14 (And.intro @Op.operands.eq_15 (And.intro @Op.operands.eq_16 (And.intro @Op.operands.eq_17 (And.intro @Op.operands.eq_18 (And.intro @Op.operands.eq_19 (And.intro @Op.operands.eq_20 (And.intro @Op.operands.eq_21 (And.intro @Op.operands.eq_22 (And.intro @Op.operands.eq_23 (And.intro @Op.operands.eq_24 (And.intro @Op.operands.eq_25 (And.intro @Op.operands.eq_26 (And.intro @Op.operands.eq_27 (And.intro @Op.operands.eq_28 (And.intro @Op.operands.eq_29 (And.intro @Op.operands.eq_30 (And.intro @Op.operands.eq_31 (And.intro @Op.operands.eq_32 (And.intro @Op.operands.eq_33 (And.intro @Op.operands.eq_34 (And.intro @Op.operands.eq_35 (And.intro @Op.operands.eq_36 (And.intro @Op.operands.eq_37 (And.intro @Op.operands.eq_38 (And.intro @Op.operands.eq_39 (And.intro @Op.operands.eq_40 (And.intro @Op.operands.eq_41 (And.intro @Op.operands.eq_42 (And.intro @Op.operands.eq_43 (And.intro @Call.operands.eq_1 (And.intro @SG (@Array.toList_append.{0}))))))))))))))))))))))))))))))))))))))))))))))))))))))))) := And.intro @gsq.eq_1 (And.intro @gsq.eq_2 (And.intro @gs0.eq_1 (And.intro @gs0.eq_2 (And.intro @gs1.eq_1 (And.intro @gs1.eq_2 (And.intro @gs2.eq_1 (And.intro @gs2.eq_2 (And.intro @gcond.eq_1 (And.intro @gop.eq_1 (And.intro @gop.eq_2 (And.intro @Op.operands.eq_1 (And.intro @Op.operands.eq_2 (And.intro @Op.operands.eq_3 (And.intro @Op.operands.eq_4 (And.intro @Op.operands.eq_5 (And.intro @Op.operands.eq_6 (And.intro @Op.operands.eq_7 (And.intro @Op.operands.eq_8 (And.intro @Op.operands.eq_9 (And.intro @Op.operands.eq_10 (And.intro @Op.operands.eq_11 (And.intro @Op.operands.eq_12 (And.intro @Op.operands.eq_13 (And.intro @Op.operands.eq_14 (And.intro @Op.operands.eq_15 (And.intro @Op.operands.eq_16 (And.intro @Op.operands.eq_17 (And.intro @Op.operands.eq_18 (And.intro @Op.operands.eq_19 (And.intro @Op.operands.eq_20 (And.intro @Op.operands.eq_21 (And.intro @Op.operands.eq_22 (And.intro @Op.operands.eq_23 (And.intro @Op.operands.eq_24 (And.intro @Op.operands.eq_25 (And.intro @Op.operands.eq_26 (And.intro @Op.operands.eq_27 (And.intro @Op.operands.eq_28 (And.intro @Op.operands.eq_29 (And.intro @Op.operands.eq_30 (And.intro @Op.operands.eq_31 (And.intro @Op.operands.eq_32 (And.intro @Op.operands.eq_33 (And.intro @Op.operands.eq_34 (And.intro @Op.operands.eq_35 (And.intro @Op.operands.eq_36 (And.intro @Op.operands.eq_37 (And.intro @Op.operands.eq_38 (And.intro @Op.operands.eq_39 (And.intro @Op.operands.eq_40 (And.intro @Op.operands.eq_41 (And.intro @Op.operands.eq_42 (And.intro @Op.operands.eq_43 (And.intro @Call.operands.eq_1 (And.intro @SG (@Array.toList_append.{0}))))))))))))))))))))))))))))))))))))))))))))))))))))))))
theorem jP : type_of% (And.intro @psq.eq_1 (And.intro @psq.eq_2 (And.intro @ps0.eq_1 (And.intro @ps0.eq_2 (And.intro @ps1.eq_1 (And.intro @ps1.eq_2 (And.intro @ps2.eq_1 (And.intro @ps2.eq_2 (And.intro @gcond.eq_1 (And.intro @gop.eq_1 (And.intro @gop.eq_2 (And.intro @Op.operands.eq_1 (And.intro @Op.operands.eq_2 (And.intro @Op.operands.eq_3 (And.intro @Op.operands.eq_4 (And.intro @Op.operands.eq_5 (And.intro @Op.operands.eq_6 (And.intro @Op.operands.eq_7 (And.intro @Op.operands.eq_8 (And.intro @Op.operands.eq_9 (And.intro @Op.operands.eq_10 (And.intro @Op.operands.eq_11 (And.intro @Op.operands.eq_12 (And.intro @Op.operands.eq_13 (And.intro @Op.operands.eq_14 (And.intro @Op.operands.eq_15 (And.intro @Op.operands.eq_16 (And.intro @Op.operands.eq_17 (And.intro @Op.operands.eq_18 (And.intro @Op.operands.eq_19 (And.intro @Op.operands.eq_20 (And.intro @Op.operands.eq_21 (And.intro @Op.operands.eq_22 (And.intro @Op.operands.eq_23 (And.intro @Op.operands.eq_24 (And.intro @Op.operands.eq_25 (And.intro @Op.operands.eq_26 (And.intro @Op.operands.eq_27 (And.intro @Op.operands.eq_28 (And.intro @Op.operands.eq_29 (And.intro @Op.operands.eq_30 (And.intro @Op.operands.eq_31 (And.intro @Op.operands.eq_32 (And.intro @Op.operands.eq_33 (And.intro @Op.operands.eq_34 (And.intro @Op.operands.eq_35 (And.intro @Op.operands.eq_36 (And.intro @Op.operands.eq_37 (And.intro @Op.operands.eq_38 (And.intro @Op.operands.eq_39 (And.intro @Op.operands.eq_40 (And.intro @Op.operands.eq_41 (And.intro @Op.operands.eq_42 (And.intro @Op.operands.eq_43 (And.intro @Call.operands.eq_1 (And.intro @SG (@Array.toList_append.{0}))))))))))))))))))))))))))))))))))))))))))))))))))))))))) := And.intro @psq.eq_1 (And.intro @psq.eq_2 (And.intro @ps0.eq_1 (And.intro @ps0.eq_2 (And.intro @ps1.eq_1 (And.intro @ps1.eq_2 (And.intro @ps2.eq_1 (And.intro @ps2.eq_2 (And.intro @gcond.eq_1 (And.intro @gop.eq_1 (And.intro @gop.eq_2 (And.intro @Op.operands.eq_1 (And.intro @Op.operands.eq_2 (And.intro @Op.operands.eq_3 (And.intro @Op.operands.eq_4 (And.intro @Op.operands.eq_5 (And.intro @Op.operands.eq_6 (And.intro @Op.operands.eq_7 (And.intro @Op.operands.eq_8 (And.intro @Op.operands.eq_9 (And.intro @Op.operands.eq_10 (And.intro @Op.operands.eq_11 (And.intro @Op.operands.eq_12 (And.intro @Op.operands.eq_13 (And.intro @Op.operands.eq_14 (And.intro @Op.operands.eq_15 (And.intro @Op.operands.eq_16 (And.intro @Op.operands.eq_17 (And.intro @Op.operands.eq_18 (And.intro @Op.operands.eq_19 (And.intro @Op.operands.eq_20 (And.intro @Op.operands.eq_21 (And.intro @Op.operands.eq_22 (And.intro @Op.operands.eq_23 (And.intro @Op.operands.eq_24 (And.intro @Op.operands.eq_25 (And.intro @Op.operands.eq_26 (And.intro @Op.operands.eq_27 (And.intro @Op.operands.eq_28 (And.intro @Op.operands.eq_29 (And.intro @Op.operands.eq_30 (And.intro @Op.operands.eq_31 (And.intro @Op.operands.eq_32 (And.intro @Op.operands.eq_33 (And.intro @Op.operands.eq_34 (And.intro @Op.operands.eq_35 (And.intro @Op.operands.eq_36 (And.intro @Op.operands.eq_37 (And.intro @Op.operands.eq_38 (And.intro @Op.operands.eq_39 (And.intro @Op.operands.eq_40 (And.intro @Op.operands.eq_41 (And.intro @Op.operands.eq_42 (And.intro @Op.operands.eq_43 (And.intro @Call.operands.eq_1 (And.intro @SG (@Array.toList_append.{0}))))))))))))))))))))))))))))))))))))))))))))))))))))))))
theorem jD : type_of% (And.intro @dsq.eq_1 (And.intro @dsq.eq_2 (And.intro @ds0.eq_1 (And.intro @ds0.eq_2 (And.intro @ds1.eq_1 (And.intro @ds1.eq_2 (And.intro @ds1.eq_3 (And.intro @ds2.eq_1 (And.intro @ds2.eq_2 (And.intro @ds3.eq_1 (And.intro @ds3.eq_2 (And.intro @awanted.eq_1 (And.intro @hapB.eq_1 (And.intro @effIds.eq_1 (And.intro @effIds.eq_2 (And.intro @effSet.eq_1 (And.intro @effSet.eq_2 (And.intro @nextFresh.eq_1 (And.intro @nextFresh.eq_2 (And.intro @ard.eq_1 (And.intro @ard.eq_2 (And.intro @ard.eq_3 (And.intro @ard.eq_4 (And.intro @freshOk.eq_1 (And.intro @freshOk.eq_2 (@isUnborn.eq_1)))))))))))))))))))))))))) := And.intro @dsq.eq_1 (And.intro @dsq.eq_2 (And.intro @ds0.eq_1 (And.intro @ds0.eq_2 (And.intro @ds1.eq_1 (And.intro @ds1.eq_2 (And.intro @ds1.eq_3 (And.intro @ds2.eq_1 (And.intro @ds2.eq_2 (And.intro @ds3.eq_1 (And.intro @ds3.eq_2 (And.intro @awanted.eq_1 (And.intro @hapB.eq_1 (And.intro @effIds.eq_1 (And.intro @effIds.eq_2 (And.intro @effSet.eq_1 (And.intro @effSet.eq_2 (And.intro @nextFresh.eq_1 (And.intro @nextFresh.eq_2 (And.intro @ard.eq_1 (And.intro @ard.eq_2 (And.intro @ard.eq_3 (And.intro @ard.eq_4 (And.intro @freshOk.eq_1 (And.intro @freshOk.eq_2 (@isUnborn.eq_1)))))))))))))))))))))))))
theorem jH : type_of% (And.intro @gdq.eq_1 (And.intro @gdq.eq_2 (And.intro @gd0.eq_1 (And.intro @gd0.eq_2 (And.intro @gd1.eq_1 (And.intro @gd1.eq_2 (And.intro @gd2.eq_1 (And.intro @gd2.eq_2 (And.intro @gd3.eq_1 (And.intro @gd3.eq_2 (And.intro @gcond.eq_1 (And.intro @gop.eq_1 (And.intro @gop.eq_2 (And.intro @Op.operands.eq_1 (And.intro @Op.operands.eq_2 (And.intro @Op.operands.eq_3 (And.intro @Op.operands.eq_4 (And.intro @Op.operands.eq_5 (And.intro @Op.operands.eq_6 (And.intro @Op.operands.eq_7 (And.intro @Op.operands.eq_8 (And.intro @Op.operands.eq_9 (And.intro @Op.operands.eq_10 (And.intro @Op.operands.eq_11 (And.intro @Op.operands.eq_12 (And.intro @Op.operands.eq_13 (And.intro @Op.operands.eq_14 (And.intro @Op.operands.eq_15 (And.intro @Op.operands.eq_16 (And.intro @Op.operands.eq_17 (And.intro @Op.operands.eq_18 (And.intro @Op.operands.eq_19 (And.intro @Op.operands.eq_20 (And.intro @Op.operands.eq_21 (And.intro @Op.operands.eq_22 (And.intro @Op.operands.eq_23 (And.intro @Op.operands.eq_24 (And.intro @Op.operands.eq_25 (And.intro @Op.operands.eq_26 (And.intro @Op.operands.eq_27 (And.intro @Op.operands.eq_28 (And.intro @Op.operands.eq_29 (And.intro @Op.operands.eq_30 (And.intro @Op.operands.eq_31 (And.intro @Op.operands.eq_32 (And.intro @Op.operands.eq_33 (And.intro @Op.operands.eq_34 (And.intro @Op.operands.eq_35 (And.intro @Op.operands.eq_36 (And.intro @Op.operands.eq_37 (And.intro @Op.operands.eq_38 (And.intro @Op.operands.eq_39 (And.intro @Op.operands.eq_40 (And.intro @Op.operands.eq_41 (And.intro @Op.operands.eq_42 (And.intro @Op.operands.eq_43 (And.intro @Call.operands.eq_1 (And.intro @SG (And.intro @Array.toList_append.{0} (And.intro @hapB.eq_1 (And.intro @effIds.eq_1 (And.intro @effIds.eq_2 (And.intro @effSet.eq_1 (And.intro @effSet.eq_2 (And.intro @nextFresh.eq_1 (And.intro @nextFresh.eq_2 (And.intro @ard.eq_1 (And.intro @ard.eq_2 (And.intro @ard.eq_3 (And.intro @ard.eq_4 (And.intro @freshOk.eq_1 (And.intro @freshOk.eq_2 (@isUnborn.eq_1))))))))))))))))))))))))))))))))))))))))))))))))))))))))))))))))))))))))) := And.intro @gdq.eq_1 (And.intro @gdq.eq_2 (And.intro @gd0.eq_1 (And.intro @gd0.eq_2 (And.intro @gd1.eq_1 (And.intro @gd1.eq_2 (And.intro @gd2.eq_1 (And.intro @gd2.eq_2 (And.intro @gd3.eq_1 (And.intro @gd3.eq_2 (And.intro @gcond.eq_1 (And.intro @gop.eq_1 (And.intro @gop.eq_2 (And.intro @Op.operands.eq_1 (And.intro @Op.operands.eq_2 (And.intro @Op.operands.eq_3 (And.intro @Op.operands.eq_4 (And.intro @Op.operands.eq_5 (And.intro @Op.operands.eq_6 (And.intro @Op.operands.eq_7 (And.intro @Op.operands.eq_8 (And.intro @Op.operands.eq_9 (And.intro @Op.operands.eq_10 (And.intro @Op.operands.eq_11 (And.intro @Op.operands.eq_12 (And.intro @Op.operands.eq_13 (And.intro @Op.operands.eq_14 (And.intro @Op.operands.eq_15 (And.intro @Op.operands.eq_16 (And.intro @Op.operands.eq_17 (And.intro @Op.operands.eq_18 (And.intro @Op.operands.eq_19 (And.intro @Op.operands.eq_20 (And.intro @Op.operands.eq_21 (And.intro @Op.operands.eq_22 (And.intro @Op.operands.eq_23 (And.intro @Op.operands.eq_24 (And.intro @Op.operands.eq_25 (And.intro @Op.operands.eq_26 (And.intro @Op.operands.eq_27 (And.intro @Op.operands.eq_28 (And.intro @Op.operands.eq_29 (And.intro @Op.operands.eq_30 (And.intro @Op.operands.eq_31 (And.intro @Op.operands.eq_32 (And.intro @Op.operands.eq_33 (And.intro @Op.operands.eq_34 (And.intro @Op.operands.eq_35 (And.intro @Op.operands.eq_36 (And.intro @Op.operands.eq_37 (And.intro @Op.operands.eq_38 (And.intro @Op.operands.eq_39 (And.intro @Op.operands.eq_40 (And.intro @Op.operands.eq_41 (And.intro @Op.operands.eq_42 (And.intro @Op.operands.eq_43 (And.intro @Call.operands.eq_1 (And.intro @SG (And.intro @Array.toList_append.{0} (And.intro @hapB.eq_1 (And.intro @effIds.eq_1 (And.intro @effIds.eq_2 (And.intro @effSet.eq_1 (And.intro @effSet.eq_2 (And.intro @nextFresh.eq_1 (And.intro @nextFresh.eq_2 (And.intro @ard.eq_1 (And.intro @ard.eq_2 (And.intro @ard.eq_3 (And.intro @ard.eq_4 (And.intro @freshOk.eq_1 (And.intro @freshOk.eq_2 (@isUnborn.eq_1))))))))))))))))))))))))))))))))))))))))))))))))))))))))))))))))))))))))
theorem jX : type_of% (And.intro @xq.eq_1 (And.intro @xq.eq_2 (And.intro @xd0.eq_1 (And.intro @xd0.eq_2 (And.intro @xd1.eq_1 (And.intro @xd1.eq_2 (And.intro @xd2.eq_1 (And.intro @xd2.eq_2 (And.intro @xd4.eq_1 (And.intro @xd4.eq_2 (And.intro @xchk.eq_1 (And.intro @gcond.eq_1 (And.intro @gop.eq_1 (And.intro @gop.eq_2 (And.intro @Op.operands.eq_1 (And.intro @Op.operands.eq_2 (And.intro @Op.operands.eq_3 (And.intro @Op.operands.eq_4 (And.intro @Op.operands.eq_5 (And.intro @Op.operands.eq_6 (And.intro @Op.operands.eq_7 (And.intro @Op.operands.eq_8 (And.intro @Op.operands.eq_9 (And.intro @Op.operands.eq_10 (And.intro @Op.operands.eq_11 (And.intro @Op.operands.eq_12 (And.intro @Op.operands.eq_13 (And.intro @Op.operands.eq_14 (And.intro @Op.operands.eq_15 (And.intro @Op.operands.eq_16 (And.intro @Op.operands.eq_17 (And.intro @Op.operands.eq_18 (And.intro @Op.operands.eq_19 (And.intro @Op.operands.eq_20 (And.intro @Op.operands.eq_21 (And.intro @Op.operands.eq_22 (And.intro @Op.operands.eq_23 (And.intro @Op.operands.eq_24 (And.intro @Op.operands.eq_25 (And.intro @Op.operands.eq_26 (And.intro @Op.operands.eq_27 (And.intro @Op.operands.eq_28 (And.intro @Op.operands.eq_29 (And.intro @Op.operands.eq_30 (And.intro @Op.operands.eq_31 (And.intro @Op.operands.eq_32 (And.intro @Op.operands.eq_33 (And.intro @Op.operands.eq_34 (And.intro @Op.operands.eq_35 (And.intro @Op.operands.eq_36 (And.intro @Op.operands.eq_37 (And.intro @Op.operands.eq_38 (And.intro @Op.operands.eq_39 (And.intro @Op.operands.eq_40 (And.intro @Op.operands.eq_41 (And.intro @Op.operands.eq_42 (And.intro @Op.operands.eq_43 (And.intro @Call.operands.eq_1 (And.intro @SG (And.intro @Array.toList_append.{0} (And.intro @hapB.eq_1 (And.intro @effIds.eq_1 (And.intro @effIds.eq_2 (And.intro @effSet.eq_1 (And.intro @effSet.eq_2 (And.intro @nextFresh.eq_1 (And.intro @nextFresh.eq_2 (And.intro @ard.eq_1 (And.intro @ard.eq_2 (And.intro @ard.eq_3 (And.intro @ard.eq_4 (And.intro @freshOk.eq_1 (And.intro @freshOk.eq_2 (And.intro @isUnborn.eq_1 (And.intro @Nat.le_refl (And.intro @decide_true (And.intro @Bool.true_or (And.intro @Bool.or_true (And.intro @List.all_cons.{0} (And.intro @List.all_nil.{0} (@Bool.and_true))))))))))))))))))))))))))))))))))))))))))))))))))))))))))))))))))))))))))))))))) := And.intro @xq.eq_1 (And.intro @xq.eq_2 (And.intro @xd0.eq_1 (And.intro @xd0.eq_2 (And.intro @xd1.eq_1 (And.intro @xd1.eq_2 (And.intro @xd2.eq_1 (And.intro @xd2.eq_2 (And.intro @xd4.eq_1 (And.intro @xd4.eq_2 (And.intro @xchk.eq_1 (And.intro @gcond.eq_1 (And.intro @gop.eq_1 (And.intro @gop.eq_2 (And.intro @Op.operands.eq_1 (And.intro @Op.operands.eq_2 (And.intro @Op.operands.eq_3 (And.intro @Op.operands.eq_4 (And.intro @Op.operands.eq_5 (And.intro @Op.operands.eq_6 (And.intro @Op.operands.eq_7 (And.intro @Op.operands.eq_8 (And.intro @Op.operands.eq_9 (And.intro @Op.operands.eq_10 (And.intro @Op.operands.eq_11 (And.intro @Op.operands.eq_12 (And.intro @Op.operands.eq_13 (And.intro @Op.operands.eq_14 (And.intro @Op.operands.eq_15 (And.intro @Op.operands.eq_16 (And.intro @Op.operands.eq_17 (And.intro @Op.operands.eq_18 (And.intro @Op.operands.eq_19 (And.intro @Op.operands.eq_20 (And.intro @Op.operands.eq_21 (And.intro @Op.operands.eq_22 (And.intro @Op.operands.eq_23 (And.intro @Op.operands.eq_24 (And.intro @Op.operands.eq_25 (And.intro @Op.operands.eq_26 (And.intro @Op.operands.eq_27 (And.intro @Op.operands.eq_28 (And.intro @Op.operands.eq_29 (And.intro @Op.operands.eq_30 (And.intro @Op.operands.eq_31 (And.intro @Op.operands.eq_32 (And.intro @Op.operands.eq_33 (And.intro @Op.operands.eq_34 (And.intro @Op.operands.eq_35 (And.intro @Op.operands.eq_36 (And.intro @Op.operands.eq_37 (And.intro @Op.operands.eq_38 (And.intro @Op.operands.eq_39 (And.intro @Op.operands.eq_40 (And.intro @Op.operands.eq_41 (And.intro @Op.operands.eq_42 (And.intro @Op.operands.eq_43 (And.intro @Call.operands.eq_1 (And.intro @SG (And.intro @Array.toList_append.{0} (And.intro @hapB.eq_1 (And.intro @effIds.eq_1 (And.intro @effIds.eq_2 (And.intro @effSet.eq_1 (And.intro @effSet.eq_2 (And.intro @nextFresh.eq_1 (And.intro @nextFresh.eq_2 (And.intro @ard.eq_1 (And.intro @ard.eq_2 (And.intro @ard.eq_3 (And.intro @ard.eq_4 (And.intro @freshOk.eq_1 (And.intro @freshOk.eq_2 (And.intro @isUnborn.eq_1 (And.intro @Nat.le_refl (And.intro @decide_true (And.intro @Bool.true_or (And.intro @Bool.or_true (And.intro @List.all_cons.{0} (And.intro @List.all_nil.{0} (@Bool.and_true))))))))))))))))))))))))))))))))))))))))))))))))))))))))))))))))))))))))))))))))
theorem jC : type_of% (And.intro @acallR.eq_def (And.intro @acall.eq_1 (And.intro @acall.eq_2 (@awanted.eq_1)))) := And.intro @acallR.eq_def (And.intro @acall.eq_1 (And.intro @acall.eq_2 (@awanted.eq_1)))
theorem jE : type_of% (And.intro @acallR.eq_def (And.intro @acall.eq_1 (And.intro @acall.eq_2 (And.intro @gcond.eq_1 (And.intro @Op.operands.eq_1 (And.intro @Op.operands.eq_2 (And.intro @Op.operands.eq_3 (And.intro @Op.operands.eq_4 (And.intro @Op.operands.eq_5 (And.intro @Op.operands.eq_6 (And.intro @Op.operands.eq_7 (And.intro @Op.operands.eq_8 (And.intro @Op.operands.eq_9 (And.intro @Op.operands.eq_10 (And.intro @Op.operands.eq_11 (And.intro @Op.operands.eq_12 (And.intro @Op.operands.eq_13 (And.intro @Op.operands.eq_14 (And.intro @Op.operands.eq_15 (And.intro @Op.operands.eq_16 (And.intro @Op.operands.eq_17 (And.intro @Op.operands.eq_18 (And.intro @Op.operands.eq_19 (And.intro @Op.operands.eq_20 (And.intro @Op.operands.eq_21 (And.intro @Op.operands.eq_22 (And.intro @Op.operands.eq_23 (And.intro @Op.operands.eq_24 (And.intro @Op.operands.eq_25 (And.intro @Op.operands.eq_26 (And.intro @Op.operands.eq_27 (And.intro @Op.operands.eq_28 (And.intro @Op.operands.eq_29 (And.intro @Op.operands.eq_30 (And.intro @Op.operands.eq_31 (And.intro @Op.operands.eq_32 (And.intro @Op.operands.eq_33 (And.intro @Op.operands.eq_34 (And.intro @Op.operands.eq_35 (And.intro @Op.operands.eq_36 (And.intro @Op.operands.eq_37 (And.intro @Op.operands.eq_38 (And.intro @Op.operands.eq_39 (And.intro @Op.operands.eq_40 (And.intro @Op.operands.eq_41 (And.intro @Op.operands.eq_42 (And.intro @Op.operands.eq_43 (And.intro @Call.operands.eq_1 (And.intro @SG (@Array.toList_append.{0})))))))))))))))))))))))))))))))))))))))))))))))))) := And.intro @acallR.eq_def (And.intro @acall.eq_1 (And.intro @acall.eq_2 (And.intro @gcond.eq_1 (And.intro @Op.operands.eq_1 (And.intro @Op.operands.eq_2 (And.intro @Op.operands.eq_3 (And.intro @Op.operands.eq_4 (And.intro @Op.operands.eq_5 (And.intro @Op.operands.eq_6 (And.intro @Op.operands.eq_7 (And.intro @Op.operands.eq_8 (And.intro @Op.operands.eq_9 (And.intro @Op.operands.eq_10 (And.intro @Op.operands.eq_11 (And.intro @Op.operands.eq_12 (And.intro @Op.operands.eq_13 (And.intro @Op.operands.eq_14 (And.intro @Op.operands.eq_15 (And.intro @Op.operands.eq_16 (And.intro @Op.operands.eq_17 (And.intro @Op.operands.eq_18 (And.intro @Op.operands.eq_19 (And.intro @Op.operands.eq_20 (And.intro @Op.operands.eq_21 (And.intro @Op.operands.eq_22 (And.intro @Op.operands.eq_23 (And.intro @Op.operands.eq_24 (And.intro @Op.operands.eq_25 (And.intro @Op.operands.eq_26 (And.intro @Op.operands.eq_27 (And.intro @Op.operands.eq_28 (And.intro @Op.operands.eq_29 (And.intro @Op.operands.eq_30 (And.intro @Op.operands.eq_31 (And.intro @Op.operands.eq_32 (And.intro @Op.operands.eq_33 (And.intro @Op.operands.eq_34 (And.intro @Op.operands.eq_35 (And.intro @Op.operands.eq_36 (And.intro @Op.operands.eq_37 (And.intro @Op.operands.eq_38 (And.intro @Op.operands.eq_39 (And.intro @Op.operands.eq_40 (And.intro @Op.operands.eq_41 (And.intro @Op.operands.eq_42 (And.intro @Op.operands.eq_43 (And.intro @Call.operands.eq_1 (And.intro @SG (@Array.toList_append.{0})))))))))))))))))))))))))))))))))))))))))))))))))
theorem jO : type_of% (And.intro @aop.eq_1 (And.intro @aop.eq_2 (And.intro @aop.eq_3 (And.intro @aop.eq_4 (And.intro @aop.eq_5 (And.intro @aop.eq_6 (And.intro @aop.eq_7 (And.intro @aop.eq_8 (And.intro @aop.eq_9 (And.intro @aop.eq_10 (And.intro @aop.eq_11 (And.intro @aop.eq_12 (And.intro @aop.eq_13 (And.intro @aop.eq_14 (And.intro @aop.eq_15 (And.intro @aop.eq_16 (And.intro @aop.eq_17 (And.intro @aop.eq_18 (And.intro @aop.eq_19 (And.intro @aop.eq_20 (And.intro @aop.eq_21 (And.intro @aop.eq_22 (And.intro @aop.eq_23 (And.intro @aload.eq_1 (And.intro @aload.eq_2 (And.intro @aload.eq_3 (And.intro @ajust.eq_1 (And.intro @astore.eq_1 (And.intro @astore.eq_2 (And.intro @splice.eq_1 (And.intro @splice.eq_2 (And.intro @afldAddr.eq_1 (And.intro @afld.eq_def (And.intro @aidxAddr.eq_1 (And.intro @aidxAddr.eq_2 (And.intro @aidxAddr.eq_3 (And.intro @aidx.eq_1 (And.intro @aidx.eq_2 (And.intro @abin.eq_1 (And.intro @abin.eq_2 (And.intro @abin.eq_3 (And.intro @abin.eq_4 (And.intro @abin.eq_5 (And.intro @abin.eq_6 (And.intro @abin.eq_7 (And.intro @abin.eq_8 (And.intro @abin.eq_9 (And.intro @abin.eq_10 (And.intro @abin.eq_11 (And.intro @abin.eq_12 (And.intro @abin.eq_13 (And.intro @abin.eq_14 (And.intro @abin.eq_15 (And.intro @abin.eq_16 (And.intro @abin.eq_17 (And.intro @abin.eq_18 (And.intro @abin.eq_19 (And.intro @abin.eq_20 (And.intro @abin.eq_21 (And.intro @abin.eq_22 (And.intro @abin.eq_23 (And.intro @abin.eq_24 (And.intro @abin.eq_25 (And.intro @abin.eq_26 (And.intro @abin.eq_27 (And.intro @abin.eq_28 (And.intro @abin.eq_29 (And.intro @abin.eq_30 (And.intro @aun.eq_1 (And.intro @aun.eq_2 (And.intro @aun.eq_3 (And.intro @abuiltin.eq_1 (And.intro @abuiltin.eq_2 (And.intro @abuiltin.eq_3 (And.intro @abuiltin.eq_4 (And.intro @abuiltin.eq_5 (And.intro @abuild.eq_1 (And.intro @abuild.eq_2 (And.intro @abuildS.eq_1 (And.intro @abuildS.eq_2 (And.intro @aslice.eq_1 (And.intro @aslice.eq_2 (And.intro @aslice.eq_3 (And.intro @aslice.eq_4 (And.intro @aslice.eq_5 (And.intro @abndO.eq_1 (And.intro @abndO.eq_2 (And.intro @abnd.eq_1 (And.intro @abnd.eq_2 (And.intro @amakeSlice.eq_1 (@amakeSlice.eq_2))))))))))))))))))))))))))))))))))))))))))))))))))))))))))))))))))))))))))))))))))))))))))) := And.intro @aop.eq_1 (And.intro @aop.eq_2 (And.intro @aop.eq_3 (And.intro @aop.eq_4 (And.intro @aop.eq_5 (And.intro @aop.eq_6 (And.intro @aop.eq_7 (And.intro @aop.eq_8 (And.intro @aop.eq_9 (And.intro @aop.eq_10 (And.intro @aop.eq_11 (And.intro @aop.eq_12 (And.intro @aop.eq_13 (And.intro @aop.eq_14 (And.intro @aop.eq_15 (And.intro @aop.eq_16 (And.intro @aop.eq_17 (And.intro @aop.eq_18 (And.intro @aop.eq_19 (And.intro @aop.eq_20 (And.intro @aop.eq_21 (And.intro @aop.eq_22 (And.intro @aop.eq_23 (And.intro @aload.eq_1 (And.intro @aload.eq_2 (And.intro @aload.eq_3 (And.intro @ajust.eq_1 (And.intro @astore.eq_1 (And.intro @astore.eq_2 (And.intro @splice.eq_1 (And.intro @splice.eq_2 (And.intro @afldAddr.eq_1 (And.intro @afld.eq_def (And.intro @aidxAddr.eq_1 (And.intro @aidxAddr.eq_2 (And.intro @aidxAddr.eq_3 (And.intro @aidx.eq_1 (And.intro @aidx.eq_2 (And.intro @abin.eq_1 (And.intro @abin.eq_2 (And.intro @abin.eq_3 (And.intro @abin.eq_4 (And.intro @abin.eq_5 (And.intro @abin.eq_6 (And.intro @abin.eq_7 (And.intro @abin.eq_8 (And.intro @abin.eq_9 (And.intro @abin.eq_10 (And.intro @abin.eq_11 (And.intro @abin.eq_12 (And.intro @abin.eq_13 (And.intro @abin.eq_14 (And.intro @abin.eq_15 (And.intro @abin.eq_16 (And.intro @abin.eq_17 (And.intro @abin.eq_18 (And.intro @abin.eq_19 (And.intro @abin.eq_20 (And.intro @abin.eq_21 (And.intro @abin.eq_22 (And.intro @abin.eq_23 (And.intro @abin.eq_24 (And.intro @abin.eq_25 (And.intro @abin.eq_26 (And.intro @abin.eq_27 (And.intro @abin.eq_28 (And.intro @abin.eq_29 (And.intro @abin.eq_30 (And.intro @aun.eq_1 (And.intro @aun.eq_2 (And.intro @aun.eq_3 (And.intro @abuiltin.eq_1 (And.intro @abuiltin.eq_2 (And.intro @abuiltin.eq_3 (And.intro @abuiltin.eq_4 (And.intro @abuiltin.eq_5 (And.intro @abuild.eq_1 (And.intro @abuild.eq_2 (And.intro @abuildS.eq_1 (And.intro @abuildS.eq_2 (And.intro @aslice.eq_1 (And.intro @aslice.eq_2 (And.intro @aslice.eq_3 (And.intro @aslice.eq_4 (And.intro @aslice.eq_5 (And.intro @abndO.eq_1 (And.intro @abndO.eq_2 (And.intro @abnd.eq_1 (And.intro @abnd.eq_2 (And.intro @amakeSlice.eq_1 (@amakeSlice.eq_2))))))))))))))))))))))))))))))))))))))))))))))))))))))))))))))))))))))))))))))))))))))))))
theorem jL : type_of% (And.intro @aload.eq_1 (And.intro @aload.eq_2 (@aload.eq_3))) := And.intro @aload.eq_1 (And.intro @aload.eq_2 (@aload.eq_3))
theorem jN : type_of% (And.intro @true_and (And.intro @and_true (And.intro @LS (And.intro @SS (And.intro @SX (And.intro @HS (And.intro @mkS_cons (And.intro @mkS_nil (And.intro @eq_self' (And.intro @List.map_nil.{0, 0} (And.intro @beq_self_eq_true.{0} (@Nat.succ_ne_self)))))))))))) := And.intro @true_and (And.intro @and_true (And.intro @LS (And.intro @SS (And.intro @SX (And.intro @HS (And.intro @mkS_cons (And.intro @mkS_nil (And.intro @eq_self' (And.intro @List.map_nil.{0, 0} (And.intro @beq_self_eq_true.{0} (@Nat.succ_ne_self)))))))))))
end Go.Abs
