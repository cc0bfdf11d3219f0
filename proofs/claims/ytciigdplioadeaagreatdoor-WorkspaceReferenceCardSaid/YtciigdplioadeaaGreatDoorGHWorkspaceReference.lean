/- Part 8 of a proof of the law WorkspaceReference: Go data as trees, the walks of the functions that the law reaches, the plain laws. -/
import Derived.Test.YtciigdplioadeaaGreatDoorGGWorkspaceReference
import Derived.Shelf.Strconv.AtoiAll
import Derived.Test.YtciigdplioadeaaGreatDoorProg
import Derived.Laws.StructEq
import Derived.Laws.Cover3
import Derived.Laws.Entries
import Derived.Lib.AtoiErrMem
import Derived.Shelf.Small.Bits
set_option linter.unusedVariables false
set_option linter.unusedSimpArgs false
namespace Go.Proofs
open Go.Shelf
def Tryz.laysC172_ren : Go.Shelf.Ren := ⟨fun | 172 => 107 | 244 => 140 | 245 => 141 | 247 => 159 | 279 => 160 | 280 => 161 | 281 => 162 | 282 => 163 | 287 => 176 | 316 => 177 | 171 => 179 | 205 => 178 | 321 => 191 | 322 => 192 | 243 => 193 | 246 => 204 | 283 => 205 | 284 => 206 | 285 => 207 | 286 => 208 | 129 => 88 | 317 => 209 | 318 => 210 | 319 => 211 | 320 => 212 | 337 => 213 | 338 => 214 | n => n, fun | 9 => 9 | 3 => 3 | 75 => 137 | 76 => 138 | 4 => 4 | 5 => 5 | 167 => 177 | 37 => 141 | 0 => 0 | 85 => 178 | 2 => 2 | 168 => 180 | 53 => 126 | 175 => 186 | 46 => 93 | 210 => 190 | 127 => 168 | 145 => 197 | 143 => 195 | 21 => 21 | 171 => 199 | 173 => 201 | 212 => 205 | 51 => 124 | 20 => 20 | 213 => 206 | 232 => 207 | 233 => 208 | 80 => 145 | n => n, fun | 15 => 3 | 16 => 4 | 17 => 5 | 18 => 6 | 19 => 7 | n => n⟩
theorem Tryz.laysC172 : Go.Proofs.LaysC.n172 Tryz.prog Tryz.laysC172_ren := {
  mixed := by kernel_rfl
  f129 := Tryz.func88.trans (congrArg some (by kernel_rfl))
  f171 := Tryz.func179.trans (congrArg some (by kernel_rfl))
  f172 := Tryz.func107.trans (congrArg some (by kernel_rfl))
  f205 := Tryz.func178.trans (congrArg some (by kernel_rfl))
  f243 := Tryz.func193.trans (congrArg some (by kernel_rfl))
  f244 := Tryz.func140.trans (congrArg some (by kernel_rfl))
  f245 := Tryz.func141.trans (congrArg some (by kernel_rfl))
  f246 := Tryz.func204.trans (congrArg some (by kernel_rfl))
  f247 := Tryz.func159.trans (congrArg some (by kernel_rfl))
  f279 := Tryz.func160.trans (congrArg some (by kernel_rfl))
  f280 := Tryz.func161.trans (congrArg some (by kernel_rfl))
  f281 := Tryz.func162.trans (congrArg some (by kernel_rfl))
  f282 := Tryz.func163.trans (congrArg some (by kernel_rfl))
  f283 := Tryz.func205.trans (congrArg some (by kernel_rfl))
  f284 := Tryz.func206.trans (congrArg some (by kernel_rfl))
  f285 := Tryz.func207.trans (congrArg some (by kernel_rfl))
  f286 := Tryz.func208.trans (congrArg some (by kernel_rfl))
  f287 := Tryz.func176.trans (congrArg some (by kernel_rfl))
  f316 := Tryz.func177.trans (congrArg some (by kernel_rfl))
  f317 := Tryz.func209.trans (congrArg some (by kernel_rfl))
  f318 := Tryz.func210.trans (congrArg some (by kernel_rfl))
  f319 := Tryz.func211.trans (congrArg some (by kernel_rfl))
  f320 := Tryz.func212.trans (congrArg some (by kernel_rfl))
  f321 := Tryz.func191.trans (congrArg some (by kernel_rfl))
  f322 := Tryz.func192.trans (congrArg some (by kernel_rfl))
  f337 := Tryz.func213.trans (congrArg some (by kernel_rfl))
  f338 := Tryz.func214.trans (congrArg some (by kernel_rfl))
  t0 := Tryz.underlying0
  a0 := Tryz.isAgg0
  z0 := Tryz.sizeOf0
  v0 := Tryz.zeroValue0
  t2 := Tryz.underlying2
  a2 := Tryz.isAgg2
  z2 := Tryz.sizeOf2
  v2 := Tryz.zeroValue2
  t3 := Tryz.underlying3
  a3 := Tryz.isAgg3
  z3 := Tryz.sizeOf3
  v3 := Tryz.zeroValue3
  t4 := Tryz.underlying4
  a4 := Tryz.isAgg4
  z4 := Tryz.sizeOf4
  v4 := Tryz.zeroValue4
  t5 := Tryz.underlying5
  a5 := Tryz.isAgg5
  z5 := Tryz.sizeOf5
  v5 := Tryz.zeroValue5
  t9 := Tryz.underlying9
  a9 := Tryz.isAgg9
  z9 := Tryz.sizeOf9
  v9 := Tryz.zeroValue9
  t20 := Tryz.underlying20
  a20 := Tryz.isAgg20
  z20 := Tryz.sizeOf20
  v20 := Tryz.zeroValue20
  t21 := Tryz.underlying21
  a21 := Tryz.isAgg21
  z21 := Tryz.sizeOf21
  v21 := Tryz.zeroValue21
  t37 := Tryz.underlying141
  a37 := Tryz.isAgg141
  z37 := Tryz.sizeOf141
  v37 := Tryz.zeroValue141
  t46 := Tryz.underlying93
  a46 := Tryz.isAgg93
  z46 := Tryz.sizeOf93
  v46 := Tryz.zeroValue93
  t51 := Tryz.underlying124
  a51 := Tryz.isAgg124
  z51 := Tryz.sizeOf124
  v51 := Tryz.zeroValue124
  t53 := Tryz.underlying126
  a53 := Tryz.isAgg126
  z53 := Tryz.sizeOf126
  v53 := Tryz.zeroValue126
  t75 := Tryz.underlying137
  a75 := Tryz.isAgg137
  z75 := Tryz.sizeOf137
  v75 := Tryz.zeroValue137
  t76 := Tryz.underlying138
  a76 := Tryz.isAgg138
  z76 := Tryz.sizeOf138
  v76 := Tryz.zeroValue138
  t85 := Tryz.underlying178
  a85 := Tryz.isAgg178
  z85 := Tryz.sizeOf178
  v85 := Tryz.zeroValue178
  t127 := Tryz.underlying168
  a127 := Tryz.isAgg168
  z127 := Tryz.sizeOf168
  v127 := Tryz.zeroValue168
  t143 := Tryz.underlying195
  a143 := Tryz.isAgg195
  z143 := Tryz.sizeOf195
  v143 := Tryz.zeroValue195
  t145 := Tryz.underlying197
  a145 := Tryz.isAgg197
  z145 := Tryz.sizeOf197
  v145 := Tryz.zeroValue197
  t167 := Tryz.underlying177
  a167 := Tryz.isAgg177
  z167 := Tryz.sizeOf177
  v167 := Tryz.zeroValue177
  t168 := Tryz.underlying180
  a168 := Tryz.isAgg180
  z168 := Tryz.sizeOf180
  v168 := Tryz.zeroValue180
  t171 := Tryz.underlying199
  a171 := Tryz.isAgg199
  z171 := Tryz.sizeOf199
  v171 := Tryz.zeroValue199
  t173 := Tryz.underlying201
  a173 := Tryz.isAgg201
  z173 := Tryz.sizeOf201
  v173 := Tryz.zeroValue201
  t175 := Tryz.underlying186
  a175 := Tryz.isAgg186
  z175 := Tryz.sizeOf186
  v175 := Tryz.zeroValue186
  t210 := Tryz.underlying190
  a210 := Tryz.isAgg190
  z210 := Tryz.sizeOf190
  v210 := Tryz.zeroValue190
  t212 := Tryz.underlying205
  a212 := Tryz.isAgg205
  z212 := Tryz.sizeOf205
  v212 := Tryz.zeroValue205
  t213 := Tryz.underlying206
  a213 := Tryz.isAgg206
  z213 := Tryz.sizeOf206
  t232 := Tryz.underlying207
  a232 := Tryz.isAgg207
  z232 := Tryz.sizeOf207
  v232 := Tryz.zeroValue207
  t233 := Tryz.underlying208
  a233 := Tryz.isAgg208
  z233 := Tryz.sizeOf208
  v233 := Tryz.zeroValue208
  g15 := by kernel_rfl
  g16 := by kernel_rfl
  g17 := by kernel_rfl
  g18 := by kernel_rfl
  g19 := by kernel_rfl
  t80 := Tryz.underlying145
  a80 := Tryz.isAgg145
  z80 := Tryz.sizeOf145
  v80 := Tryz.zeroValue145
  i0 := by kernel_rfl
  i2 := by kernel_rfl
  i3 := by kernel_rfl
  i4 := by kernel_rfl
  i5 := by kernel_rfl
  i9 := by kernel_rfl
  i20 := by kernel_rfl
  i21 := by kernel_rfl
  i37 := by kernel_rfl
  i46 := by kernel_rfl
  i51 := by kernel_rfl
  i53 := by kernel_rfl
  i75 := by kernel_rfl
  i76 := by kernel_rfl
  i80 := by kernel_rfl
  i85 := by kernel_rfl
  i127 := by kernel_rfl
  i143 := by kernel_rfl
  i145 := by kernel_rfl
  i167 := by kernel_rfl
  i168 := by kernel_rfl
  i171 := by kernel_rfl
  i173 := by kernel_rfl
  i175 := by kernel_rfl
  i210 := by kernel_rfl
  i212 := by kernel_rfl
  i232 := by kernel_rfl
  i233 := by kernel_rfl
  m15 := by kernel_rfl
  m16 := by kernel_rfl
  m17 := by kernel_rfl
  m18 := by kernel_rfl
  m19 := by kernel_rfl
  c0 := by kernel_rfl
  c2 := by kernel_rfl
  c3 := by kernel_rfl
  c4 := by kernel_rfl
  c5 := by kernel_rfl
  c9 := by kernel_rfl
  c20 := by kernel_rfl
  c21 := by kernel_rfl
  c37 := by kernel_rfl
  c46 := by kernel_rfl
  c51 := by kernel_rfl
  c53 := by kernel_rfl
  c75 := by kernel_rfl
  c76 := by kernel_rfl
  c80 := by kernel_rfl
  c85 := by kernel_rfl
  c127 := by kernel_rfl
  c143 := by kernel_rfl
  c145 := by kernel_rfl
  c167 := by kernel_rfl
  c168 := by kernel_rfl
  c171 := by kernel_rfl
  c173 := by kernel_rfl
  c175 := by kernel_rfl
  c210 := by kernel_rfl
  c212 := by kernel_rfl
  c213 := by kernel_rfl
  c232 := by kernel_rfl
  c233 := by kernel_rfl }
open Go.RowKit in
theorem Tryz.strconv_Atoi_ok (s : ByteArray) (hmax : s.size ≤ 9223372036854775806) (v : Int) (h : Lib.atoiAll s.data.toList = .ok v) (w : World) :
    Calls Tryz.prog 107 #[.string s] w fun e w' => e = .returned (.tuple #[.int .i64 v, .nilIface]) ∧ (w' = w ∨ ∃ t, w' = Lib.bytesWorld w 5 t) := Any.strconv_Atoi_ok Tryz.laysC172 s hmax v h w
end Go.Proofs
set_option maxRecDepth 8000
namespace Go.Abs
theorem VRel.ifc_inv {V : View} {v : Value} {q : Option (TypeId × Value)} (h : VRel V v (.ifc q)) : (q = none ∧ v = .nilIface) ∨ ∃ t u, q = some (t, u) ∧ v = .iface t u := by
  cases h with
  | nili => exact .inl ⟨rfl, rfl⟩
  | ifc t u => exact .inr ⟨t, u, rfl, rfl⟩
section
variable {P : Program} {N nb : Nat} {ops : Array Oper} {Q : Post}
theorem run_eqInNil (d : Nat) {t : TypeId} {ms} (hu : P.underlying t = some (.interface ms)) (w : World) : (Op.equalIn (d + 1) t .nilIface .nilIface).run P w = .ok true w := by
  simp [Op.equalIn, run_underlying hu]
theorem run_eqInIfc (d : Nat) {t : TypeId} {ms} (hu : P.underlying t = some (.interface ms)) (w : World) (e : TypeId) (u : Value) : (Op.equalIn (d + 1) t (.iface e u) .nilIface).run P w = .ok false w := by
  simp [Op.equalIn, run_underlying hu]
theorem run_eqNil {t : TypeId} {ms} (hu : P.underlying t = some (.interface ms)) (w : World) : (Op.equal t .nilIface .nilIface).run P w = .ok true w ∧ ∀ d u, (Op.equal t (.iface d u) .nilIface).run P w = .ok false w :=
  ⟨run_eqInNil 9999 hu w, fun d u => run_eqInIfc 9999 hu w d u⟩
theorem aops_neqNil {o : Oper} {l : List Oper} {T : Slots} {H : Heap} {t t' : TypeId} {x : Operand} {q : Option (TypeId × Value)} {ms} (hu : P.underlying t = some (.interface ms)) (hw : awanted ops.toList T N o = some true)
    (hop : o.op = .binOp .neq t x (.const .nilIface) t') (okx : okOpnd N x = true) (hx : aev T x = .ifc q) (h : AOps P N nb ops Q l (updO T o.dst (.bool q.isSome)) H) : AOps P N nb ops Q (o :: l) T H := by
  refine aops_done hw (fun E a ho hH ht => ?_) h
  have rx := vrel_eval ht x okx
  rw [hx] at rx
  refine ⟨E, .bool q.isSome, .inl ?_, .refl E, ho, hH, .bool _⟩
  unfold execOp
  rw [hop]
  rcases rx.ifc_inv with ⟨rfl, e⟩ | ⟨d, u, rfl, e⟩
  · have hz : a.eval (.const .nilIface) = .nilIface := rfl
    simp only [Sem.run_bind, e, hz, eqGuard_nil_constR, Sem.run_pure, Result.andThen_ok, binOp, (run_eqNil hu E.w).1]
    rfl
  · have hz : a.eval (.const .nilIface) = .nilIface := rfl
    simp only [Sem.run_bind, e, hz, eqGuard_at_iface, Sem.run_pure, Result.andThen_ok, binOp, (run_eqNil hu E.w).2]
    rfl
def orI (a b : Int) : Int := IntKind.i64.wrap ((BitVec.ofInt 64 a ||| BitVec.ofInt 64 b).toNat : Int)
def andI (a b : Int) : Int := IntKind.i64.wrap ((BitVec.ofInt 64 a &&& BitVec.ofInt 64 b).toNat : Int)
theorem aops_val {o : Oper} {l : List Oper} {T : Slots} {H : Heap} {v : PV} (hw : awanted ops.toList T N o = some true)
    (hv : ∀ (E : Env) (a : Act), E.Ok → (∀ x ∈ o.op.operands.toList, okOpnd N x = true → VRel E.view (a.eval x) (aev T x)) → ∃ val, (execOp a.eval o).run P E.w = .ok (.value val) E.w ∧ VRel E.view val v)
    (h : AOps P N nb ops Q l (updO T o.dst v) H) : AOps P N nb ops Q (o :: l) T H := by
  refine aops_done hw (fun E a ho hE ht => ?_) h
  obtain ⟨val, h1, h2⟩ := hv E a ho fun x hx hok => vrel_eval ht x hok
  exact ⟨E, val, .inl h1, .refl E, ho, hE, h2⟩
theorem val_bits {o : Oper} {T : Slots} {t t' : TypeId} {op : BinOp} {x y : Operand} {m n r : Int} (hop : o.op = .binOp op t x y t') (hb : (op = .or ∧ r = orI m n) ∨ (op = .and ∧ r = andI m n)) (okx : okOpnd N x = true) (oky : okOpnd N y = true) (hx : aev T x = .int .i64 m) (hy : aev T y = .int .i64 n)
    (E : Env) (a : Act) (ho : E.Ok) (hvs : ∀ x ∈ o.op.operands.toList, okOpnd N x = true → VRel E.view (a.eval x) (aev T x)) : ∃ val, (execOp a.eval o).run P E.w = .ok (.value val) E.w ∧ VRel E.view val (.int .i64 r) := by
  have rx := hvs x (by rw [hop]; simp [Op.operands]) okx
  have ry := hvs y (by rw [hop]; simp [Op.operands]) oky
  rw [hx] at rx
  rw [hy] at ry
  have vx := rx.int_inv
  have vy := ry.int_inv
  refine ⟨.int .i64 r, ?_, .int _ _⟩
  unfold execOp
  rw [hop]
  rcases hb with ⟨rfl, rfl⟩ | ⟨rfl, rfl⟩
  · simp only [Sem.run_bind, vx, vy, eqGuard_at_int, Sem.run_pure, Result.andThen_ok, binOp, Op.intBits]
    simp only [ne_eq, not_true_eq_false, if_false, Sem.run_pure, Result.andThen_ok]
    rfl
  · simp only [Sem.run_bind, vx, vy, eqGuard_at_int, Sem.run_pure, Result.andThen_ok, binOp, Op.intBits]
    simp only [ne_eq, not_true_eq_false, if_false, Sem.run_pure, Result.andThen_ok]
    rfl
end
end Go.Abs
namespace Go.Abs
open Go.Proofs
def hasNameL : List Int := [2, 3, 4, 5, 6, 8, 9, 11, 13, 14, 15, 16, 18, 31, 32, 34, 44]
def hasNameB (k : Int) : Bool := hasNameL.any fun x => decide (k = x)
def extM (n : Nd) (a b : Int) : Nd := ⟨n.kind, n.value, n.text, if n.en < 0 then a else n.st, b, n.ns, n.kids⟩
def setV (n : Nd) (v : Int) : Nd := ⟨n.kind, v, n.text, n.st, n.en, n.ns, n.kids⟩
def setT (n : Nd) (t : List UInt8) : Nd := ⟨n.kind, n.value, t, n.st, n.en, n.ns, n.kids⟩
def setTN (n : Nd) (t : List UInt8) (s : Int) : Nd := ⟨n.kind, n.value, t, n.st, n.en, s, n.kids⟩
def setSE (n : Nd) (s e : Int) : Nd := ⟨n.kind, n.value, n.text, s, e, n.ns, n.kids⟩
def addK (n m : Nd) : Nd := ⟨n.kind, n.value, n.text, n.st, n.en, n.ns, n.kids ++ [m]⟩
def flagM (n : Nd) (t : List UInt8) : Nd :=
  if decide (t = [112, 117, 98]) = true then setV n (orI n.value 1)
  else if decide (t = [109, 117, 116]) = true then setV n (orI n.value 1)
  else if (decide (t = [42]) && decide (n.kind = 2)) = true then setV n (orI n.value 2)
  else if (decide (t = [116, 114, 117, 101]) && decide (n.kind = 28)) = true then setV n 1
  else if ((decide (n.kind = 39) || decide (n.kind = 40)) && decide (n.text = [])) = true then setT n t
  else n
def identM' (n : Nd) (t : List UInt8) (st : Int) : Nd := if (hasNameB n.kind && decide (n.ns < 0)) = true then setTN n t st else n
def tokA (t : St) (off : Nat) (n : Nd) : Option (Nat × Nd) :=
  let e := off + t.text.length
  if e < lim then
    if decide (t.kind = 101) = true then some (e, n) else if decide (t.kind = 102) = true then some (e, n)
    else if decide (t.kind = 108) = true then none
    else if decide (t.kind = 103) = true then (if t.text.length ≤ 30 then some (e, extM (identM' n t.text off) off e) else none)
    else if decide (t.kind = 105) = true then (match Lib.atoiAll t.text with
      | .ok v => if v ≤ 2147483647 then some (e, extM (setV n v) off e) else none
      | _ => none)
    else if decide (t.kind = 106) = true then none
    else some (e, extM (flagM n t.text) off e)
  else none
def finA (n : Nd) : Option Nd := if decide (n.kind = 60) = true then (match n.kids with | c :: _ => some (setSE c n.st n.en) | [] => none) else if decide (n.kind = 46) = true then none else some n
mutual
def nodeA : St → Nat → Option (Nat × Nd)
  | .mk k _ ch, off => if ch.length < lim then (kidsA ch off ⟨k, 0, [], off, -1, -1, []⟩).bind fun r => (finA (setSE r.2 r.2.st (max r.2.en r.2.st))).bind fun m => some (r.1, m) else none
def kidsA : List St → Nat → Nd → Option (Nat × Nd)
  | [], off, n => some (off, n)
  | c :: cs, off, n => if decide (c.kind ≥ 100) = true then (tokA c off n).bind fun r => kidsA cs r.1 r.2
    else (nodeA c off).bind fun r => if n.kids.length < lim then kidsA cs r.1 (addK (extM n r.2.st r.2.en) r.2) else none
end
theorem set_same {H : Heap} {i : Nat} {o : AObj} (h : H[i]? = some o) : H.set i o = H := by
  obtain ⟨hl, e⟩ := List.getElem?_eq_some_iff.1 h
  rw [← e]; exact List.set_getElem_self hl
theorem atoi_c (t : List UInt8) (hs : t.length ≤ 9223372036854775806) (v : Int) (h : Lib.atoiAll t = .ok v) {H : Heap} : ACalls Tryz.prog 107 [.str t] H fun r' H' => r' = .tup [.int .i64 v, .ifc none] ∧ H' = H := by
  refine acalls_below fun E vargs ho hH hrl => ?_
  obtain ⟨v0, rfl, h0⟩ := rl_one hrl
  cases h0 with
  | str z =>
    refine ⟨.tuple #[.int .i64 v, .nilIface], .tup _ _ rfl fun i hi => ?_, (Tryz.strconv_Atoi_ok z (by rw [Lib.size_eq]; exact hs) v h E.w).mono fun e w' ⟨h1, h2⟩ => ⟨h1, ?_⟩⟩
    · match i, hi with
      | 0, _ => exact .int _ _
      | 1, _ => exact .nili
    · rcases h2 with rfl | ⟨t, rfl⟩
      · exact ⟨rfl, rfl, rfl, Nat.le_refl _, fun _ _ => rfl⟩
      · exact Lib.bytesWorld_below _ _ _
end Go.Abs
set_option maxRecDepth 4000
namespace Go.Abs
open Go.Proofs
theorem extend_c {H : Heap} {i : Nat} {n : Nd} {cv : PV} (hr : H[i]? = some (.row [.int .i64 n.kind, .int .i64 n.value, .str n.text, .int .i64 n.st, .int .i64 n.en, .int .i64 n.ns, cv])) (a b : Int) : ACalls Tryz.prog 52 [.optr i 0, .int .i64 a, .int .i64 b] H fun r H' => r = .tup [] ∧ H' = H.set i (.row [.int .i64 (extM n a b).kind, .int .i64 (extM n a b).value, .str (extM n a b).text, .int .i64 (extM n a b).st, .int .i64 (extM n a b).en, .int .i64 (extM n a b).ns, cv]) := by
 have hil := lG hr
 have hs1 : ∀ o, (H.set i o)[i]? = some o := fun o => List.getElem?_set_self hil
 have hs2 : ∀ o o2, (H.set i o).set i o2 = H.set i o2 := fun o o2 => List.set_set ..
 have nI : (i = H.length) = False := by simp; omega
 refine aF (N := 19) Tryz.func52 rfl rfl (by simp) fun hb' => ?_
 repeat refine wS ?_
 refine eE (by simp only [kA, seval, y3, y48, vint, hr, hs1, hs2, nI, lS] <;> with_reducible rfl) (by decide) ?_
 repeat refine wS ?_
 refine wC rfl (by simp only [jN, seval, vint, hr, hs1, hs2, nI, lS] <;> with_reducible rfl) (fun bt10 => ?_) (fun bt10 => ?_)
 ·-- if t10
  have he := of_decide_eq_true bt10
  have hx : extM n a b = ⟨n.kind, n.value, n.text, a, b, n.ns, n.kids⟩ := by unfold extM; rw [if_pos he]
  repeat refine wS ?_
  refine eE (by simp only [kA, seval, y3, y48, vint, hr, hs1, hs2, nI, lS] <;> with_reducible rfl) (by decide) ?_
  repeat refine wS ?_
  refine eE (by simp only [kA, seval, y3, y48, vint, hr, hs1, hs2, nI, lS] <;> with_reducible rfl) (by decide) ?_
  refine ⟨.inl rfl, _, rfl, ?_⟩
  rw [hx]; exact ⟨rfl, rfl⟩
 ·-- else t10
  have he := of_decide_eq_false bt10
  have hx : extM n a b = ⟨n.kind, n.value, n.text, n.st, b, n.ns, n.kids⟩ := by unfold extM; rw [if_neg he]
  repeat refine wS ?_
  refine wK ?_
  repeat refine wS ?_
  refine eE (by simp only [kA, seval, y3, y48, vint, hr, hs1, hs2, nI, lS] <;> with_reducible rfl) (by decide) ?_
  refine ⟨.inl rfl, _, rfl, ?_⟩
  rw [hx]; exact ⟨rfl, rfl⟩
theorem setFlag_c {H : Heap} {i : Nat} {n : Nd} {cv : PV} (hr : H[i]? = some (.row [.int .i64 n.kind, .int .i64 n.value, .str n.text, .int .i64 n.st, .int .i64 n.en, .int .i64 n.ns, cv])) (text : List UInt8) : ACalls Tryz.prog 78 [.optr i 0, .str text] H fun r H' => r = .tup [] ∧ H' = H.set i (.row [.int .i64 (flagM n text).kind, .int .i64 (flagM n text).value, .str (flagM n text).text, .int .i64 (flagM n text).st, .int .i64 (flagM n text).en, .int .i64 (flagM n text).ns, cv]) := by
 have hil := lG hr
 have hs1 : ∀ o, (H.set i o)[i]? = some o := fun o => List.getElem?_set_self hil
 have hs2 : ∀ o o2, (H.set i o).set i o2 = H.set i o2 := fun o o2 => List.set_set ..
 have nI : (i = H.length) = False := by simp; omega
 refine aF (N := 78) Tryz.func78 rfl rfl (by simp) fun hb' => ?_
 repeat refine wS ?_
 refine awp_block ?_
 repeat refine wS ?_
 refine eE (by simp only [kA, seval, y9, vint, hr, hs1, hs2, nI, lS] <;> with_reducible rfl) (by decide) ?_
 repeat refine wS ?_
 refine wC rfl (by simp only [jN, seval, vint, hr, hs1, hs2, nI, lS] <;> with_reducible rfl) (fun bt4 => ?_) (fun bt4 => ?_)
 ·-- if t4
  have hx : flagM n text = setV n (orI n.value 1) := by unfold flagM; rw [if_pos bt4]
  repeat refine wS ?_
  refine wR ?_
  refine eT 4 (by simp only [kA, seval, y3, y48, vint, hr, hs1, hs2, nI, lS] <;> with_reducible rfl) (by decide) ?_
  refine aops_val (by simp only [kC, seval, vint, hr, hs1, hs2, nI, lS]) (val_bits (op := .or) (m := n.value) (n := 1) (r := orI n.value 1) rfl (.inl ⟨rfl, rfl⟩) (by decide) (by decide) (by simp only [kC, seval, vint, hr, hs1, hs2, nI, lS] <;> first | done | rfl) (by simp only [kC, seval, vint, hr, hs1, hs2, nI, lS] <;> first | done | rfl)) ?_
  refine e_end (by simp only [kA, seval, y3, y48, vint, hr, hs1, hs2, nI, lS] <;> with_reducible rfl) (by decide) ?_
  refine ⟨.inl rfl, _, rfl, ?_⟩
  rw [hx]; first | exact ⟨rfl, rfl⟩ | exact ⟨rfl, (set_same hr).symm⟩
 ·-- else t4
  repeat refine wS ?_
  refine eE (by simp only [kA, seval, y9, vint, hr, hs1, hs2, nI, lS] <;> with_reducible rfl) (by decide) ?_
  repeat refine wS ?_
  refine wC rfl (by simp only [jN, seval, vint, hr, hs1, hs2, nI, lS] <;> with_reducible rfl) (fun bt14 => ?_) (fun bt14 => ?_)
  ·-- if t14
   have hx : flagM n text = setV n (orI n.value 1) := by unfold flagM; rw [if_neg (by rw [bt4]; simp)]; rw [if_pos bt14]
   repeat refine wS ?_
   refine wR ?_
   refine eT 4 (by simp only [kA, seval, y3, y48, vint, hr, hs1, hs2, nI, lS] <;> with_reducible rfl) (by decide) ?_
   refine aops_val (by simp only [kC, seval, vint, hr, hs1, hs2, nI, lS]) (val_bits (op := .or) (m := n.value) (n := 1) (r := orI n.value 1) rfl (.inl ⟨rfl, rfl⟩) (by decide) (by decide) (by simp only [kC, seval, vint, hr, hs1, hs2, nI, lS] <;> first | done | rfl) (by simp only [kC, seval, vint, hr, hs1, hs2, nI, lS] <;> first | done | rfl)) ?_
   refine e_end (by simp only [kA, seval, y3, y48, vint, hr, hs1, hs2, nI, lS] <;> with_reducible rfl) (by decide) ?_
   refine ⟨.inl rfl, _, rfl, ?_⟩
   rw [hx]; first | exact ⟨rfl, rfl⟩ | exact ⟨rfl, (set_same hr).symm⟩
  ·-- else t14
   repeat refine wS ?_
   refine g_eval (by simp only [jG, jO, jN, seval, y3, y9, y48, vint, hr, hs1, hs2, nI, lS] <;> with_reducible rfl) (by decide) (by repeat (first | exact Fin.base _ | with_reducible apply Fin.keep | apply Fin.drop)) ?_
   repeat refine wS ?_
   refine wC rfl (by simp only [jN, seval, vint, hr, hs1, hs2, nI, lS] <;> with_reducible rfl) (fun bt24 => ?_) (fun bt24 => ?_)
   ·-- if t24
    have hx : flagM n text = setV n (orI n.value 2) := by unfold flagM; rw [if_neg (by rw [bt4]; simp)]; rw [if_neg (by rw [bt14]; simp)]; rw [if_pos bt24]
    refine wL [0] (by simp only [jN, seval, vint, hr, hs1, hs2, nI, lS] <;> with_reducible rfl) ?_
    repeat refine wS ?_
    refine wR ?_
    refine eT 4 (by simp only [kA, seval, y3, y48, vint, hr, hs1, hs2, nI, lS] <;> with_reducible rfl) (by decide) ?_
    refine aops_val (by simp only [kC, seval, vint, hr, hs1, hs2, nI, lS]) (val_bits (op := .or) (m := n.value) (n := 2) (r := orI n.value 2) rfl (.inl ⟨rfl, rfl⟩) (by decide) (by decide) (by simp only [kC, seval, vint, hr, hs1, hs2, nI, lS] <;> first | done | rfl) (by simp only [kC, seval, vint, hr, hs1, hs2, nI, lS] <;> first | done | rfl)) ?_
    refine e_end (by simp only [kA, seval, y3, y48, vint, hr, hs1, hs2, nI, lS] <;> with_reducible rfl) (by decide) ?_
    refine ⟨.inl rfl, _, rfl, ?_⟩
    rw [hx]; first | exact ⟨rfl, rfl⟩ | exact ⟨rfl, (set_same hr).symm⟩
   ·-- else t24
    refine wL [0, 1] (by simp only [jN, seval, vint, hr, hs1, hs2, nI, lS] <;> with_reducible rfl) ?_
    repeat refine wS ?_
    refine g_eval (by simp only [jG, jO, jN, seval, y3, y9, y48, vint, hr, hs1, hs2, nI, lS] <;> with_reducible rfl) (by decide) (by repeat (first | exact Fin.base _ | with_reducible apply Fin.keep | apply Fin.drop)) ?_
    repeat refine wS ?_
    refine wC rfl (by simp only [jN, seval, vint, hr, hs1, hs2, nI, lS] <;> with_reducible rfl) (fun bt41 => ?_) (fun bt41 => ?_)
    ·-- if t41
     have hx : flagM n text = setV n 1 := by unfold flagM; rw [if_neg (by rw [bt4]; simp)]; rw [if_neg (by rw [bt14]; simp)]; rw [if_neg (by rw [bt24]; simp)]; rw [if_pos bt41]
     repeat refine wS ?_
     refine eE (by simp only [kA, seval, y3, y48, vint, hr, hs1, hs2, nI, lS] <;> with_reducible rfl) (by decide) ?_
     refine ⟨.inl rfl, _, rfl, ?_⟩
     rw [hx]; first | exact ⟨rfl, rfl⟩ | exact ⟨rfl, (set_same hr).symm⟩
    ·-- else t41
     repeat refine wS ?_
     refine g_eval (by simp only [jG, jO, jN, seval, y3, y9, y48, vint, hr, hs1, hs2, nI, lS] <;> with_reducible rfl) (by decide) (by repeat (first | exact Fin.base _ | with_reducible apply Fin.keep | apply Fin.drop)) ?_
     repeat refine wS ?_
     refine wC rfl (by simp only [jN, seval, vint, hr, hs1, hs2, nI, lS] <;> with_reducible rfl) (fun bt54 => ?_) (fun bt54 => ?_)
     ·-- if t54
      have hx : flagM n text = setT n text := by unfold flagM; rw [if_neg (by rw [bt4]; simp)]; rw [if_neg (by rw [bt14]; simp)]; rw [if_neg (by rw [bt24]; simp)]; rw [if_neg (by rw [bt41]; simp)]; rw [if_pos bt54]
      refine wL [0, 1] (by simp only [jN, seval, vint, hr, hs1, hs2, nI, lS] <;> with_reducible rfl) ?_
      repeat refine wS ?_
      refine eE (by simp only [kA, seval, y9, y48, vint, hr, hs1, hs2, nI, lS] <;> with_reducible rfl) (by decide) ?_
      refine ⟨.inl rfl, _, rfl, ?_⟩
      rw [hx]; first | exact ⟨rfl, rfl⟩ | exact ⟨rfl, (set_same hr).symm⟩
     ·-- else t54
      have hx : flagM n text = n := by unfold flagM; rw [if_neg (by rw [bt4]; simp)]; rw [if_neg (by rw [bt14]; simp)]; rw [if_neg (by rw [bt24]; simp)]; rw [if_neg (by rw [bt41]; simp)]; rw [if_neg (by rw [bt54]; simp)]
      repeat refine wS ?_
      refine wK ?_
      refine ⟨.inl rfl, _, rfl, ?_⟩
      rw [hx]; first | exact ⟨rfl, rfl⟩ | exact ⟨rfl, (set_same hr).symm⟩
theorem indexInt (xs : List Int) (k : Int) (hx : xs.length ≤ maxLen) : PC Tryz.prog 158 [.slice (xs.map vint) .none, vint k] (vint (idxI (fun x => decide (k = x)) xs)) := by
 refine pc_of (N := 19) Tryz.func158 rfl rfl (by simp) (by simp [bel_ints0, Bel.int]) (.int _ _) ?_
 repeat refine wS ?_
 refine eE (by simp only [kA, seval, vint] <;> with_reducible rfl) (by decide) ?_
 repeat refine wS ?_
 refine eE (by simp only [kA, seval, y3, y127, vint] <;> with_reducible rfl) (by decide) ?_
 repeat refine wS ?_
 refine awp_forS (σ := Unit) (xs.length) (fun (s : Unit) => [(0, .slice (xs.map vint) .none), (1, vint k)]) [0, 1] ([]) (fun (s : Unit) => []) (fun (i : Nat) (s : Unit) => (xs.take i).any (fun x => decide (k = x)) = false) (()) ([]) rfl rfl rfl rfl rfl rfl rfl rfl rfl (by decide) (by decide) (by decide) (fun _ => rfl) (hx) ⟨(by first | rfl | (simp only [jN, seval, vint] <;> first | done | with_reducible rfl)), (by first | rfl | (simp only [jN, seval, vint] <;> first | done | with_reducible rfl)), (by first | rfl | (simp only [jN, seval, vint] <;> first | done | with_reducible rfl)), (by first | rfl | (simp only [jN, seval, vint] <;> first | done | with_reducible rfl)), trivial⟩ (by first | rfl | (simp only [jN, seval, vint] <;> first | done | with_reducible rfl)) (by simp) (fun _ _ _ => by first | exact Nat.zero_le _ | (simp only [List.length_append]; omega)) ?_ ?_ ?_
 ·exact fun i s hg => ⟨by first | exact hbel_nil _ | (simp only [List.append_nil]; assumption) | (refine hbel_app' hb' (by simp) ?_; repeat (first | exact hbel_nil _ | exact trivial | exact obel_row_nil _ | (refine HBel.cons ?_ ?_) | (refine obel_row_cons (by first | exact Tk.bel _ _ | exact St.bel _ _ | exact Nd.bel _ _ | exact bel_strs0 _ _ | exact bel_St _ _ | exact bel_ints0 _ _ | exact bel_Nd _ _ | exact bel_nil0 _ | exact bel_nil1 _ | exact Bel.optr _ _ (by first | (simp; done) | (simp; omega)) | exact Bel.int _ _ | exact Bel.bool _ | exact Bel.str _ | exact Bel.nilp | exact Bel.nilfn | exact Bel.optr _ _ (by simp) | exact bel_nil0 _ | exact bel_nil1 _ | exact bel_fn0 _ _ | assumption) ?_))), by repeat (first | exact BelL.nil | refine BelL.cons (by first | exact Tk.bel _ _ | exact St.bel _ _ | exact Nd.bel _ _ | exact bel_strs0 _ _ | exact bel_St _ _ | exact bel_ints0 _ _ | exact bel_Nd _ _ | exact bel_nil0 _ | exact bel_nil1 _ | exact Bel.optr _ _ (by first | (simp; done) | (simp; omega)) | exact Bel.int _ _ | exact Bel.bool _ | exact Bel.str _ | exact Bel.nilp | exact Bel.nilfn | exact Bel.optr _ _ (by simp) | exact bel_nil0 _ | exact bel_nil1 _ | exact bel_fn0 _ _ | assumption) ?_)⟩
 ·intro i s hi hg
  have g1 := ix_nat hi
  have g2 := get_enc vint hi
  repeat refine wS ?_
  refine eE (by simp only [kA, seval, vint, g1, tN, g2] <;> with_reducible rfl) (by decide) ?_
  repeat refine wS ?_
  refine eE (by simp only [kA, seval, y3, y127, vint, g1, tN, g2] <;> with_reducible rfl) (by decide) ?_
  repeat refine wS ?_
  refine wC rfl (by simp only [jN, seval, vint, g1, tN, g2] <;> with_reducible rfl) (fun b0 => ?_) (fun b0 => ?_)
  ·-- if t16
   repeat refine wS ?_
   refine eE (by simp only [kA, seval, vint, g1, tN, g2] <;> with_reducible rfl) (by decide) ?_
   repeat refine wS ?_
   refine wT ⟨.inr rfl, _, rfl, ?_⟩
   rw [idxI_at hi b0 hg]; rfl
  ·-- else t16
   repeat refine wS ?_
   refine wK ?_
   exact ⟨⟨rfl, rfl, trivial⟩, (), [], ⟨rfl, rfl, trivial⟩, rfl, any_take_succ hi hg b0⟩
 ·intro s hg
  rw [List.take_length] at hg
  repeat refine wS ?_
  refine eE (by simp only [kA, seval, vint] <;> with_reducible rfl) (by decide) ?_
  repeat refine wS ?_
  refine wT ⟨.inr rfl, _, rfl, ?_⟩
  rw [idxI_none hg]; rfl
theorem containsInt (xs : List Int) (k : Int) (hx : xs.length ≤ maxLen) : PC Tryz.prog 139 [.slice (xs.map vint) .none, vint k] (.bool (xs.any fun x => decide (k = x))) := by
 refine pc_of (N := 9) Tryz.func139 rfl rfl (by simp) (by simp [bel_ints0, Bel.int]) (.bool _) ?_
 repeat refine wS ?_
 refine eE (by simp only [kA, seval, vint] <;> with_reducible rfl) (by decide) ?_
 repeat refine wS ?_
 refine wR ?_
 refine eT 2 (by simp only [kA, seval, vint] <;> with_reducible rfl) (by decide) ?_
 refine oP (by simp only [kC, seval, vint] <;> with_reducible rfl) (by simp only [kC, seval]) (by decide) Tryzgo158 (indexInt xs k hx _) ?_
 refine e_end (by simp only [kA, seval, y3, vint] <;> with_reducible rfl) (by decide) ?_
 repeat refine wS ?_
 refine wT ⟨.inr rfl, _, rfl, ?_⟩
 rw [← idxI_nonneg]; rfl
theorem hasName_c (k : Int) : PC Tryz.prog 106 [vint k] (.bool (hasNameB k)) := by
 refine pc_of (N := 6) Tryz.func106 rfl rfl (by simp) (by simp [Bel.int, Bel.str]) (.bool _) ?_
 repeat refine wS ?_
 refine eE (by simp only [kA, seval, vint] <;> with_reducible rfl) (by decide) ?_
 repeat refine wS ?_
 refine wR ?_
 refine eT 2 (by simp only [kA, seval, y3, y127, vint] <;> with_reducible rfl) (by decide) ?_
 refine oP (by simp only [kC, seval, vint] <;> rfl) (by simp only [kC, seval, vint]) (by decide) Tryzgo139 (containsInt hasNameL k (by decide) _) ?_
 refine e_end (by simp only [kA, seval, vint] <;> with_reducible rfl) (by decide) ?_
 repeat refine wS ?_
 refine wT ⟨.inr rfl, _, rfl, ?_⟩
 simp only [jN, seval, vint, hasNameB]
 try rfl
end Go.Abs
set_option maxRecDepth 4000
namespace Go.Abs
open Go.Proofs
theorem ident_c {H : Heap} {i : Nat} {n : Nd} {cv : PV} (hr : H[i]? = some (.row [.int .i64 n.kind, .int .i64 n.value, .str n.text, .int .i64 n.st, .int .i64 n.en, .int .i64 n.ns, cv])) (b : Nat) (text : List UInt8) (st : Int) (hl : text.length ≤ 30) : ACalls Tryz.prog 75 [.optr b 0, .optr i 0, .str text, .int .i64 st] H fun r H' => r = .tup [] ∧ H' = H.set i (.row [.int .i64 (identM' n text st).kind, .int .i64 (identM' n text st).value, .str (identM' n text st).text, .int .i64 (identM' n text st).st, .int .i64 (identM' n text st).en, .int .i64 (identM' n text st).ns, cv]) := by
 have hil := lG hr
 have hs1 : ∀ o, (H.set i o)[i]? = some o := fun o => List.getElem?_set_self hil
 have hs2 : ∀ o o2, (H.set i o).set i o2 = H.set i o2 := fun o o2 => List.set_set ..
 have nI : (i = H.length) = False := by simp; omega
 have gl : decide ((text.length : Int) > 30) = false := decide_eq_false (by omega)
 refine aF (N := 38) Tryz.func75 rfl rfl (by simp) fun hb' => ?_
 repeat refine wS ?_
 refine eE (by simp only [kA, seval, y3, y9, vint, hr, hs1, hs2, nI, lS, gl] <;> with_reducible rfl) (by decide) ?_
 repeat refine wS ?_
 refine wF rfl (by simp only [jN, seval, vint, hr, hs1, hs2, nI, lS, gl] <;> with_reducible rfl) ?_
 repeat refine wS ?_
 refine wK ?_
 repeat refine wS ?_
 refine wR ?_
 refine aops_gstart ?_
 refine g_take 4 (by simp only [jG, jO, jN, seval, y3, y48, vint, hr, hs1, hs2, nI, lS, gl] <;> with_reducible rfl) (by decide) ?_
 refine aops_gpure (by simp only [kE, seval, vint, hr, hs1, hs2, nI, lS, gl] <;> with_reducible rfl) (by simp only [kE, seval, vint, hr, hs1, hs2, nI, lS, gl] <;> with_reducible rfl) (by simp only [kE, seval, vint, hr, hs1, hs2, nI, lS, gl]) (by decide) Tryzgo106 (fun hc => hasName_c n.kind _) ?_
 refine g_end (by simp only [jG, jO, jN, seval, y3, y48, vint, hr, hs1, hs2, nI, lS, gl] <;> with_reducible rfl) (by decide) (by repeat (first | exact Fin.base _ | with_reducible apply Fin.keep | apply Fin.drop)) ?_
 repeat refine wS ?_
 refine wC rfl (by simp only [jN, seval, vint, hr, hs1, hs2, nI, lS, gl] <;> with_reducible rfl) (fun bt29 => ?_) (fun bt29 => ?_)
 ·-- if t29
  have hx : identM' n text st = setTN n text st := by unfold identM'; rw [if_pos bt29]
  refine wL [1, 2, 3] (by simp only [jN, seval, vint, hr, hs1, hs2, nI, lS, gl] <;> with_reducible rfl) ?_
  repeat refine wS ?_
  refine eE (by simp only [kA, seval, y3, y9, y48, vint, hr, hs1, hs2, nI, lS, gl] <;> with_reducible rfl) (by decide) ?_
  refine ⟨.inl rfl, _, rfl, ?_⟩
  rw [hx]; first | exact ⟨rfl, rfl⟩ | exact ⟨rfl, (set_same hr).symm⟩
 ·-- else t29
  have hx : identM' n text st = n := by unfold identM'; rw [if_neg (by rw [bt29]; simp)]
  repeat refine wS ?_
  refine wK ?_
  refine ⟨.inl rfl, _, rfl, ?_⟩
  rw [hx]; first | exact ⟨rfl, rfl⟩ | exact ⟨rfl, (set_same hr).symm⟩
theorem integer_c {H : Heap} (b : Nat) (text : List UInt8) (st v : Int) (hs : text.length ≤ 9223372036854775806) (hv : Lib.atoiAll text = .ok v) (hb : v ≤ 2147483647) : ACalls Tryz.prog 76 [.optr b 0, .str text, .int .i64 st] H fun r H' => r = .int .i64 v ∧ H' = H := by
 have gl : decide (v > 2147483647) = false := decide_eq_false (by omega)
 refine keeps_of (N := 28) Tryz.func76 rfl rfl (by simp) (.int _ _) fun hb' => ?_
 repeat refine wS ?_
 refine eE (by simp only [kA, seval, vint, gl, Option.isSome_none] <;> with_reducible rfl) (by decide) ?_
 repeat refine wS ?_
 refine wR ?_
 refine eT 1 (by simp only [kA, seval, vint, gl, Option.isSome_none] <;> with_reducible rfl) (by decide) ?_
 refine oP (by simp only [kC, seval, vint, gl, Option.isSome_none] <;> with_reducible rfl) (by simp only [kC, seval]) (by decide) Tryzgo107 (atoi_c text hs v hv) ?_
 refine e_end (by simp only [kA, seval, vint, gl, Option.isSome_none] <;> with_reducible rfl) (by decide) ?_
 repeat refine wS ?_
 refine wR ?_
 refine eT 1 (by simp only [kA, seval, vint, gl, Option.isSome_none] <;> with_reducible rfl) (by decide) ?_
 refine aops_neqNil (q := none) Tryz.underlying137 (by simp only [kC, seval, vint]) rfl (by decide) (by simp only [kC, seval, vint] <;> first | done | rfl) ?_
 refine e_end (by simp only [kA, seval, y3, vint, gl, Option.isSome_none] <;> with_reducible rfl) (by decide) ?_
 repeat refine wS ?_
 refine wF rfl (by simp only [jN, seval, vint, gl, Option.isSome_none] <;> with_reducible rfl) ?_
 repeat refine wS ?_
 refine wK ?_
 repeat refine wS ?_
 refine eE (by simp only [kA, seval, vint, gl, Option.isSome_none] <;> with_reducible rfl) (by decide) ?_
 repeat refine wS ?_
 refine wT ⟨.inr rfl, _, _, rfl, ?_, (by first | exact (List.append_nil _).symm | rfl)⟩
 rfl
end Go.Abs
namespace Go.Abs
theorem tokA_inv {t : St} {off off' : Nat} {n n' : Nd} (h : tokA t off n = some (off', n')) : off + t.text.length < lim ∧ off' = off + t.text.length ∧
    ((t.kind = 101 ∧ n' = n) ∨ (t.kind = 102 ∧ n' = n) ∨ (t.kind = 103 ∧ t.text.length ≤ 30 ∧ n' = extM (identM' n t.text off) off off') ∨
     (t.kind = 105 ∧ ∃ v, Lib.atoiAll t.text = .ok v ∧ v ≤ 2147483647 ∧ n' = extM (setV n v) off off') ∨
     (t.kind ≠ 101 ∧ t.kind ≠ 102 ∧ t.kind ≠ 108 ∧ t.kind ≠ 103 ∧ t.kind ≠ 105 ∧ t.kind ≠ 106 ∧ n' = extM (flagM n t.text) off off')) := by
  unfold tokA at h
  simp only [decide_eq_true_eq] at h
  split at h
  case isFalse => cases h
  rename_i he
  refine ⟨he, ?_⟩
  split at h
  · rename_i h1; injection h with h; injection h with h2 h3; exact ⟨h2.symm, .inl ⟨h1, h3.symm⟩⟩
  rename_i h101
  split at h
  · rename_i h1; injection h with h; injection h with h2 h3; exact ⟨h2.symm, .inr (.inl ⟨h1, h3.symm⟩)⟩
  rename_i h102
  split at h
  · cases h
  rename_i h108
  split at h
  · rename_i h1
    split at h
    · rename_i hl
      injection h with h; injection h with h2 h3
      subst h2
      exact ⟨rfl, .inr (.inr (.inl ⟨h1, hl, h3.symm⟩))⟩
    · cases h
  rename_i h103
  split at h
  · rename_i h1
    split at h
    · rename_i v hv
      split at h
      · rename_i hb
        injection h with h; injection h with h2 h3
        subst h2
        exact ⟨rfl, .inr (.inr (.inr (.inl ⟨h1, v, hv, hb, h3.symm⟩)))⟩
      · cases h
    · cases h
  rename_i h105
  split at h
  · cases h
  rename_i h106
  injection h with h; injection h with h2 h3
  subst h2
  exact ⟨rfl, .inr (.inr (.inr (.inr ⟨h101, h102, h108, h103, h105, h106, h3.symm⟩)))⟩
theorem finA_inv {n m : Nd} (h : finA n = some m) : (n.kind = 60 ∧ ∃ c cs, n.kids = c :: cs ∧ m = setSE c n.st n.en) ∨ (n.kind ≠ 60 ∧ n.kind ≠ 46 ∧ m = n) := by
  unfold finA at h
  simp only [decide_eq_true_eq] at h
  split at h
  · rename_i h1
    split at h
    · rename_i c cs hc; injection h with h; exact .inl ⟨h1, c, cs, hc, h.symm⟩
    · cases h
  rename_i h60
  split at h
  · cases h
  · rename_i h46; injection h with h; exact .inr ⟨h60, h46, h.symm⟩
end Go.Abs
set_option maxRecDepth 4000
namespace Go.Abs
open Go.Proofs
theorem token_c {src : List UInt8} {ib i : Nat} {t : St} {n n' : Nd} {cv : PV} {off off' : Nat} {H0 : Heap} (hm : tokA t off n = some (off', n')) (hb : H0[ib]? = some (.row [.str src, .int .i64 ((off : Nat) : Int), .slice [] .full])) (hr : H0[i]? = some (.row [.int .i64 n.kind, .int .i64 n.value, .str n.text, .int .i64 n.st, .int .i64 n.en, .int .i64 n.ns, cv])) (hne : ib ≠ i) :
  ACalls Tryz.prog 51 [.optr ib 0, .optr i 0, t.enc] H0 fun r H' => r = .tup [] ∧ H'[ib]? = some (.row [.str src, .int .i64 ((off' : Nat) : Int), .slice [] .full]) ∧ H'[i]? = some (.row [.int .i64 n'.kind, .int .i64 n'.value, .str n'.text, .int .i64 n'.st, .int .i64 n'.en, .int .i64 n'.ns, cv]) ∧ Fr [ib, i] [ib, i] H0 H' := by
 obtain ⟨hlt, rfl, hcs⟩ := tokA_inv hm
 have hlt2 : off + t.text.length < 1099511627776 := hlt
 have hbl := lG hb
 have hrl := lG hr
 have qb := getL hb
 have qr := getL hr
 have gw : IntKind.i64.wrap (((off : Nat) : Int) + ((t.text.length : Nat) : Int)) = ((off + t.text.length : Nat) : Int) := by rw [wrap_id (by omega) (by omega)]; omega
 have qs : ∀ L o, (H0 ++ L).set ib o = H0.set ib o ++ L := fun L o => ap6 hbl
 have nB : (ib = H0.length) = False := by simp; omega
 have nB2 : ∀ k, (ib = H0.length + k) = False := fun k => by simp; omega
 have nB3 : (H0.length = ib) = False := by simp; omega
 refine aF (N := 81) Tryz.func51 rfl rfl (by simp) fun hb' => ?_
 repeat refine wS ?_
 refine eE (by simp only [kA, seval, y66, vint, qC, hb, hr, qb, qr, gw, qs, nB, nB2, nB3, lS] <;> with_reducible rfl) (by decide) ?_
 repeat refine wS ?_
 refine eE (by simp only [kA, seval, y3, y71, vint, qC, hb, hr, qb, qr, gw, qs, nB, nB2, nB3, lS] <;> with_reducible rfl) (by decide) ?_
 repeat refine wS ?_
 refine x_draw 0 (n0 := H0.length + 1) (by first | rfl | (simp only [List.length_append, List.length_cons, List.length_nil, Nat.reduceAdd, Nat.zero_add, hb, hr, qb, qr, gw, qs, nB, nB2, nB3, lS]; done)) (by kernel_rfl) ?_
 refine x1_take 10 (by first | rfl | (simp only [List.length_append, List.length_cons, List.length_nil, Nat.reduceAdd, Nat.zero_add, hb, hr, qb, qr, gw, qs, nB, nB2, nB3, lS]; done)) (by simp only [jP, jO, jN, seval, y3, y9, y66, y71, vint, qC, hb, hr, qb, qr, gw, qs, nB, nB2, nB3, lS] <;> with_reducible rfl) (by decide) (by decide) (by decide) ?_
 refine x_mid (by first | (simp only [LS, HS, List.append_assoc, List.cons_append, List.nil_append, hb, hr, qb, qr, gw, qs, nB, nB2, nB3, lS] <;> with_reducible rfl) | rfl) ?_
 refine x2_end (bm := [0, 1, 3, 7, 0, 16, 48, 127, 255, 511, 1023]) (fresh := (H0.length + 1)) (by kernel_rfl) (by simp only [jX, jO, jN, seval, y3, vint, qC, hb, hr, qb, qr, gw, qs, nB, nB2, nB3, lS] <;> with_reducible rfl) (by decide) (by repeat (first | exact Fin.base _ | with_reducible apply Fin.keep | apply Fin.drop)) ?_
 refine wL [0, 1, 5, 6] (by simp only [jN, seval, vint, qC, hb, hr, qb, qr, gw, qs, nB, nB2, nB3, lS] <;> with_reducible rfl) ?_
 repeat refine wS ?_
 refine awp_abs (fun H1 => H1[ib]? = some (.row [.str src, .int .i64 (((off + t.text.length) : Nat) : Int), .slice [] .full]) ∧ H1[i]? = some (.row [.int .i64 n.kind, .int .i64 n.value, .str n.text, .int .i64 n.st, .int .i64 n.en, .int .i64 n.ns, cv]) ∧ H1[H0.length]? = some (.row [.int .i64 t.kind, .str t.text, .slice (t.ch.map St.enc) .none]) ∧ Fr [ib, i] [ib, i] H0 H1) ?_ ?_
 ·exact ⟨ap1 hbl, by rw [ap2 hrl (Ne.symm hne)]; exact hr, ap3 (k := 0), by simp, fun id h1 h2 => ap2 h1 (fun e => h2 (by simp [e])), fun id h _ => h⟩
 rintro H1 ⟨hb1, hr1, ht1, f1⟩
 have hil := lG hr1
 have hs1 : ∀ o, (H1.set i o)[i]? = some o := fun o => List.getElem?_set_self hil
 have hs2 : ∀ o o2, (H1.set i o).set i o2 = H1.set i o2 := fun o o2 => List.set_set ..
 have hs3 : ∀ o, (H1.set i o)[ib]? = some (.row [.str src, .int .i64 (((off + t.text.length) : Nat) : Int), .slice [] .full]) := fun o => by rw [List.getElem?_set_ne (Ne.symm hne)]; exact hb1
 have hs4 : ∀ o, (H1.set i o)[H0.length]? = some (.row [.int .i64 t.kind, .str t.text, .slice (t.ch.map St.enc) .none]) := fun o => by rw [List.getElem?_set_ne (by omega)]; exact ht1
 have nI : (i = H1.length) = False := by simp; omega
 have hfs : ∀ o, Fr [ib, i] [ib, i] H0 (H1.set i o) := fun o => ⟨by rw [lS]; exact f1.len, fun id h1 h2 => by rw [List.getElem?_set_ne (by rintro rfl; exact h2 (by simp))]; exact f1.same id h1 h2, fun id h _ => h⟩
 refine eE (by simp only [kA, seval, y3, y66, vint, qC, hb, hr, qb, qr, gw, qs, nB, nB2, nB3, lS, hb1, hr1, ht1, hs1, hs2, hs3, hs4, nI] <;> with_reducible rfl) (by decide) ?_
 repeat refine wS ?_
 refine awp_block ?_
 rcases hcs with ⟨hk, rfl⟩ | ⟨hk, rfl⟩ | ⟨hk, hl30, rfl⟩ | ⟨hk, v, hv, hvb, rfl⟩ | ⟨hk1, hk2, hk3, hk4, hk5, hk6, rfl⟩
 ·-- case
  have g101 : decide (t.kind = 101) = true := decide_eq_true (by omega)
  have g102 : decide (t.kind = 102) = false := decide_eq_false (by omega)
  have g108 : decide (t.kind = 108) = false := decide_eq_false (by omega)
  have g103 : decide (t.kind = 103) = false := decide_eq_false (by omega)
  have g105 : decide (t.kind = 105) = false := decide_eq_false (by omega)
  have g106 : decide (t.kind = 106) = false := decide_eq_false (by omega)
  repeat refine wS ?_
  refine eE (by simp only [kA, seval, y3, vint, qC, hb, hr, qb, qr, gw, qs, nB, nB2, nB3, lS, g101, g102, g108, g103, g105, g106, hb1, hr1, ht1, hs1, hs2, hs3, hs4, nI] <;> with_reducible rfl) (by decide) ?_
  repeat refine wS ?_
  refine awp_cond_true rfl (by simp only [jN, seval, vint, qC, hb, hr, qb, qr, gw, qs, nB, nB2, nB3, lS, g101, g102, g108, g103, g105, g106, hb1, hr1, ht1, hs1, hs2, hs3, hs4, nI] <;> with_reducible rfl) ?_
  repeat refine wS ?_
  refine wK ?_
  repeat refine wS ?_
  refine awp_cond_true rfl (by simp only [jN, seval, vint, qC, hb, hr, qb, qr, gw, qs, nB, nB2, nB3, lS, g101, g102, g108, g103, g105, g106, hb1, hr1, ht1, hs1, hs2, hs3, hs4, nI] <;> with_reducible rfl) ?_
  repeat refine wS ?_
  refine wT ⟨.inr rfl, _, rfl, ?_⟩
  exact ⟨rfl, hb1, hr1, f1⟩
 ·-- case
  have g101 : decide (t.kind = 101) = false := decide_eq_false (by omega)
  have g102 : decide (t.kind = 102) = true := decide_eq_true (by omega)
  have g108 : decide (t.kind = 108) = false := decide_eq_false (by omega)
  have g103 : decide (t.kind = 103) = false := decide_eq_false (by omega)
  have g105 : decide (t.kind = 105) = false := decide_eq_false (by omega)
  have g106 : decide (t.kind = 106) = false := decide_eq_false (by omega)
  repeat refine wS ?_
  refine eE (by simp only [kA, seval, y3, vint, qC, hb, hr, qb, qr, gw, qs, nB, nB2, nB3, lS, g101, g102, g108, g103, g105, g106, hb1, hr1, ht1, hs1, hs2, hs3, hs4, nI] <;> with_reducible rfl) (by decide) ?_
  repeat refine wS ?_
  refine wF rfl (by simp only [jN, seval, vint, qC, hb, hr, qb, qr, gw, qs, nB, nB2, nB3, lS, g101, g102, g108, g103, g105, g106, hb1, hr1, ht1, hs1, hs2, hs3, hs4, nI] <;> with_reducible rfl) ?_
  repeat refine wS ?_
  refine eE (by simp only [kA, seval, y3, vint, qC, hb, hr, qb, qr, gw, qs, nB, nB2, nB3, lS, g101, g102, g108, g103, g105, g106, hb1, hr1, ht1, hs1, hs2, hs3, hs4, nI] <;> with_reducible rfl) (by decide) ?_
  repeat refine wS ?_
  refine awp_cond_true rfl (by simp only [jN, seval, vint, qC, hb, hr, qb, qr, gw, qs, nB, nB2, nB3, lS, g101, g102, g108, g103, g105, g106, hb1, hr1, ht1, hs1, hs2, hs3, hs4, nI] <;> with_reducible rfl) ?_
  repeat refine wS ?_
  refine wT ⟨.inr rfl, _, rfl, ?_⟩
  exact ⟨rfl, hb1, hr1, f1⟩
 ·-- case
  have g101 : decide (t.kind = 101) = false := decide_eq_false (by omega)
  have g102 : decide (t.kind = 102) = false := decide_eq_false (by omega)
  have g108 : decide (t.kind = 108) = false := decide_eq_false (by omega)
  have g103 : decide (t.kind = 103) = true := decide_eq_true (by omega)
  have g105 : decide (t.kind = 105) = false := decide_eq_false (by omega)
  have g106 : decide (t.kind = 106) = false := decide_eq_false (by omega)
  repeat refine wS ?_
  refine eE (by simp only [kA, seval, y3, vint, qC, hb, hr, qb, qr, gw, qs, nB, nB2, nB3, lS, g101, g102, g108, g103, g105, g106, hb1, hr1, ht1, hs1, hs2, hs3, hs4, nI] <;> with_reducible rfl) (by decide) ?_
  repeat refine wS ?_
  refine wF rfl (by simp only [jN, seval, vint, qC, hb, hr, qb, qr, gw, qs, nB, nB2, nB3, lS, g101, g102, g108, g103, g105, g106, hb1, hr1, ht1, hs1, hs2, hs3, hs4, nI] <;> with_reducible rfl) ?_
  repeat refine wS ?_
  refine eE (by simp only [kA, seval, y3, vint, qC, hb, hr, qb, qr, gw, qs, nB, nB2, nB3, lS, g101, g102, g108, g103, g105, g106, hb1, hr1, ht1, hs1, hs2, hs3, hs4, nI] <;> with_reducible rfl) (by decide) ?_
  repeat refine wS ?_
  refine wF rfl (by simp only [jN, seval, vint, qC, hb, hr, qb, qr, gw, qs, nB, nB2, nB3, lS, g101, g102, g108, g103, g105, g106, hb1, hr1, ht1, hs1, hs2, hs3, hs4, nI] <;> with_reducible rfl) ?_
  repeat refine wS ?_
  refine eE (by simp only [kA, seval, y3, vint, qC, hb, hr, qb, qr, gw, qs, nB, nB2, nB3, lS, g101, g102, g108, g103, g105, g106, hb1, hr1, ht1, hs1, hs2, hs3, hs4, nI] <;> with_reducible rfl) (by decide) ?_
  repeat refine wS ?_
  refine wF rfl (by simp only [jN, seval, vint, qC, hb, hr, qb, qr, gw, qs, nB, nB2, nB3, lS, g101, g102, g108, g103, g105, g106, hb1, hr1, ht1, hs1, hs2, hs3, hs4, nI] <;> with_reducible rfl) ?_
  repeat refine wS ?_
  refine eE (by simp only [kA, seval, y3, vint, qC, hb, hr, qb, qr, gw, qs, nB, nB2, nB3, lS, g101, g102, g108, g103, g105, g106, hb1, hr1, ht1, hs1, hs2, hs3, hs4, nI] <;> with_reducible rfl) (by decide) ?_
  repeat refine wS ?_
  refine awp_cond_true rfl (by simp only [jN, seval, vint, qC, hb, hr, qb, qr, gw, qs, nB, nB2, nB3, lS, g101, g102, g108, g103, g105, g106, hb1, hr1, ht1, hs1, hs2, hs3, hs4, nI] <;> with_reducible rfl) ?_
  repeat refine wS ?_
  refine wR ?_
  refine eT 5 (by simp only [kA, seval, y9, y66, vint, qC, hb, hr, qb, qr, gw, qs, nB, nB2, nB3, lS, g101, g102, g108, g103, g105, g106, hb1, hr1, ht1, hs1, hs2, hs3, hs4, nI] <;> with_reducible rfl) (by decide) ?_
  refine oC (by simp only [kC, seval, vint, qC, hb, hr, qb, qr, gw, qs, nB, nB2, nB3, lS, g101, g102, g108, g103, g105, g106, hb1, hr1, ht1, hs1, hs2, hs3, hs4, nI] <;> with_reducible rfl) (by simp only [kC, seval]) (by decide) Tryzgo75 (ident_c (n := n) (cv := cv) hr1 ib t.text off hl30) ?_
  rintro _ _ ⟨rfl, rfl⟩
  refine oN ?_
  refine wL [0, 1, 6] (by simp only [jN, seval, vint, qC, hb, hr, qb, qr, gw, qs, nB, nB2, nB3, lS, g101, g102, g108, g103, g105, g106, hb1, hr1, ht1, hs1, hs2, hs3, hs4, nI] <;> with_reducible rfl) ?_
  repeat refine wS ?_
  refine wR ?_
  refine eT 6 (by simp only [kA, seval, y3, y71, vint, qC, hb, hr, qb, qr, gw, qs, nB, nB2, nB3, lS, g101, g102, g108, g103, g105, g106, hb1, hr1, ht1, hs1, hs2, hs3, hs4, nI] <;> with_reducible rfl) (by decide) ?_
  refine oC (by simp only [kC, seval, vint, qC, hb, hr, qb, qr, gw, qs, nB, nB2, nB3, lS, g101, g102, g108, g103, g105, g106, hb1, hr1, ht1, hs1, hs2, hs3, hs4, nI] <;> with_reducible rfl) (by simp only [kC, seval]) (by decide) Tryzgo52 ((by exact extend_c (n := identM' n t.text off) (hs1 _) _ _)) ?_
  rintro _ _ ⟨rfl, rfl⟩
  refine oN ?_
  refine ⟨(by first | exact .inl rfl | exact .inl trivial | trivial), _, rfl, ?_⟩
  exact ⟨rfl, by rw [List.set_set]; exact hs3 _, by rw [List.set_set]; exact hs1 _, by rw [List.set_set]; exact hfs _⟩
 ·-- case
  have g101 : decide (t.kind = 101) = false := decide_eq_false (by omega)
  have g102 : decide (t.kind = 102) = false := decide_eq_false (by omega)
  have g108 : decide (t.kind = 108) = false := decide_eq_false (by omega)
  have g103 : decide (t.kind = 103) = false := decide_eq_false (by omega)
  have g105 : decide (t.kind = 105) = true := decide_eq_true (by omega)
  have g106 : decide (t.kind = 106) = false := decide_eq_false (by omega)
  repeat refine wS ?_
  refine eE (by simp only [kA, seval, y3, vint, qC, hb, hr, qb, qr, gw, qs, nB, nB2, nB3, lS, g101, g102, g108, g103, g105, g106, hb1, hr1, ht1, hs1, hs2, hs3, hs4, nI] <;> with_reducible rfl) (by decide) ?_
  repeat refine wS ?_
  refine wF rfl (by simp only [jN, seval, vint, qC, hb, hr, qb, qr, gw, qs, nB, nB2, nB3, lS, g101, g102, g108, g103, g105, g106, hb1, hr1, ht1, hs1, hs2, hs3, hs4, nI] <;> with_reducible rfl) ?_
  repeat refine wS ?_
  refine eE (by simp only [kA, seval, y3, vint, qC, hb, hr, qb, qr, gw, qs, nB, nB2, nB3, lS, g101, g102, g108, g103, g105, g106, hb1, hr1, ht1, hs1, hs2, hs3, hs4, nI] <;> with_reducible rfl) (by decide) ?_
  repeat refine wS ?_
  refine wF rfl (by simp only [jN, seval, vint, qC, hb, hr, qb, qr, gw, qs, nB, nB2, nB3, lS, g101, g102, g108, g103, g105, g106, hb1, hr1, ht1, hs1, hs2, hs3, hs4, nI] <;> with_reducible rfl) ?_
  repeat refine wS ?_
  refine eE (by simp only [kA, seval, y3, vint, qC, hb, hr, qb, qr, gw, qs, nB, nB2, nB3, lS, g101, g102, g108, g103, g105, g106, hb1, hr1, ht1, hs1, hs2, hs3, hs4, nI] <;> with_reducible rfl) (by decide) ?_
  repeat refine wS ?_
  refine wF rfl (by simp only [jN, seval, vint, qC, hb, hr, qb, qr, gw, qs, nB, nB2, nB3, lS, g101, g102, g108, g103, g105, g106, hb1, hr1, ht1, hs1, hs2, hs3, hs4, nI] <;> with_reducible rfl) ?_
  repeat refine wS ?_
  refine eE (by simp only [kA, seval, y3, vint, qC, hb, hr, qb, qr, gw, qs, nB, nB2, nB3, lS, g101, g102, g108, g103, g105, g106, hb1, hr1, ht1, hs1, hs2, hs3, hs4, nI] <;> with_reducible rfl) (by decide) ?_
  repeat refine wS ?_
  refine wF rfl (by simp only [jN, seval, vint, qC, hb, hr, qb, qr, gw, qs, nB, nB2, nB3, lS, g101, g102, g108, g103, g105, g106, hb1, hr1, ht1, hs1, hs2, hs3, hs4, nI] <;> with_reducible rfl) ?_
  repeat refine wS ?_
  refine eE (by simp only [kA, seval, y3, vint, qC, hb, hr, qb, qr, gw, qs, nB, nB2, nB3, lS, g101, g102, g108, g103, g105, g106, hb1, hr1, ht1, hs1, hs2, hs3, hs4, nI] <;> with_reducible rfl) (by decide) ?_
  repeat refine wS ?_
  refine awp_cond_true rfl (by simp only [jN, seval, vint, qC, hb, hr, qb, qr, gw, qs, nB, nB2, nB3, lS, g101, g102, g108, g103, g105, g106, hb1, hr1, ht1, hs1, hs2, hs3, hs4, nI] <;> with_reducible rfl) ?_
  repeat refine wS ?_
  refine wR ?_
  refine eT 5 (by simp only [kA, seval, y9, y66, vint, qC, hb, hr, qb, qr, gw, qs, nB, nB2, nB3, lS, g101, g102, g108, g103, g105, g106, hb1, hr1, ht1, hs1, hs2, hs3, hs4, nI] <;> with_reducible rfl) (by decide) ?_
  refine oC (by simp only [kC, seval, vint, qC, hb, hr, qb, qr, gw, qs, nB, nB2, nB3, lS, g101, g102, g108, g103, g105, g106, hb1, hr1, ht1, hs1, hs2, hs3, hs4, nI] <;> with_reducible rfl) (by simp only [kC, seval]) (by decide) Tryzgo76 (integer_c ib t.text off v (by omega) hv hvb) ?_
  rintro _ _ ⟨rfl, rfl⟩
  refine e_end (by simp only [kA, seval, y3, y48, vint, qC, hb, hr, qb, qr, gw, qs, nB, nB2, nB3, lS, g101, g102, g108, g103, g105, g106, hb1, hr1, ht1, hs1, hs2, hs3, hs4, nI] <;> with_reducible rfl) (by decide) ?_
  refine wL [0, 1, 6] (by simp only [jN, seval, vint, qC, hb, hr, qb, qr, gw, qs, nB, nB2, nB3, lS, g101, g102, g108, g103, g105, g106, hb1, hr1, ht1, hs1, hs2, hs3, hs4, nI] <;> with_reducible rfl) ?_
  repeat refine wS ?_
  refine wR ?_
  refine eT 6 (by simp only [kA, seval, y3, y71, vint, qC, hb, hr, qb, qr, gw, qs, nB, nB2, nB3, lS, g101, g102, g108, g103, g105, g106, hb1, hr1, ht1, hs1, hs2, hs3, hs4, nI] <;> with_reducible rfl) (by decide) ?_
  refine oC (by simp only [kC, seval, vint, qC, hb, hr, qb, qr, gw, qs, nB, nB2, nB3, lS, g101, g102, g108, g103, g105, g106, hb1, hr1, ht1, hs1, hs2, hs3, hs4, nI] <;> with_reducible rfl) (by simp only [kC, seval]) (by decide) Tryzgo52 ((by exact extend_c (n := setV n v) (hs1 _) _ _)) ?_
  rintro _ _ ⟨rfl, rfl⟩
  refine oN ?_
  refine ⟨(by first | exact .inl rfl | exact .inl trivial | trivial), _, rfl, ?_⟩
  exact ⟨rfl, by rw [List.set_set]; exact hs3 _, by rw [List.set_set]; exact hs1 _, by rw [List.set_set]; exact hfs _⟩
 ·-- case
  have g101 : decide (t.kind = 101) = false := decide_eq_false (by omega)
  have g102 : decide (t.kind = 102) = false := decide_eq_false (by omega)
  have g108 : decide (t.kind = 108) = false := decide_eq_false (by omega)
  have g103 : decide (t.kind = 103) = false := decide_eq_false (by omega)
  have g105 : decide (t.kind = 105) = false := decide_eq_false (by omega)
  have g106 : decide (t.kind = 106) = false := decide_eq_false (by omega)
  repeat refine wS ?_
  refine eE (by simp only [kA, seval, y3, vint, qC, hb, hr, qb, qr, gw, qs, nB, nB2, nB3, lS, g101, g102, g108, g103, g105, g106, hb1, hr1, ht1, hs1, hs2, hs3, hs4, nI] <;> with_reducible rfl) (by decide) ?_
  repeat refine wS ?_
  refine wF rfl (by simp only [jN, seval, vint, qC, hb, hr, qb, qr, gw, qs, nB, nB2, nB3, lS, g101, g102, g108, g103, g105, g106, hb1, hr1, ht1, hs1, hs2, hs3, hs4, nI] <;> with_reducible rfl) ?_
  repeat refine wS ?_
  refine eE (by simp only [kA, seval, y3, vint, qC, hb, hr, qb, qr, gw, qs, nB, nB2, nB3, lS, g101, g102, g108, g103, g105, g106, hb1, hr1, ht1, hs1, hs2, hs3, hs4, nI] <;> with_reducible rfl) (by decide) ?_
  repeat refine wS ?_
  refine wF rfl (by simp only [jN, seval, vint, qC, hb, hr, qb, qr, gw, qs, nB, nB2, nB3, lS, g101, g102, g108, g103, g105, g106, hb1, hr1, ht1, hs1, hs2, hs3, hs4, nI] <;> with_reducible rfl) ?_
  repeat refine wS ?_
  refine eE (by simp only [kA, seval, y3, vint, qC, hb, hr, qb, qr, gw, qs, nB, nB2, nB3, lS, g101, g102, g108, g103, g105, g106, hb1, hr1, ht1, hs1, hs2, hs3, hs4, nI] <;> with_reducible rfl) (by decide) ?_
  repeat refine wS ?_
  refine wF rfl (by simp only [jN, seval, vint, qC, hb, hr, qb, qr, gw, qs, nB, nB2, nB3, lS, g101, g102, g108, g103, g105, g106, hb1, hr1, ht1, hs1, hs2, hs3, hs4, nI] <;> with_reducible rfl) ?_
  repeat refine wS ?_
  refine eE (by simp only [kA, seval, y3, vint, qC, hb, hr, qb, qr, gw, qs, nB, nB2, nB3, lS, g101, g102, g108, g103, g105, g106, hb1, hr1, ht1, hs1, hs2, hs3, hs4, nI] <;> with_reducible rfl) (by decide) ?_
  repeat refine wS ?_
  refine wF rfl (by simp only [jN, seval, vint, qC, hb, hr, qb, qr, gw, qs, nB, nB2, nB3, lS, g101, g102, g108, g103, g105, g106, hb1, hr1, ht1, hs1, hs2, hs3, hs4, nI] <;> with_reducible rfl) ?_
  repeat refine wS ?_
  refine eE (by simp only [kA, seval, y3, vint, qC, hb, hr, qb, qr, gw, qs, nB, nB2, nB3, lS, g101, g102, g108, g103, g105, g106, hb1, hr1, ht1, hs1, hs2, hs3, hs4, nI] <;> with_reducible rfl) (by decide) ?_
  repeat refine wS ?_
  refine wF rfl (by simp only [jN, seval, vint, qC, hb, hr, qb, qr, gw, qs, nB, nB2, nB3, lS, g101, g102, g108, g103, g105, g106, hb1, hr1, ht1, hs1, hs2, hs3, hs4, nI] <;> with_reducible rfl) ?_
  repeat refine wS ?_
  refine eE (by simp only [kA, seval, y3, vint, qC, hb, hr, qb, qr, gw, qs, nB, nB2, nB3, lS, g101, g102, g108, g103, g105, g106, hb1, hr1, ht1, hs1, hs2, hs3, hs4, nI] <;> with_reducible rfl) (by decide) ?_
  repeat refine wS ?_
  refine wF rfl (by simp only [jN, seval, vint, qC, hb, hr, qb, qr, gw, qs, nB, nB2, nB3, lS, g101, g102, g108, g103, g105, g106, hb1, hr1, ht1, hs1, hs2, hs3, hs4, nI] <;> with_reducible rfl) ?_
  repeat refine wS ?_
  refine wR ?_
  refine eT 3 (by simp only [kA, seval, y9, y66, vint, qC, hb, hr, qb, qr, gw, qs, nB, nB2, nB3, lS, g101, g102, g108, g103, g105, g106, hb1, hr1, ht1, hs1, hs2, hs3, hs4, nI] <;> with_reducible rfl) (by decide) ?_
  refine oC (by simp only [kC, seval, vint, qC, hb, hr, qb, qr, gw, qs, nB, nB2, nB3, lS, g101, g102, g108, g103, g105, g106, hb1, hr1, ht1, hs1, hs2, hs3, hs4, nI] <;> with_reducible rfl) (by simp only [kC, seval]) (by decide) Tryzgo78 (setFlag_c (n := n) (cv := cv) hr1 t.text) ?_
  rintro _ _ ⟨rfl, rfl⟩
  refine oN ?_
  refine wL [0, 1, 6] (by simp only [jN, seval, vint, qC, hb, hr, qb, qr, gw, qs, nB, nB2, nB3, lS, g101, g102, g108, g103, g105, g106, hb1, hr1, ht1, hs1, hs2, hs3, hs4, nI] <;> with_reducible rfl) ?_
  repeat refine wS ?_
  refine wR ?_
  refine eT 6 (by simp only [kA, seval, y3, y71, vint, qC, hb, hr, qb, qr, gw, qs, nB, nB2, nB3, lS, g101, g102, g108, g103, g105, g106, hb1, hr1, ht1, hs1, hs2, hs3, hs4, nI] <;> with_reducible rfl) (by decide) ?_
  refine oC (by simp only [kC, seval, vint, qC, hb, hr, qb, qr, gw, qs, nB, nB2, nB3, lS, g101, g102, g108, g103, g105, g106, hb1, hr1, ht1, hs1, hs2, hs3, hs4, nI] <;> with_reducible rfl) (by simp only [kC, seval]) (by decide) Tryzgo52 ((by exact extend_c (n := flagM n t.text) (hs1 _) _ _)) ?_
  rintro _ _ ⟨rfl, rfl⟩
  refine oN ?_
  refine ⟨(by first | exact .inl rfl | exact .inl trivial | trivial), _, rfl, ?_⟩
  exact ⟨rfl, by rw [List.set_set]; exact hs3 _, by rw [List.set_set]; exact hs1 _, by rw [List.set_set]; exact hfs _⟩
end Go.Abs
set_option maxRecDepth 4000
namespace Go.Abs
open Go.Proofs
theorem finN_c {n m : Nd} (hm : finA n = some m) {ib : Nat} {H : Heap} : ACalls Tryz.prog 53 [.optr ib 0, n.enc] H fun r H' => r = m.enc ∧ H' = H := by
 have hcs := finA_inv hm
 refine keeps_of (N := 51) Tryz.func53 rfl rfl (by simp) (Nd.bel _ _) fun hb' => ?_
 repeat refine wS ?_
 refine eE (by simp only [kA, seval, y48, vint, qC, NdS, NdF] <;> with_reducible rfl) (by decide) ?_
 rcases hcs with ⟨hk, c, cs, hc, rfl⟩ | ⟨h1, h2, he⟩
 ·-- case
  have g60 : decide (n.kind = 60) = true := decide_eq_true (by omega)
  have g46 : decide (n.kind = 46) = false := decide_eq_false (by omega)
  have gc : n.kids.map Nd.enc = c.enc :: cs.map Nd.enc := by rw [hc]; rfl
  have gpos : ((0 : Int) < ((cs.length + 1 : Nat) : Int)) = True := eq_true (by omega)
  repeat refine wS ?_
  refine eE (by simp only [kA, seval, y3, y48, vint, qC, NdS, NdF, g60, g46, gc, hc, gpos, List.getElem?_cons_zero, Nd.enc_len] <;> with_reducible rfl) (by decide) ?_
  repeat refine wS ?_
  refine awp_block ?_
  repeat refine wS ?_
  refine eE (by simp only [kA, seval, y3, vint, qC, NdS, NdF, g60, g46, gc, hc, gpos, List.getElem?_cons_zero, Nd.enc_len] <;> with_reducible rfl) (by decide) ?_
  repeat refine wS ?_
  refine awp_cond_true rfl (by simp only [jN, seval, vint, qC, NdS, NdF, g60, g46, gc, hc, gpos, List.getElem?_cons_zero, Nd.enc_len] <;> with_reducible rfl) ?_
  repeat refine wS ?_
  refine eE (by simp only [kA, seval, y40, y48, vint, qC, NdS, NdF, g60, g46, gc, hc, gpos, List.getElem?_cons_zero, Nd.enc_len] <;> with_reducible rfl) (by decide) ?_
  repeat refine wS ?_
  refine x_draw 0 (n0 := H.length + 3) (by first | rfl | (simp only [List.length_append, List.length_cons, List.length_nil, Nat.reduceAdd, Nat.zero_add, g60, g46, gc, hc, gpos, List.getElem?_cons_zero, Nd.enc_len]; done)) (by kernel_rfl) ?_
  refine x_mid (by first | (simp only [LS, HS, List.append_assoc, List.cons_append, List.nil_append, g60, g46, gc, hc, gpos, List.getElem?_cons_zero, Nd.enc_len] <;> with_reducible rfl) | rfl) ?_
  refine x2_end (bm := [0, 1, 0, 4, 3, 19, 63, 127]) (fresh := (H.length + 3)) (by kernel_rfl) (by simp only [jX, jO, jN, seval, y3, y48, vint, qC, NdS, NdF, g60, g46, gc, hc, gpos, List.getElem?_cons_zero, Nd.enc_len] <;> with_reducible rfl) (by decide) (by repeat (first | exact Fin.base _ | with_reducible apply Fin.keep | apply Fin.drop)) ?_
  refine wL [4, 5] (by simp only [jN, seval, vint, qC, NdS, NdF, g60, g46, gc, hc, gpos, List.getElem?_cons_zero, Nd.enc_len] <;> with_reducible rfl) ?_
  repeat refine wS ?_
  refine eE (by simp only [kA, seval, y48, vint, qC, NdS, NdF, g60, g46, gc, hc, gpos, List.getElem?_cons_zero, Nd.enc_len] <;> with_reducible rfl) (by decide) ?_
  repeat refine wS ?_
  refine wT ⟨.inr rfl, _, _, (ares_cell 4 48 rfl Tryzti48 (by decide) (by simp only [jL, jN, seval, vint, qC, NdS, NdF, g60, g46, gc, hc, gpos, List.getElem?_cons_zero, Nd.enc_len] <;> with_reducible rfl)), ?_, (by first | exact (List.append_nil _).symm | rfl)⟩
  first | rfl | (simp only [jN, seval, vint, qC, NdS, NdF]; done) | simp only [setSE, Nd.enc_eq, PV.drop1, List.map, PV.drop0, Nd.kind, Nd.value, Nd.text, Nd.st, Nd.en, Nd.ns, Nd.kids]
 ·-- case
  have g60 : decide (n.kind = 60) = false := decide_eq_false (by omega)
  have g46 : decide (n.kind = 46) = false := decide_eq_false (by omega)
  subst he
  repeat refine wS ?_
  refine eE (by simp only [kA, seval, y3, y48, vint, qC, NdS, NdF, g60, g46] <;> with_reducible rfl) (by decide) ?_
  repeat refine wS ?_
  refine awp_block ?_
  repeat refine wS ?_
  refine eE (by simp only [kA, seval, y3, vint, qC, NdS, NdF, g60, g46] <;> with_reducible rfl) (by decide) ?_
  repeat refine wS ?_
  refine wF rfl (by simp only [jN, seval, vint, qC, NdS, NdF, g60, g46] <;> with_reducible rfl) ?_
  repeat refine wS ?_
  refine eE (by simp only [kA, seval, y3, vint, qC, NdS, NdF, g60, g46] <;> with_reducible rfl) (by decide) ?_
  repeat refine wS ?_
  refine wF rfl (by simp only [jN, seval, vint, qC, NdS, NdF, g60, g46] <;> with_reducible rfl) ?_
  repeat refine wS ?_
  refine wK ?_
  repeat refine wS ?_
  refine eE (by simp only [kA, seval, y48, vint, qC, NdS, NdF, g60, g46] <;> with_reducible rfl) (by decide) ?_
  repeat refine wS ?_
  refine wT ⟨.inr rfl, _, _, (ares_cell 4 48 rfl Tryzti48 (by decide) (by simp only [jL, jN, seval, vint, qC, NdS, NdF, g60, g46] <;> with_reducible rfl)), ?_, (by first | exact (List.append_nil _).symm | rfl)⟩
  first | rfl | (simp only [jN, seval, vint, qC, NdS, NdF]; done) | exact Nd.enc_drop1 _
end Go.Abs
namespace Go.Abs
open Go.Proofs
theorem flatNd_len (kids : List Nd) : (flatE (kids.map Nd.enc)).length = kids.length * 7 := by
  rw [flatE_length (sz := 7) _ (fun e he => by obtain ⟨v, _, rfl⟩ := List.mem_map.1 he; exact v.enc_len), List.length_map]
theorem flatNd_snoc (kids : List Nd) (t : Nd) : flatE ((kids ++ [t]).map Nd.enc) = flatE (kids.map Nd.enc) ++ [.int .i64 t.kind, .int .i64 t.value, .str t.text, .int .i64 t.st, .int .i64 t.en, .int .i64 t.ns, .slice (t.kids.map Nd.enc) .none] := by
  rw [List.map_append, flatE_append]
  simp [flatE, Nd.enc_cells]
theorem set7 {A rest : List PV} {m : Nat} {x0 x1 x2 x3 x4 x5 x6 a0 a1 a2 a3 a4 a5 a6 : PV} (hA : A.length = m) :
    (((((((A ++ x0 :: x1 :: x2 :: x3 :: x4 :: x5 :: x6 :: rest).set m a0).set (m + 1) a1).set (m + 2) a2).set (m + 3) a3).set (m + 4) a4).set (m + 5) a5).set (m + 6) a6 = A ++ [a0, a1, a2, a3, a4, a5, a6] ++ rest := by
  subst hA
  rw [List.set_append_right _ _ (Nat.le_refl _), Nat.sub_self]
  iterate 6 rw [List.set_append_right _ _ (by omega)]
  simp [show A.length + 1 - A.length = 1 by omega, show A.length + 2 - A.length = 2 by omega, show A.length + 3 - A.length = 3 by omega, show A.length + 4 - A.length = 4 by omega, show A.length + 5 - A.length = 5 by omega, show A.length + 6 - A.length = 6 by omega]
inductive NkOk (H : Heap) : PV → List Nd → List Nat → Prop
  | nil : NkOk H (.slice [] .full) [] []
  | msl {ic c : Nat} {kids : List Nd} {rest : List PV} (hH : H[ic]? = some (.row (flatE (kids.map Nd.enc) ++ rest))) (hc : kids.length * 7 + rest.length = c * 7) (hm : c ≤ maxLen) : NkOk H (.msl ic 0 kids.length c) kids [ic]
theorem NkOk.of {H : Heap} {ic c n : Nat} {kids : List Nd} {rest : List PV} (hn : kids.length = n) (hH : H[ic]? = some (.row (flatE (kids.map Nd.enc) ++ rest))) (hc : n * 7 + rest.length = c * 7) (hm : c ≤ maxLen) : NkOk H (.msl ic 0 n c) kids [ic] := by
  subst hn; exact .msl hH hc hm
theorem NkOk.fr {H H' : Heap} {cv : PV} {kids : List Nd} {cid : List Nat} (h : NkOk H cv kids cid) (he : ∀ i ∈ cid, H'[i]? = H[i]?) : NkOk H' cv kids cid := by
  cases h with
  | nil => exact .nil
  | msl hH hc hm => exact .msl (by rw [he _ (by simp)]; exact hH) hc hm
theorem NkOk.lt {H : Heap} {cv : PV} {kids : List Nd} {cid : List Nat} (h : NkOk H cv kids cid) : ∀ i ∈ cid, i < H.length := by
  cases h with
  | nil => intro i hi; cases hi
  | msl hH hc hm => intro i hi; rw [List.mem_singleton] at hi; subst hi; exact lG hH
theorem list7 {l : List PV} (h : 7 ≤ l.length) : ∃ x0 x1 x2 x3 x4 x5 x6 r, l = x0 :: x1 :: x2 :: x3 :: x4 :: x5 :: x6 :: r := by
  match l, h with
  | x0 :: x1 :: x2 :: x3 :: x4 :: x5 :: x6 :: r, _ => exact ⟨x0, x1, x2, x3, x4, x5, x6, r, rfl⟩
theorem NkOk.cases3 {H : Heap} {cv : PV} {kids : List Nd} {cid : List Nat} (h : NkOk H cv kids cid) :
    (cv = .slice (kids.map Nd.enc) .full ∧ cid = []) ∨ (∃ ic, cid = [ic] ∧ cv = .msl ic 0 kids.length kids.length ∧ H[ic]? = some (.row (flatE (kids.map Nd.enc)))) ∨
    ∃ ic c x0 x1 x2 x3 x4 x5 x6 rest, cid = [ic] ∧ cv = .msl ic 0 kids.length c ∧ H[ic]? = some (.row (flatE (kids.map Nd.enc) ++ x0 :: x1 :: x2 :: x3 :: x4 :: x5 :: x6 :: rest)) ∧ kids.length + 1 ≤ c ∧ (kids.length + 1) * 7 + rest.length = c * 7 ∧ c ≤ maxLen := by
  cases h with
  | nil => exact .inl ⟨rfl, rfl⟩
  | @msl ic c kids rest hH hc hm =>
    rcases Nat.lt_or_ge kids.length c with hlt | hge
    · obtain ⟨x0, x1, x2, x3, x4, x5, x6, r, rfl⟩ := list7 (l := rest) (by omega)
      exact .inr (.inr ⟨ic, c, x0, x1, x2, x3, x4, x5, x6, r, rfl, rfl, hH, hlt, by simp at hc; omega, hm⟩)
    · have hr : rest = [] := List.length_eq_zero_iff.1 (by omega)
      subst hr
      have : c = kids.length := by simp at hc; omega
      subst this
      exact .inr (.inl ⟨ic, rfl, rfl, by simpa using hH⟩)
theorem NkOk.cases2 {H : Heap} {cv : PV} {kids : List Nd} {cid : List Nat} (h : NkOk H cv kids cid) : (kids = [] ∧ cv = .slice [] .full ∧ cid = []) ∨
    ∃ ic c rest, cv = .msl ic 0 kids.length c ∧ cid = [ic] ∧ H[ic]? = some (.row (flatE (kids.map Nd.enc) ++ rest)) ∧ kids.length * 7 + rest.length = c * 7 ∧ c ≤ maxLen := by
  cases h with
  | nil => exact .inl ⟨rfl, rfl, rfl⟩
  | msl hH hc hm => exact .inr ⟨_, _, _, rfl, rfl, hH, hc, hm⟩
theorem Nd.enc_agg (t : Nd) : PV.agg t.enc.cells = t.enc := by rw [Nd.enc_cells, Nd.enc_eq]
theorem identM_kids (n : Nd) (t : List UInt8) (s : Int) : (identM' n t s).kids = n.kids := by unfold identM'; split <;> rfl
theorem flagM_kids (n : Nd) (t : List UInt8) : (flagM n t).kids = n.kids := by
  unfold flagM
  split
  · rfl
  split
  · rfl
  split
  · rfl
  split
  · rfl
  split
  · rfl
  · rfl
theorem token_kids {t : St} {off off' : Nat} {n n' : Nd} (h : tokA t off n = some (off', n')) : n'.kids = n.kids := by
  obtain ⟨_, _, h⟩ := tokA_inv h
  rcases h with ⟨_, rfl⟩ | ⟨_, rfl⟩ | ⟨_, _, rfl⟩ | ⟨_, v, _, _, rfl⟩ | ⟨_, _, _, _, _, _, rfl⟩
  · rfl
  · rfl
  · exact identM_kids n _ _
  · rfl
  · exact flagM_kids n _
theorem chunk7 : ∀ (n : Nat) (l : List PV), l.length = n * 7 → ∃ es : List PV, es.length = n ∧ flatE es = l ∧ ∀ e ∈ es, e.cells.length = 7
  | 0, [], h => ⟨[], rfl, rfl, by simp⟩
  | 0, a :: l, h => by simp at h
  | n + 1, l, h => by
    obtain ⟨x0, x1, x2, x3, x4, x5, x6, r, rfl⟩ := list7 (l := l) (by omega)
    obtain ⟨es, h1, h2, h3⟩ := chunk7 n r (by simp at h; omega)
    refine ⟨.agg [x0, x1, x2, x3, x4, x5, x6] :: es, by simp [h1], by simp [flatE, PV.cells] at h2 ⊢; exact h2, fun e he => ?_⟩
    rcases List.mem_cons.1 he with rfl | he
    · rfl
    · exact h3 e he
def NC (src : List UInt8) (ib : Nat) (t : St) : Prop := ∀ (off off' : Nat) (m : Nd) (H : Heap), nodeA t off = some (off', m) → H[ib]? = some (.row [.str src, .int .i64 ((off : Nat) : Int), .slice [] .full]) →
  ACalls Tryz.prog 35 [.optr ib 0, t.enc] H fun r H' => r = m.enc ∧ H'[ib]? = some (.row [.str src, .int .i64 ((off' : Nat) : Int), .slice [] .full]) ∧ Fr [ib] [ib] H H'
theorem nodeA_eq (t : St) (off : Nat) : nodeA t off = if t.ch.length < lim then (kidsA t.ch off ⟨t.kind, 0, [], off, -1, -1, []⟩).bind fun r => (finA (setSE r.2 r.2.st (max r.2.en r.2.st))).bind fun m => some (r.1, m) else none := by
  cases t; rw [nodeA]; rfl
theorem kidsA_cons (c : St) (cs : List St) (off : Nat) (n : Nd) : kidsA (c :: cs) off n = if decide (c.kind ≥ 100) = true then (tokA c off n).bind fun r => kidsA cs r.1 r.2
    else (nodeA c off).bind fun r => if n.kids.length < lim then kidsA cs r.1 (addK (extM n r.2.st r.2.en) r.2) else none := by rw [kidsA]
theorem fr1 {ib : Nat} {H H1 H2 L : Heap} (a : Fr [ib] [ib] H H1) (b : Fr [ib] [ib] (H1 ++ L) H2) : Fr [ib] [ib] H H2 := a.trans b.of_app
theorem fr_new {ib i : Nat} {H H1 H2 L : Heap} (a : Fr [ib] [ib] H H1) (b : Fr [ib, i] [ib, i] (H1 ++ L) H2) (hi : H.length ≤ i) : Fr [ib] [ib] H H2 :=
  ⟨Nat.le_trans a.len (Nat.le_trans (by simp) b.len), fun id h1 h2 => by
    have h3 := a.len
    rw [b.same id (by simp; omega) (by simp at h2 ⊢; exact ⟨h2, by omega⟩), List.getElem?_append_left (by omega)]; exact a.same id h1 h2, fun id h _ => h⟩
end Go.Abs
set_option maxRecDepth 4000
namespace Go.Abs
open Go.Proofs
theorem zNdf : PV.fits ⟨true, 7, 80⟩ (ofConst (Value.agg #[Value.int IntKind.i64 0, Value.int IntKind.i64 0, Value.string { data := #[] }, Value.int IntKind.i64 0, Value.int IntKind.i64 0, Value.int IntKind.i64 0, Value.slice none 0 0])) = true := by kernel_rfl
theorem zNdd : (ofConst (Value.agg #[Value.int IntKind.i64 0, Value.int IntKind.i64 0, Value.string { data := #[] }, Value.int IntKind.i64 0, Value.int IntKind.i64 0, Value.int IntKind.i64 0, Value.slice none 0 0])).drop1 = .agg [.int .i64 0, .int .i64 0, .str [], .int .i64 0, .int .i64 0, .int .i64 0, .slice [] .none] := by rfl
theorem node_k {src : List UInt8} {ib : Nat} {t : St} (ih : ∀ c ∈ t.ch, NC src ib c) : NC src ib t := by
 intro off off' m H0 hm hb
 rw [nodeA_eq] at hm
 split at hm
 case isFalse => cases hm
 rename_i hlen
 simp only [lim] at hlen
 obtain ⟨⟨off2, n2⟩, hkids, hm⟩ := oB hm
 obtain ⟨m', hfin, hm⟩ := oB hm
 injection hm with hm
 injection hm with hm1 hm2
 simp only at hfin hm1
 subst hm1 hm2
 have hmx : maxLen = 9223372036854775807 := by decide
 have hbl := lG hb
 have qb := getL hb
 refine aF (N := 57) Tryz.func35 rfl rfl (by simp) fun hb' => ?_
 repeat refine wS ?_
 refine eE (by simp only [kA, seval, y48, y66, vint, qC, NdS, NdF, hb, qb] <;> with_reducible rfl) (by decide) ?_
 repeat refine wS ?_
 refine eE (by simp only [kA, seval, y3, y71, vint, qC, NdS, NdF, hb, qb] <;> with_reducible rfl) (by decide) ?_
 repeat refine wS ?_
 refine eE (by simp only [kA, seval, y3, y48, y66, vint, qC, NdS, NdF, hb, qb] <;> with_reducible rfl) (by decide) ?_
 repeat refine wS ?_
 refine eE (by simp only [kA, seval, y64, y66, vint, qC, NdS, NdF, hb, qb] <;> with_reducible rfl) (by decide) ?_
 repeat refine wS ?_
 refine awp_block ?_
 refine awp_loopX (σ := Nat × Nat × Nd) (fun (z : Nat × Nat × Nd) => [(0, .optr ib 0), (4, .optr (H0.length + 1) 0), (6, .optr (H0.length + 2) 0), (19, .slice (t.ch.map St.enc) .none), (20, vint (t.ch.length : Int)), (21, vint (z.1 : Int))]) (fun (z : Nat × Nat × Nd) =>  fun H1 => z.1 ≤ t.ch.length ∧ kidsA (t.ch.drop z.1) z.2.1 z.2.2 = some (off2, n2) ∧ H1[ib]? = some (.row [.str src, .int .i64 ((z.2.1 : Nat) : Int), .slice [] .full]) ∧ (∃ cv cid, H1[H0.length + 2]? = some (.row [.int .i64 z.2.2.kind, .int .i64 z.2.2.value, .str z.2.2.text, .int .i64 z.2.2.st, .int .i64 z.2.2.en, .int .i64 z.2.2.ns, cv]) ∧ NkOk H1 cv z.2.2.kids cid ∧ ∀ x ∈ cid, H0.length + 3 ≤ x) ∧ H1[H0.length + 1]? = some (.row [.int .i64 0, .int .i64 0, .str [], .int .i64 0, .int .i64 0, .int .i64 0, .slice [] .full]) ∧ Fr [ib] [ib] H0 H1) (fun (z : Nat × Nat × Nd) => t.ch.length - z.1) ((0, off, (Nd.mk t.kind 0 [] ((off : Nat) : Int) (-1) (-1) []))) ⟨(by first | rfl | (simp only [jN, seval, vint, qC, NdS, NdF, hb, qb] <;> first | done | with_reducible rfl)), (by first | rfl | (simp only [jN, seval, vint, qC, NdS, NdF, hb, qb] <;> first | done | with_reducible rfl)), (by first | rfl | (simp only [jN, seval, vint, qC, NdS, NdF, hb, qb] <;> first | done | with_reducible rfl)), (by first | rfl | (simp only [jN, seval, vint, qC, NdS, NdF, hb, qb] <;> first | done | with_reducible rfl)), (by first | rfl | (simp only [jN, seval, vint, qC, NdS, NdF, hb, qb] <;> first | done | with_reducible rfl)), (by first | rfl | (simp only [jN, seval, vint, qC, NdS, NdF, hb, qb] <;> first | done | with_reducible rfl)), trivial⟩ (⟨Nat.zero_le _, hkids, qb _, ⟨.slice [] .full, [], by simp [Nd.kind, Nd.value, Nd.text, Nd.st, Nd.en, Nd.ns], .nil, fun x hx => by cases hx⟩, by simp, (Fr.refl [ib] H0).app _⟩) ?_
 intro z H1 hg
 obtain ⟨j, off1, n⟩ := z
 obtain ⟨hj, hk1, hb1, ⟨cv, cid, hn1, hc1, hd1⟩, hz1, f1⟩ := hg
 simp only at hj hk1 hb1 hn1 hc1 hz1 f1
 have hil1 := lG hn1
 have qb1 := getL hb1
 have qn1 := getL hn1
 have qz1 := getL hz1
 rcases Nat.lt_or_ge j t.ch.length with hi | hi
 ·-- case
  have gi := ix_nat hi
  have ge := get_enc St.enc hi
  have gl : decide ((j : Int) < (t.ch.length : Int)) = true := decide_eq_true (by omega)
  have gwj : IntKind.i64.wrap ((j : Int) + 1) = ((j + 1 : Nat) : Int) := by rw [wrap_id (by omega) (by omega)]; omega
  rw [List.drop_eq_getElem_cons hi, kidsA_cons] at hk1
  repeat refine wS ?_
  refine eE (by simp only [kA, seval, y3, vint, qC, NdS, NdF, hb, qb, hb1, hn1, hz1, qb1, qn1, qz1, gi, ge, gl, gwj, tN] <;> with_reducible rfl) (by decide) ?_
  repeat refine wS ?_
  refine awp_cond_true rfl (by simp only [jN, seval, vint, qC, NdS, NdF, hb, qb, hb1, hn1, hz1, qb1, qn1, qz1, gi, ge, gl, gwj, tN] <;> with_reducible rfl) ?_
  repeat refine wS ?_
  refine wK ?_
  repeat refine wS ?_
  refine awp_block ?_
  repeat refine wS ?_
  refine eE (by simp only [kA, seval, y64, y66, vint, qC, NdS, NdF, hb, qb, hb1, hn1, hz1, qb1, qn1, qz1, gi, ge, gl, gwj, tN] <;> with_reducible rfl) (by decide) ?_
  repeat refine wS ?_
  refine eE (by simp only [kA, seval, y3, y66, vint, qC, NdS, NdF, hb, qb, hb1, hn1, hz1, qb1, qn1, qz1, gi, ge, gl, gwj, tN] <;> with_reducible rfl) (by decide) ?_
  repeat refine wS ?_
  refine wC rfl (by simp only [jN, seval, vint, qC, NdS, NdF, hb, qb, hb1, hn1, hz1, qb1, qn1, qz1, gi, ge, gl, gwj, tN] <;> with_reducible rfl) (fun bt27 => ?_) (fun bt27 => ?_)
  ·-- if t27
   rw [if_pos bt27] at hk1
   obtain ⟨⟨off3, n3⟩, htok, hk1⟩ := oB hk1
   repeat refine wS ?_
   refine wR ?_
   refine eT 2 (by simp only [kA, seval, y66, vint, qC, NdS, NdF, hb, qb, hb1, hn1, hz1, qb1, qn1, qz1, gi, ge, gl, gwj, tN] <;> with_reducible rfl) (by decide) ?_
   refine oC (by simp only [kC, seval, vint, qC, NdS, NdF, hb, qb, hb1, hn1, hz1, qb1, qn1, qz1, gi, ge, gl, gwj, tN] <;> with_reducible rfl) (by simp only [kC, seval]) (by decide) Tryzgo51 (token_c htok (qb1 _) (qn1 _) (by omega)) ?_
   rintro _ H2 ⟨rfl, hb2, hn2, g2⟩
   refine oN ?_
   repeat refine wS ?_
   refine awp_exit ?_
   simp only [thenQ, blockQ, reduceIte, Nat.reduceEqDiff, Nat.succ_ne_self, if_true, if_false]
   repeat refine wS ?_
   refine eE (by simp only [kA, seval, y3, vint, qC, NdS, NdF, hb, qb, hb1, hn1, hz1, qb1, qn1, qz1, gi, ge, gl, gwj, tN] <;> with_reducible rfl) (by decide) ?_
   try simp only [thenQ, blockQ]
   have f2 := fr_new f1 g2 (by omega)
   exact ⟨(j + 1, off3, n3), by show t.ch.length - (j + 1) < t.ch.length - j; omega, ⟨rfl, rfl, rfl, rfl, rfl, rfl, trivial⟩, hi, hk1, hb2, ⟨cv, cid, hn2, by rw [token_kids htok]; exact hc1.fr (fun x hx => by have h1 := hd1 x hx; have h2 := hc1.lt x hx; rw [g2.same x (by simp; omega) (by simp; omega), List.getElem?_append_left h2]), hd1⟩, by rw [g2.same _ (by simp; omega) (by simp; omega)]; exact qz1 _, f2⟩
  ·-- else t27
   rw [if_neg (by rw [bt27]; simp)] at hk1
   obtain ⟨⟨off3, m3⟩, hnode, hk1⟩ := oB hk1
   simp only at hk1
   split at hk1
   case isFalse => cases hk1
   rename_i hlk
   repeat refine wS ?_
   refine wK ?_
   repeat refine wS ?_
   refine wR ?_
   refine eT 2 (by simp only [kA, seval, y66, vint, qC, NdS, NdF, hb, qb, hb1, hn1, hz1, qb1, qn1, qz1, gi, ge, gl, gwj, tN] <;> with_reducible rfl) (by decide) ?_
   refine oC (by simp only [kC, seval, vint, qC, NdS, NdF, hb, qb, hb1, hn1, hz1, qb1, qn1, qz1, gi, ge, gl, gwj, tN] <;> with_reducible rfl) (by simp only [kC, seval]) (by decide) Tryzgo35 (ih t.ch[j] (List.getElem_mem hi) off1 off3 m3 _ hnode (qb1 _)) ?_
   rintro _ H2 ⟨rfl, hb2, g2⟩
   have f2 := fr1 f1 g2
   have hn2 : H2[H0.length + 2]? = some (.row [.int .i64 n.kind, .int .i64 n.value, .str n.text, .int .i64 n.st, .int .i64 n.en, .int .i64 n.ns, cv]) := by rw [g2.same _ (by simp; omega) (by simp; omega)]; exact qn1 _
   have hz2 : H2[H0.length + 1]? = some (.row [.int .i64 0, .int .i64 0, .str [], .int .i64 0, .int .i64 0, .int .i64 0, .slice [] .full]) := by rw [g2.same _ (by simp; omega) (by simp; omega)]; exact qz1 _
   have hc2 : NkOk H2 cv n.kids cid := hc1.fr fun x hx => by
    have h1 := hd1 x hx
    have h2 := hc1.lt x hx
    rw [g2.same x (by simp; omega) (by simp; omega), List.getElem?_append_left h2]
   have qb2 := getL hb2
   have qn2 := getL hn2
   have hil2 := lG hn2
   refine e_end (by simp only [kA, seval, y48, vint, qC, NdS, NdF, hb, qb, hb1, hn1, hz1, qb1, qn1, qz1, gi, ge, gl, gwj, tN, hb2, hn2, qb2, qn2] <;> with_reducible rfl) (by decide) ?_
   repeat refine wS ?_
   refine wR ?_
   refine eT 4 (by simp only [kA, seval, y3, y48, vint, qC, NdS, NdF, hb, qb, hb1, hn1, hz1, qb1, qn1, qz1, gi, ge, gl, gwj, tN, hb2, hn2, qb2, qn2] <;> with_reducible rfl) (by decide) ?_
   refine oC (by simp only [kC, seval, vint, qC, NdS, NdF, hb, qb, hb1, hn1, hz1, qb1, qn1, qz1, gi, ge, gl, gwj, tN, hb2, hn2, qb2, qn2] <;> with_reducible rfl) (by simp only [kC, seval]) (by decide) Tryzgo52 (extend_c (n := n) (cv := cv) (qn2 _) m3.st m3.en) ?_
   rintro _ _ ⟨rfl, rfl⟩
   refine oN ?_
   refine wL [0, 4, 6, 9, 19, 20, 21] (by simp only [jN, seval, vint, qC, NdS, NdF, hb, qb, hb1, hn1, hz1, qb1, qn1, qz1, gi, ge, gl, gwj, tN, hb2, hn2, qb2, qn2] <;> with_reducible rfl) ?_
   refine awp_abs (fun H3 => H3[ib]? = some (.row [.str src, .int .i64 ((off3 : Nat) : Int), .slice [] .full]) ∧ (∃ cv cid, H3[H0.length + 2]? = some (.row [.int .i64 (extM n m3.st m3.en).kind, .int .i64 (extM n m3.st m3.en).value, .str (extM n m3.st m3.en).text, .int .i64 (extM n m3.st m3.en).st, .int .i64 (extM n m3.st m3.en).en, .int .i64 (extM n m3.st m3.en).ns, cv]) ∧ NkOk H3 cv n.kids cid ∧ ∀ x ∈ cid, H0.length + 3 ≤ x) ∧ H3[H0.length + 1]? = some (.row [.int .i64 0, .int .i64 0, .str [], .int .i64 0, .int .i64 0, .int .i64 0, .slice [] .full]) ∧ (∃ mid, mid = H2.length ∧ mid < H3.length ∧ H0.length + 3 ≤ mid ∧ H3[mid]? = some (.row [.int .i64 m3.kind, .int .i64 m3.value, .str m3.text, .int .i64 m3.st, .int .i64 m3.en, .int .i64 m3.ns, .slice (m3.kids.map Nd.enc) .none])) ∧ Fr [ib] [ib] H0 H3) ?_ ?_
   ·have hl2 := lG hn2
    have hg2 := f2.len
    refine ⟨by rw [List.getElem?_set_ne (by omega)]; exact getL hb2 _, ⟨cv, cid, by rw [List.getElem?_set_self (by simp; omega)], (hc2.fr fun x hx => by have := hd1 x hx; have := hc2.lt x hx; rw [List.getElem?_set_ne (by omega), List.getElem?_append_left (by omega)]), hd1⟩, by rw [List.getElem?_set_ne (by omega)]; exact getL hz2 _, ⟨H2.length, rfl, by simp, by omega, by rw [List.getElem?_set_ne (by omega)]; simp⟩, ⟨by simp; omega, fun id h1 h2 => by rw [List.getElem?_set_ne (by omega), List.getElem?_append_left (by omega)]; exact f2.same id h1 h2, fun id h _ => h⟩⟩
   rintro H3 ⟨hb3, ⟨cv3, cid3, hn3, hc3, hd3⟩, hz3, ⟨mid, hmid, hml, hmg, hM3⟩, f3⟩
   rw [← hmid]
   have hil3 := lG hn3
   have qn3 := getL hn3
   have qM3 := getL hM3
   have nf3 : ∀ k, (H0.length + 2 = H3.length + k) = False := fun k => by simp; omega
   have nf3b : (H0.length + 2 = H3.length) = False := by simp; omega
   have nNf : ∀ k, (H3.length + k = H0.length + 2) = False := fun k => by simp; omega
   have nMN : (mid = H0.length + 2) = False := by simp; omega
   have nb5 : ∀ k, (H0.length + 2 == H3.length + k) = false := fun k => by simp; omega
   have nb6 : ∀ k, (H3.length + k == H0.length + 2) = false := fun k => by simp; omega
   have nb7 : (H0.length + 2 == H3.length) = false := by simp; omega
   have nb8 : (H3.length == H0.length + 2) = false := by simp; omega
   have nNf0 : (H3.length = H0.length + 2) = False := by simp; omega
   have qs3 : ∀ L o, (H3 ++ L).set (H0.length + 2) o = H3.set (H0.length + 2) o ++ L := fun L o => ap6 hil3
   rcases hc3.cases3 with ⟨hcv, hcid⟩ | ⟨ic, hcid, hcv, hic⟩ | ⟨ic, c1, e0, e1, e2, e3, e4, e5, e6, rest1, hcid, hcv, hic, hr1, hr2, hr3⟩
   ·-- case
    subst hcv hcid
    repeat refine wS ?_
    refine awp_drawB 0 (by kernel_rfl) ?_
    refine seg_pure 5 (bm := [0, 1, 0, 3, 0, 31, 63, 127, 63, 319]) (by kernel_rfl) (by decide) (by kernel_rfl) (by kernel_rfl) ?_
    refine dp_end (by simp only [jP, jO, jN, seval, y40, y48, vint, qC, NdS, NdF, hn3, hM3, nb7, nb8, nNf0, qn3, qM3, zNdf, zNdd, if_true, lS, nf3, nf3b, tN, nMN, qs3, nb5, nb6, nNf, List.length_map] <;> with_reducible rfl) (by decide) (by repeat (first | exact Fin.base _ | with_reducible apply Fin.keep | apply Fin.drop)) ?_
    refine seg_op (k := 5) (bm := [0, 1, 0, 3, 0, 31, 63, 127, 63, 319]) (by kernel_rfl) rfl (by kernel_rfl) (by kernel_rfl) ?_
    refine aops_appNew (n := n.kids.length) (oc := flatE (n.kids.map Nd.enc)) (e1 := .agg [.int .i64 0, .int .i64 0, .str [], .int .i64 0, .int .i64 0, .int .i64 0, .slice [] .none]) (tl := .full) (by simp only [kC, seval, vint, qC, NdS, NdF, hn3, hM3, nb7, nb8, nNf0, qn3, qM3, zNdf, zNdd, if_true, lS, nf3, nf3b, tN, nMN, qs3, nb5, nb6, nNf]) rfl (by decide) (by decide) (by simp only [kC, seval, vint, qC, NdS, NdF, hn3, hM3, nb7, nb8, nNf0, qn3, qM3, zNdf, zNdd, if_true, lS, nf3, nf3b, tN, nMN, qs3, nb5, nb6, nNf] <;> first | done | rfl) (by show _ * 80 ≤ _; simp only [lim] at hlk; omega) (by simp only [lim] at hlk; omega) rfl Tryzte40 (by rw [Tryzte40]; rfl) Tryztz48 rfl (fun E v ho hE hv => first_full (by simp) (fun e he => by obtain ⟨v, _, rfl⟩ := List.mem_map.1 he; exact v.enc_len) hv) ?_
    intro c1 rest1 hcc1 hcc2 hrest1
    refine oN ?_
    show GoAt _ _ _ _ _ _ _ _
    obtain ⟨RR, hRR⟩ : ∃ RR, RR = (flatE (n.kids.map Nd.enc) ++ PV.cells (.agg [.int .i64 0, .int .i64 0, .str [], .int .i64 0, .int .i64 0, .int .i64 0, .slice [] .none]) ++ rest1) := ⟨_, rfl⟩
    rw [← hRR]
    have lr1 : rest1.length = (c1 - (n.kids.length + 1)) * 7 := by rw [hrest1]; simp [PV.cells]
    have lRR : RR.length = c1 * 7 := by rw [hRR]; simp [flatNd_len, PV.cells, lr1]; omega
    have hb7 : (n.kids.length * 7 + 7 ≤ c1 * 7) = True := by simp; omega
    have gk := ix_nat (n := n.kids.length + 1) (i := n.kids.length) (by omega)
    refine seg_draw 4 (bm := [0, 1, 0, 3, 0, 31, 63, 127, 63, 319]) (by kernel_rfl) (by decide) (by kernel_rfl) (by kernel_rfl) ?_
    refine d_end (bm := [0, 1, 0, 3, 0, 31, 63, 127, 63, 319]) (fresh := H3.length + 7) (by kernel_rfl) (by simp only [jD, jO, jN, seval, y40, y48, vint, qC, NdS, NdF, hn3, hM3, nb7, nb8, nNf0, qn3, qM3, zNdf, zNdd, if_true, lS, nf3, nf3b, tN, nMN, qs3, nb5, nb6, nNf, hb7, lRR, gk] <;> with_reducible rfl) (by decide) ?_
    refine goat_end ?_
    refine awp_abs (fun H4 => H4[ib]? = some (.row [.str src, .int .i64 ((off3 : Nat) : Int), .slice [] .full]) ∧ (∃ cv cid, H4[H0.length + 2]? = some (.row [.int .i64 (addK (extM n m3.st m3.en) m3).kind, .int .i64 (addK (extM n m3.st m3.en) m3).value, .str (addK (extM n m3.st m3.en) m3).text, .int .i64 (addK (extM n m3.st m3.en) m3).st, .int .i64 (addK (extM n m3.st m3.en) m3).en, .int .i64 (addK (extM n m3.st m3.en) m3).ns, cv]) ∧ NkOk H4 cv (addK (extM n m3.st m3.en) m3).kids cid ∧ ∀ x ∈ cid, H0.length + 3 ≤ x) ∧ H4[H0.length + 1]? = some (.row [.int .i64 0, .int .i64 0, .str [], .int .i64 0, .int .i64 0, .int .i64 0, .slice [] .full]) ∧ Fr [ib] [ib] H0 H4) ?_ ?_
    ·refine ⟨by rw [ap2 (lG hb3) (by omega)]; exact hb3, ⟨.msl H3.length 0 (n.kids.length + 1) c1, [H3.length], ap1 hil3, .of (rest := rest1) (by simp [addK, extM, Nd.kids]) ((ap3 (k := 0)).trans ?_) (by simp [lr1]; omega) hcc2, fun x hx => by rw [List.mem_singleton] at hx; omega⟩, by rw [ap2 (lG hz3) (by omega)]; exact hz3, ⟨by have := f3.len; simp; omega, fun id h1 h2 => by rw [ap2 (by have := f3.len; omega) (by omega)]; exact f3.same id h1 h2, fun id h _ => h⟩⟩
     rw [hRR]
     show some (AObj.row _) = _
     show _ = some (AObj.row (flatE ((n.kids ++ [m3]).map Nd.enc) ++ rest1))
     rw [flatNd_snoc]
     refine congrArg (fun z => some (AObj.row z)) ?_
     show List.set (List.set (List.set (List.set (List.set (List.set (List.set ((flatE (n.kids.map Nd.enc) ++ [_, _, _, _, _, _, _]) ++ rest1) _ _) _ _) _ _) _ _) _ _) _ _) _ _ = _
     rw [List.append_assoc]
     exact set7 (flatNd_len n.kids)
    rintro H4 ⟨hb4, ⟨cv4, cid4, hn4, hc4, hd4⟩, hz4, f4⟩
    repeat refine wS ?_
    refine eE (by simp only [kA, seval, y3, vint, qC, NdS, NdF, hb, qb, hb1, hn1, hz1, qb1, qn1, qz1, gi, ge, gl, gwj, tN, hb2, hn2, qb2, qn2] <;> with_reducible rfl) (by decide) ?_
    try simp only [thenQ, blockQ]
    exact ⟨(j + 1, off3, addK (extM n m3.st m3.en) m3), by show t.ch.length - (j + 1) < t.ch.length - j; omega, ⟨rfl, rfl, rfl, rfl, rfl, rfl, trivial⟩, hi, hk1, hb4, ⟨cv4, cid4, hn4, hc4, hd4⟩, hz4, f4⟩
   ·-- case
    subst hcv hcid
    repeat refine wS ?_
    refine awp_drawB 0 (by kernel_rfl) ?_
    refine seg_pure 5 (bm := [0, 1, 0, 3, 0, 31, 63, 127, 63, 319]) (by kernel_rfl) (by decide) (by kernel_rfl) (by kernel_rfl) ?_
    refine dp_end (by simp only [jP, jO, jN, seval, y40, y48, vint, qC, NdS, NdF, hn3, hM3, nb7, nb8, nNf0, qn3, qM3, zNdf, zNdd, if_true, lS, nf3, nf3b, tN, nMN, qs3, nb5, nb6, nNf] <;> with_reducible rfl) (by decide) (by repeat (first | exact Fin.base _ | with_reducible apply Fin.keep | apply Fin.drop)) ?_
    refine seg_op (k := 5) (bm := [0, 1, 0, 3, 0, 31, 63, 127, 63, 319]) (by kernel_rfl) rfl (by kernel_rfl) (by kernel_rfl) ?_
    refine aops_appNew (n := n.kids.length) (oc := flatE (n.kids.map Nd.enc)) (e1 := .agg [.int .i64 0, .int .i64 0, .str [], .int .i64 0, .int .i64 0, .int .i64 0, .slice [] .none]) (tl := .full) (by simp only [kC, seval, vint, qC, NdS, NdF, hn3, hM3, nb7, nb8, nNf0, qn3, qM3, zNdf, zNdd, if_true, lS, nf3, nf3b, tN, nMN, qs3, nb5, nb6, nNf]) rfl (by decide) (by decide) (by simp only [kC, seval, vint, qC, NdS, NdF, hn3, hM3, nb7, nb8, nNf0, qn3, qM3, zNdf, zNdd, if_true, lS, nf3, nf3b, tN, nMN, qs3, nb5, nb6, nNf] <;> first | done | rfl) (by show _ * 80 ≤ _; simp only [lim] at hlk; omega) (by simp only [lim] at hlk; omega) rfl Tryzte40 (by rw [Tryzte40]; rfl) Tryztz48 rfl (fun E v ho hE hv => first_msl ho (cs := flatE (n.kids.map Nd.enc)) (by rw [hE]; exact hic) (flatNd_len n.kids) hv) ?_
    intro c1 rest1 hcc1 hcc2 hrest1
    refine oN ?_
    show GoAt _ _ _ _ _ _ _ _
    obtain ⟨RR, hRR⟩ : ∃ RR, RR = (flatE (n.kids.map Nd.enc) ++ PV.cells (.agg [.int .i64 0, .int .i64 0, .str [], .int .i64 0, .int .i64 0, .int .i64 0, .slice [] .none]) ++ rest1) := ⟨_, rfl⟩
    rw [← hRR]
    have lr1 : rest1.length = (c1 - (n.kids.length + 1)) * 7 := by rw [hrest1]; simp [PV.cells]
    have lRR : RR.length = c1 * 7 := by rw [hRR]; simp [flatNd_len, PV.cells, lr1]; omega
    have hb7 : (n.kids.length * 7 + 7 ≤ c1 * 7) = True := by simp; omega
    have gk := ix_nat (n := n.kids.length + 1) (i := n.kids.length) (by omega)
    refine seg_draw 4 (bm := [0, 1, 0, 3, 0, 31, 63, 127, 63, 319]) (by kernel_rfl) (by decide) (by kernel_rfl) (by kernel_rfl) ?_
    refine d_end (bm := [0, 1, 0, 3, 0, 31, 63, 127, 63, 319]) (fresh := H3.length + 7) (by kernel_rfl) (by simp only [jD, jO, jN, seval, y40, y48, vint, qC, NdS, NdF, hn3, hM3, nb7, nb8, nNf0, qn3, qM3, zNdf, zNdd, if_true, lS, nf3, nf3b, tN, nMN, qs3, nb5, nb6, nNf, hb7, lRR, gk] <;> with_reducible rfl) (by decide) ?_
    refine goat_end ?_
    refine awp_abs (fun H4 => H4[ib]? = some (.row [.str src, .int .i64 ((off3 : Nat) : Int), .slice [] .full]) ∧ (∃ cv cid, H4[H0.length + 2]? = some (.row [.int .i64 (addK (extM n m3.st m3.en) m3).kind, .int .i64 (addK (extM n m3.st m3.en) m3).value, .str (addK (extM n m3.st m3.en) m3).text, .int .i64 (addK (extM n m3.st m3.en) m3).st, .int .i64 (addK (extM n m3.st m3.en) m3).en, .int .i64 (addK (extM n m3.st m3.en) m3).ns, cv]) ∧ NkOk H4 cv (addK (extM n m3.st m3.en) m3).kids cid ∧ ∀ x ∈ cid, H0.length + 3 ≤ x) ∧ H4[H0.length + 1]? = some (.row [.int .i64 0, .int .i64 0, .str [], .int .i64 0, .int .i64 0, .int .i64 0, .slice [] .full]) ∧ Fr [ib] [ib] H0 H4) ?_ ?_
    ·refine ⟨by rw [ap2 (lG hb3) (by omega)]; exact hb3, ⟨.msl H3.length 0 (n.kids.length + 1) c1, [H3.length], ap1 hil3, .of (rest := rest1) (by simp [addK, extM, Nd.kids]) ((ap3 (k := 0)).trans ?_) (by simp [lr1]; omega) hcc2, fun x hx => by rw [List.mem_singleton] at hx; omega⟩, by rw [ap2 (lG hz3) (by omega)]; exact hz3, ⟨by have := f3.len; simp; omega, fun id h1 h2 => by rw [ap2 (by have := f3.len; omega) (by omega)]; exact f3.same id h1 h2, fun id h _ => h⟩⟩
     rw [hRR]
     show some (AObj.row _) = _
     show _ = some (AObj.row (flatE ((n.kids ++ [m3]).map Nd.enc) ++ rest1))
     rw [flatNd_snoc]
     refine congrArg (fun z => some (AObj.row z)) ?_
     show List.set (List.set (List.set (List.set (List.set (List.set (List.set ((flatE (n.kids.map Nd.enc) ++ [_, _, _, _, _, _, _]) ++ rest1) _ _) _ _) _ _) _ _) _ _) _ _) _ _ = _
     rw [List.append_assoc]
     exact set7 (flatNd_len n.kids)
    rintro H4 ⟨hb4, ⟨cv4, cid4, hn4, hc4, hd4⟩, hz4, f4⟩
    repeat refine wS ?_
    refine eE (by simp only [kA, seval, y3, vint, qC, NdS, NdF, hb, qb, hb1, hn1, hz1, qb1, qn1, qz1, gi, ge, gl, gwj, tN, hb2, hn2, qb2, qn2] <;> with_reducible rfl) (by decide) ?_
    try simp only [thenQ, blockQ]
    exact ⟨(j + 1, off3, addK (extM n m3.st m3.en) m3), by show t.ch.length - (j + 1) < t.ch.length - j; omega, ⟨rfl, rfl, rfl, rfl, rfl, rfl, trivial⟩, hi, hk1, hb4, ⟨cv4, cid4, hn4, hc4, hd4⟩, hz4, f4⟩
   ·-- case
    subst hcv hcid
    have hic1 := lG hic
    have gk := ix_nat (n := n.kids.length + 1) (i := n.kids.length) (by omega)
    have nic : ic ≠ H0.length + 2 := fun e => by have := hd3 ic (by simp); omega
    have n1 : (ic == H0.length + 2) = false := by simpa using nic
    have n2 : (H0.length + 2 == ic) = false := by simpa using Ne.symm nic
    have n3 : ∀ k, (ic = H3.length + k) = False := fun k => by simp; omega
    repeat refine wS ?_
    refine awp_drawB 0 (by kernel_rfl) ?_
    refine seg_pure 5 (bm := [0, 1, 0, 3, 0, 31, 63, 127, 63, 319]) (by kernel_rfl) (by decide) (by kernel_rfl) (by kernel_rfl) ?_
    refine dp_end (by simp only [jP, jO, jN, seval, y40, y48, vint, qC, NdS, NdF, hn3, hM3, nb7, nb8, nNf0, qn3, qM3, zNdf, zNdd, if_true, lS, nf3, nf3b, tN, nMN, qs3, nb5, nb6, nNf] <;> with_reducible rfl) (by decide) (by repeat (first | exact Fin.base _ | with_reducible apply Fin.keep | apply Fin.drop)) ?_
    refine seg_op (k := 5) (bm := [0, 1, 0, 3, 0, 31, 63, 127, 63, 319]) (by kernel_rfl) rfl (by kernel_rfl) (by kernel_rfl) ?_
    refine aops_appIn (id := ic) (n := n.kids.length) (c := c1) (cs := flatE (n.kids.map Nd.enc) ++ e0 :: e1 :: e2 :: e3 :: e4 :: e5 :: e6 :: rest1) (e1 := .agg [.int .i64 0, .int .i64 0, .str [], .int .i64 0, .int .i64 0, .int .i64 0, .slice [] .none]) (tl := .full) hic (by simp only [kC, seval, vint, qC, NdS, NdF, hn3, hM3, nb7, nb8, nNf0, qn3, qM3, zNdf, zNdd, if_true, lS, nf3, nf3b, tN, nMN, qs3, nb5, nb6, nNf]) rfl (by decide) (by decide) (by simp only [kC, seval, vint, qC, NdS, NdF, hn3, hM3, nb7, nb8, nNf0, qn3, qM3, zNdf, zNdd, if_true, lS, nf3, nf3b, tN, nMN, qs3, nb5, nb6, nNf] <;> first | done | rfl) (by simp only [kC, seval, vint, qC, NdS, NdF, hn3, hM3, nb7, nb8, nNf0, qn3, qM3, zNdf, zNdd, if_true, lS, nf3, nf3b, tN, nMN, qs3, nb5, nb6, nNf] <;> first | done | rfl) (by omega) (by simp [flatNd_len]; omega) rfl rfl Tryzte40 (by rw [Tryzte40]; rfl) ?_
    refine oN ?_
    show GoAt _ _ _ _ _ _ _ _
    obtain ⟨RR, hRR⟩ : ∃ RR, RR = splice (flatE (n.kids.map Nd.enc) ++ e0 :: e1 :: e2 :: e3 :: e4 :: e5 :: e6 :: rest1) (n.kids.length * 7) (PV.cells (.agg [.int .i64 0, .int .i64 0, .str [], .int .i64 0, .int .i64 0, .int .i64 0, .slice [] .none])) := ⟨_, rfl⟩
    rw [← hRR]
    have hRR2 : RR = flatE (n.kids.map Nd.enc) ++ PV.int .i64 0 :: PV.int .i64 0 :: PV.str [] :: PV.int .i64 0 :: PV.int .i64 0 :: PV.int .i64 0 :: PV.slice [] .none :: rest1 := by rw [hRR]; show splice _ _ [_, _, _, _, _, _, _] = _; simp only [splice]; rw [set7 (flatNd_len n.kids)]; simp
    have lRR : RR.length = c1 * 7 := by rw [hRR2]; simp [flatNd_len]; omega
    have hb7 : (n.kids.length * 7 + 7 ≤ c1 * 7) = True := by simp; omega
    have q5 : ∀ o, (H3.set ic o)[ic]? = some o := fun o => List.getElem?_set_self hic1
    have q6 : ∀ o, (H3.set ic o)[H0.length + 2]? = some (.row [.int .i64 (extM n m3.st m3.en).kind, .int .i64 (extM n m3.st m3.en).value, .str (extM n m3.st m3.en).text, .int .i64 (extM n m3.st m3.en).st, .int .i64 (extM n m3.st m3.en).en, .int .i64 (extM n m3.st m3.en).ns, (.msl ic 0 n.kids.length c1)]) := fun o => by rw [List.getElem?_set_ne nic]; exact hn3
    have q7 : ∀ o o2, (H3.set ic o).set ic o2 = H3.set ic o2 := fun o o2 => List.set_set ..
    refine seg_draw 4 (bm := [0, 1, 0, 3, 0, 31, 63, 127, 63, 319]) (by kernel_rfl) (by decide) (by kernel_rfl) (by kernel_rfl) ?_
    refine d_end (bm := [0, 1, 0, 3, 0, 31, 63, 127, 63, 319]) (fresh := H3.length + 7) (by kernel_rfl) (by simp only [jD, jO, jN, seval, y40, y48, vint, qC, NdS, NdF, hn3, hM3, nb7, nb8, nNf0, qn3, qM3, zNdf, zNdd, if_true, lS, nf3, nf3b, tN, nMN, qs3, nb5, nb6, nNf, hb7, lRR, gk, q5, q6, q7, n1, n2, n3] <;> with_reducible rfl) (by decide) ?_
    refine goat_end ?_
    refine awp_abs (fun H4 => H4[ib]? = some (.row [.str src, .int .i64 ((off3 : Nat) : Int), .slice [] .full]) ∧ (∃ cv cid, H4[H0.length + 2]? = some (.row [.int .i64 (addK (extM n m3.st m3.en) m3).kind, .int .i64 (addK (extM n m3.st m3.en) m3).value, .str (addK (extM n m3.st m3.en) m3).text, .int .i64 (addK (extM n m3.st m3.en) m3).st, .int .i64 (addK (extM n m3.st m3.en) m3).en, .int .i64 (addK (extM n m3.st m3.en) m3).ns, cv]) ∧ NkOk H4 cv (addK (extM n m3.st m3.en) m3).kids cid ∧ ∀ x ∈ cid, H0.length + 3 ≤ x) ∧ H4[H0.length + 1]? = some (.row [.int .i64 0, .int .i64 0, .str [], .int .i64 0, .int .i64 0, .int .i64 0, .slice [] .full]) ∧ Fr [ib] [ib] H0 H4) ?_ ?_
    ·have hicl := lG hic
     refine ⟨by rw [List.getElem?_set_ne (by omega), List.getElem?_set_ne (fun e => by have := hd3 ic (by simp); omega)]; exact hb3, ⟨.msl ic 0 (n.kids.length + 1) c1, [ic], by rw [List.getElem?_set_self (by simpa using hil3)]; rfl, .of (rest := rest1) (by simp [addK, extM, Nd.kids]) ?_ hr2 hr3, fun x hx => by rw [List.mem_singleton] at hx; subst hx; exact hd3 _ (by simp)⟩, by rw [List.getElem?_set_ne (by omega), List.getElem?_set_ne (fun e => by have := hd3 ic (by simp); omega)]; exact hz3, ⟨by simp only [lS]; exact f3.len, fun id h1 h2 => by rw [List.getElem?_set_ne (by omega), List.getElem?_set_ne (fun e => by have := hd3 ic (by simp); omega)]; exact f3.same id h1 h2, fun id h _ => h⟩⟩
     rw [List.getElem?_set_ne (Ne.symm nic), List.getElem?_set_self hicl, hRR2]
     show _ = some (AObj.row (flatE ((n.kids ++ [m3]).map Nd.enc) ++ rest1))
     rw [flatNd_snoc]
     refine congrArg (fun z => some (AObj.row z)) ?_
     exact set7 (flatNd_len n.kids)
    rintro H4 ⟨hb4, ⟨cv4, cid4, hn4, hc4, hd4⟩, hz4, f4⟩
    repeat refine wS ?_
    refine eE (by simp only [kA, seval, y3, vint, qC, NdS, NdF, hb, qb, hb1, hn1, hz1, qb1, qn1, qz1, gi, ge, gl, gwj, tN, hb2, hn2, qb2, qn2] <;> with_reducible rfl) (by decide) ?_
    try simp only [thenQ, blockQ]
    exact ⟨(j + 1, off3, addK (extM n m3.st m3.en) m3), by show t.ch.length - (j + 1) < t.ch.length - j; omega, ⟨rfl, rfl, rfl, rfl, rfl, rfl, trivial⟩, hi, hk1, hb4, ⟨cv4, cid4, hn4, hc4, hd4⟩, hz4, f4⟩
 ·-- case
  have gl : decide ((j : Int) < (t.ch.length : Int)) = false := decide_eq_false (by omega)
  rw [List.drop_eq_nil_of_le hi, kidsA] at hk1
  injection hk1 with hk1
  injection hk1 with hk1 hk2
  subst hk1 hk2
  repeat refine wS ?_
  refine eE (by simp only [kA, seval, y3, vint, qC, NdS, NdF, hb, qb, hb1, hn1, hz1, qb1, qn1, qz1, gl] <;> with_reducible rfl) (by decide) ?_
  repeat refine wS ?_
  refine wF rfl (by simp only [jN, seval, vint, qC, NdS, NdF, hb, qb, hb1, hn1, hz1, qb1, qn1, qz1, gl] <;> with_reducible rfl) ?_
  repeat refine wS ?_
  refine awp_exit ?_
  simp only [thenQ, blockQ, reduceIte, Nat.reduceEqDiff, Nat.succ_ne_self, if_true, if_false]
  repeat refine wS ?_
  have hs12 : ∀ o, (H1.set (H0.length + 2) o)[H0.length + 2]? = some o := fun o => List.getElem?_set_self hil1
  have nI1 : (H0.length + 2 = H1.length) = False := by simp; omega
  refine eE (by simp only [kA, seval, y3, y48, vint, qC, NdS, NdF, hb, qb, hb1, hn1, hz1, qb1, qn1, qz1, gl, hs12, nI1] <;> with_reducible rfl) (by decide) ?_
  obtain ⟨hkn, rfl, rfl⟩ | ⟨ic, c', rest', rfl, rfl, hH, hcl', hmx'⟩ := hc1.cases2
  ·-- case
   refine awp_abs (fun H5 => H5[ib]? = some (.row [.str src, .int .i64 ((off1 : Nat) : Int), .slice [] .full]) ∧ H5[H0.length + 1]? = some (.row [.int .i64 0, .int .i64 0, .str [], .int .i64 0, .int .i64 0, .int .i64 0, .slice [] .full]) ∧ (∃ cs, H5[H0.length + 2]? = some (.row cs) ∧ 7 ≤ cs.length ∧ (cs.take 7).map PV.drop1 = (setSE n n.st (max n.en n.st)).enc.cells) ∧ Fr [ib] [ib] H0 H5) ?_ ?_
   ·exact ⟨by rw [List.getElem?_set_ne (by omega)]; exact hb1, by rw [List.getElem?_set_ne (by omega)]; exact hz1, ⟨_, List.getElem?_set_self hil1, by simp, by rw [Nd.enc_cells]; show _ = [_, _, _, _, _, _, PV.slice (n.kids.map Nd.enc) .none]; rw [hkn]; rfl⟩, ⟨by simp only [lS]; exact f1.len, fun id h1 h2 => by rw [List.getElem?_set_ne (by omega)]; exact f1.same id h1 h2, fun id h _ => h⟩⟩
   rintro H5 ⟨hB5, hz5, ⟨cs5, hcs5, hl5, hd5⟩, f5⟩
   have hl5 : (7 ≤ cs5.length) = True := by simp; omega
   have hz5l := lG hz5
   have hs5 : ∀ o, (H5.set (H0.length + 1) o)[H0.length + 1]? = some o := fun o => List.getElem?_set_self hz5l
   have nZ5 : (H0.length + 1 = H5.length) = False := by simp; omega
   have hL5 : (cs5.take 7).length = 7 := by simp; omega
   repeat refine wS ?_
   refine wR ?_
   refine eT 2 (by simp only [kA, seval, y48, vint, qC, NdS, NdF, hb, qb, hb1, hn1, hz1, qb1, qn1, qz1, gl, hB5, hz5, hcs5, hl5, hL5, hd5, hs5, nZ5, Nd.enc_cells, Nd.enc_agg] <;> with_reducible rfl) (by decide) ?_
   refine oC (by simp only [kC, seval, vint, qC, NdS, NdF, hb, qb, hb1, hn1, hz1, qb1, qn1, qz1, gl, hB5, hz5, hcs5, hl5, hL5, hd5, hs5, nZ5, Nd.enc_cells, Nd.enc_agg] <;> with_reducible rfl) (by simp only [kC, seval]) (by decide) Tryzgo53 (finN_c hfin) ?_
   rintro _ _ ⟨rfl, rfl⟩
   refine e_end (by simp only [kA, seval, y48, vint, qC, NdS, NdF, hb, qb, hb1, hn1, hz1, qb1, qn1, qz1, gl, hB5, hz5, hcs5, hl5, hL5, hd5, hs5, nZ5, Nd.enc_cells, Nd.enc_agg] <;> with_reducible rfl) (by decide) ?_
   repeat refine wS ?_
   refine wT ⟨.inr rfl, _, (ares_cell 4 48 rfl Tryzti48 (by decide) (by simp only [jL, jN, seval, vint, qC, NdS, NdF, hb, qb, hb1, hn1, hz1, qb1, qn1, qz1, gl, hs5] <;> with_reducible rfl)), ?_⟩
   exact ⟨rfl, by rw [List.getElem?_set_ne (by omega)]; exact hB5, ⟨by rw [lS]; exact f5.len, fun id h1 h2 => by rw [List.getElem?_set_ne (by omega)]; exact f5.same id h1 h2, fun id h _ => h⟩⟩
  ·-- case
   obtain ⟨es, he1, he2, he3⟩ := chunk7 (c' - n.kids.length) rest' (by omega)
   have hicd := hd1 ic (by simp)
   have hrow : ((H1.set (H0.length + 2) (.row [.int .i64 n.kind, .int .i64 n.value, .str n.text, .int .i64 n.st, .int .i64 (max n.en n.st), .int .i64 n.ns, .msl ic 0 n.kids.length c'])))[ic]? = some (.row (flatE (n.kids.map Nd.enc ++ es))) := by rw [List.getElem?_set_ne (by omega), hH, flatE_append, he2]
   refine awp_frz1R ic n.kids.length 7 (H0.length + 2) (n.kids.map Nd.enc ++ es) hrow (by simp) (fun e he => ?_) (List.getElem?_set_self hil1) (by omega) (cs' := [.int .i64 n.kind, .int .i64 n.value, .str n.text, .int .i64 n.st, .int .i64 (max n.en n.st), .int .i64 n.ns, .slice (n.kids.map Nd.enc) .none]) rfl (fun i h1 h2 => ?_) ?_
   ·rcases List.mem_append.1 he with he | he
    ·obtain ⟨v, _, rfl⟩ := List.mem_map.1 he; exact v.enc_len
    ·exact he3 e he
   ·match i, h1, h2 with
    | 0, _, _ => exact .same _
    | 1, _, _ => exact .same _
    | 2, _, _ => exact .same _
    | 3, _, _ => exact .same _
    | 4, _, _ => exact .same _
    | 5, _, _ => exact .same _
    | 6, _, _ =>
     have : (n.kids.map Nd.enc ++ es).take n.kids.length = n.kids.map Nd.enc := by rw [List.take_append_of_le_length (by simp), List.take_of_length_le (by simp)]
     have h := Fz.msl (id := ic) (k := n.kids.length) (es := n.kids.map Nd.enc ++ es) c' (by omega)
     rw [this] at h
     exact h
   refine awp_abs (fun H5 => H5[ib]? = some (.row [.str src, .int .i64 ((off1 : Nat) : Int), .slice [] .full]) ∧ H5[H0.length + 1]? = some (.row [.int .i64 0, .int .i64 0, .str [], .int .i64 0, .int .i64 0, .int .i64 0, .slice [] .full]) ∧ (∃ cs, H5[H0.length + 2]? = some (.row cs) ∧ 7 ≤ cs.length ∧ (cs.take 7).map PV.drop1 = (setSE n n.st (max n.en n.st)).enc.cells) ∧ Fr [ib] [ib] H0 H5) ?_ ?_
   ·exact ⟨by rw [List.getElem?_set_ne (by omega), List.getElem?_set_ne (by omega), List.getElem?_set_ne (by omega)]; exact hb1, by rw [List.getElem?_set_ne (by omega), List.getElem?_set_ne (by omega), List.getElem?_set_ne (by omega)]; exact hz1, ⟨_, List.getElem?_set_self (by simpa using hil1), by simp, by rw [Nd.enc_cells]; rfl⟩, ⟨by simp only [lS]; exact f1.len, fun id h1 h2 => by rw [List.getElem?_set_ne (by omega), List.getElem?_set_ne (by omega), List.getElem?_set_ne (by omega)]; exact f1.same id h1 h2, fun id h _ => h⟩⟩
   rintro H5 ⟨hB5, hz5, ⟨cs5, hcs5, hl5, hd5⟩, f5⟩
   have hl5 : (7 ≤ cs5.length) = True := by simp; omega
   have hz5l := lG hz5
   have hs5 : ∀ o, (H5.set (H0.length + 1) o)[H0.length + 1]? = some o := fun o => List.getElem?_set_self hz5l
   have nZ5 : (H0.length + 1 = H5.length) = False := by simp; omega
   have hL5 : (cs5.take 7).length = 7 := by simp; omega
   repeat refine wS ?_
   refine wR ?_
   refine eT 2 (by simp only [kA, seval, y48, vint, qC, NdS, NdF, hb, qb, hb1, hn1, hz1, qb1, qn1, qz1, gl, hB5, hz5, hcs5, hl5, hL5, hd5, hs5, nZ5, Nd.enc_cells, Nd.enc_agg] <;> with_reducible rfl) (by decide) ?_
   refine oC (by simp only [kC, seval, vint, qC, NdS, NdF, hb, qb, hb1, hn1, hz1, qb1, qn1, qz1, gl, hB5, hz5, hcs5, hl5, hL5, hd5, hs5, nZ5, Nd.enc_cells, Nd.enc_agg] <;> with_reducible rfl) (by simp only [kC, seval]) (by decide) Tryzgo53 (finN_c hfin) ?_
   rintro _ _ ⟨rfl, rfl⟩
   refine e_end (by simp only [kA, seval, y48, vint, qC, NdS, NdF, hb, qb, hb1, hn1, hz1, qb1, qn1, qz1, gl, hB5, hz5, hcs5, hl5, hL5, hd5, hs5, nZ5, Nd.enc_cells, Nd.enc_agg] <;> with_reducible rfl) (by decide) ?_
   repeat refine wS ?_
   refine wT ⟨.inr rfl, _, (ares_cell 4 48 rfl Tryzti48 (by decide) (by simp only [jL, jN, seval, vint, qC, NdS, NdF, hb, qb, hb1, hn1, hz1, qb1, qn1, qz1, gl, hs5] <;> with_reducible rfl)), ?_⟩
   exact ⟨rfl, by rw [List.getElem?_set_ne (by omega)]; exact hB5, ⟨by rw [lS]; exact f5.len, fun id h1 h2 => by rw [List.getElem?_set_ne (by omega)]; exact f5.same id h1 h2, fun id h _ => h⟩⟩
theorem node_all (src : List UInt8) (ib : Nat) : ∀ (k : Nat) (t : St), SizeOf.sizeOf t < k → NC src ib t
 | 0, t, h => by omega
 | k + 1, t, h => node_k fun c hc => node_all src ib k c (by
  cases t with
  | mk kk tx ch =>
   have := List.sizeOf_lt_of_mem (show c ∈ ch from hc)
   simp at h
   omega)
theorem node_c' (src : List UInt8) (ib : Nat) (t : St) : NC src ib t := node_all src ib _ t (Nat.lt_succ_self _)
end Go.Abs
set_option maxRecDepth 4000
namespace Go.Abs
structure Md where
  name : List UInt8
  src : List UInt8
def Md.enc (t : Md) : PV := .agg [.str t.name, .str t.src]
theorem Md.enc_eq (t : Md) : t.enc = .agg [.str t.name, .str t.src] := rfl
theorem Md.enc_cells (t : Md) : t.enc.cells = [.str t.name, .str t.src] := rfl
theorem Md.eta (t : Md) : Md.mk t.name t.src = t := rfl
theorem Md.enc_drop1 (t : Md) : t.enc.drop1 = t.enc := by rw [Md.enc_eq]; rfl
theorem Md.enc_drop0 (t : Md) : t.enc.drop0 = t.enc := by rw [Md.enc_eq]; rfl
theorem Md.enc_len (t : Md) : t.enc.cells.length = 2 := by rw [Md.enc_cells]; rfl
theorem Md.enc_junk (t : Md) : t.enc.isJunk = false := by rw [Md.enc_eq]; rfl
theorem Md.enc_agg (t : Md) : PV.agg t.enc.cells = t.enc := by rw [Md.enc_cells, Md.enc_eq]
theorem Md.bel (n : Nat) (t : Md) : Bel n t.enc := .agg _ (by
  intro c hc
  simp only [List.mem_cons, List.not_mem_nil, or_false] at hc
  rcases hc with rfl | rfl
  · exact .str _
  · exact .str _)
theorem bel_Md (n : Nat) (us : List Md) : Bel n (.slice (us.map Md.enc) .none) := .slice _ _ (fun e he c hc => by
  obtain ⟨b, _, rfl⟩ := List.mem_map.1 he
  have := Md.bel n b
  rw [Md.enc_eq] at this hc
  cases this with | agg _ h => exact h c hc) (by simp)
theorem MdS : (∀ t : Md, t.enc.cells = [.str t.name, .str t.src]) ∧ (∀ t : Md, t.enc.isJunk = false) ∧ (∀ t : Md, t.enc.drop1 = t.enc) ∧ (∀ t : Md, t.enc.drop0 = t.enc) ∧ (∀ (t : Md) (b : Nat), t.enc.fits ⟨true, 2, b⟩ = true) :=
  ⟨Md.enc_cells, Md.enc_junk, Md.enc_drop1, Md.enc_drop0, fun t b => by rw [Md.enc_eq]; rfl⟩
theorem MdF : (∀ (name : List UInt8) (src : List UInt8), PV.agg [.str name, .str src] = (Md.mk name src).enc) ∧
    (∀ t : Md, Md.mk t.name t.src = t) ∧
    (∀ (name : List UInt8) (src : List UInt8), (Md.mk name src).name = name) ∧
    (∀ (name : List UInt8) (src : List UInt8), (Md.mk name src).src = src) :=
  ⟨fun name src => (Md.enc_eq (Md.mk name src)).symm, Md.eta, fun _ _ => rfl, fun _ _ => rfl⟩
def Md.W (t : Md) : Prop := t.name.length ≤ 2 ^ 47 ∧ t.src.length ≤ 2 ^ 47
structure Dg where
  code : Int
  mod : Int
  st : Int
  en : Int
  name : List UInt8
def Dg.enc (t : Dg) : PV := .agg [.int .i64 t.code, .int .i64 t.mod, .int .i64 t.st, .int .i64 t.en, .str t.name]
theorem Dg.enc_eq (t : Dg) : t.enc = .agg [.int .i64 t.code, .int .i64 t.mod, .int .i64 t.st, .int .i64 t.en, .str t.name] := rfl
theorem Dg.enc_cells (t : Dg) : t.enc.cells = [.int .i64 t.code, .int .i64 t.mod, .int .i64 t.st, .int .i64 t.en, .str t.name] := rfl
theorem Dg.eta (t : Dg) : Dg.mk t.code t.mod t.st t.en t.name = t := rfl
theorem Dg.enc_drop1 (t : Dg) : t.enc.drop1 = t.enc := by rw [Dg.enc_eq]; rfl
theorem Dg.enc_drop0 (t : Dg) : t.enc.drop0 = t.enc := by rw [Dg.enc_eq]; rfl
theorem Dg.enc_len (t : Dg) : t.enc.cells.length = 5 := by rw [Dg.enc_cells]; rfl
theorem Dg.enc_junk (t : Dg) : t.enc.isJunk = false := by rw [Dg.enc_eq]; rfl
theorem Dg.enc_agg (t : Dg) : PV.agg t.enc.cells = t.enc := by rw [Dg.enc_cells, Dg.enc_eq]
theorem Dg.bel (n : Nat) (t : Dg) : Bel n t.enc := .agg _ (by
  intro c hc
  simp only [List.mem_cons, List.not_mem_nil, or_false] at hc
  rcases hc with rfl | rfl | rfl | rfl | rfl
  · exact .int _ _
  · exact .int _ _
  · exact .int _ _
  · exact .int _ _
  · exact .str _)
theorem bel_Dg (n : Nat) (us : List Dg) : Bel n (.slice (us.map Dg.enc) .none) := .slice _ _ (fun e he c hc => by
  obtain ⟨b, _, rfl⟩ := List.mem_map.1 he
  have := Dg.bel n b
  rw [Dg.enc_eq] at this hc
  cases this with | agg _ h => exact h c hc) (by simp)
theorem DgS : (∀ t : Dg, t.enc.cells = [.int .i64 t.code, .int .i64 t.mod, .int .i64 t.st, .int .i64 t.en, .str t.name]) ∧ (∀ t : Dg, t.enc.isJunk = false) ∧ (∀ t : Dg, t.enc.drop1 = t.enc) ∧ (∀ t : Dg, t.enc.drop0 = t.enc) ∧ (∀ (t : Dg) (b : Nat), t.enc.fits ⟨true, 5, b⟩ = true) :=
  ⟨Dg.enc_cells, Dg.enc_junk, Dg.enc_drop1, Dg.enc_drop0, fun t b => by rw [Dg.enc_eq]; rfl⟩
theorem DgF : (∀ (code : Int) (mod : Int) (st : Int) (en : Int) (name : List UInt8), PV.agg [.int .i64 code, .int .i64 mod, .int .i64 st, .int .i64 en, .str name] = (Dg.mk code mod st en name).enc) ∧
    (∀ t : Dg, Dg.mk t.code t.mod t.st t.en t.name = t) ∧
    (∀ (code : Int) (mod : Int) (st : Int) (en : Int) (name : List UInt8), (Dg.mk code mod st en name).code = code) ∧
    (∀ (code : Int) (mod : Int) (st : Int) (en : Int) (name : List UInt8), (Dg.mk code mod st en name).mod = mod) ∧
    (∀ (code : Int) (mod : Int) (st : Int) (en : Int) (name : List UInt8), (Dg.mk code mod st en name).st = st) ∧
    (∀ (code : Int) (mod : Int) (st : Int) (en : Int) (name : List UInt8), (Dg.mk code mod st en name).en = en) ∧
    (∀ (code : Int) (mod : Int) (st : Int) (en : Int) (name : List UInt8), (Dg.mk code mod st en name).name = name) :=
  ⟨fun code mod st en name => (Dg.enc_eq (Dg.mk code mod st en name)).symm, Dg.eta, fun _ _ _ _ _ => rfl, fun _ _ _ _ _ => rfl, fun _ _ _ _ _ => rfl, fun _ _ _ _ _ => rfl, fun _ _ _ _ _ => rfl⟩
def Dg.W (t : Dg) : Prop := t.name.length ≤ 2 ^ 47
theorem qM : type_of% (aI @MdS (@MdF)) := aI @MdS (@MdF)
theorem qG : type_of% (aI @DgS (@DgF)) := aI @DgS (@DgF)
end Go.Abs
namespace Go.Proofs
open Go.Shelf
def Tryz.lays125_ren : Go.Shelf.Ren := ⟨fun | 125 => 55 | 128 => 87 | 129 => 88 | n => n, fun | 46 => 93 | 3 => 3 | 51 => 124 | 53 => 126 | 4 => 4 | 5 => 5 | 9 => 9 | n => n, fun | n => n⟩
theorem Tryz.lays125 : Go.Proofs.Lays.n125 Tryz.prog Tryz.lays125_ren := {
  mixed := by kernel_rfl
  f125 := Tryz.func55.trans (congrArg some (by kernel_rfl))
  f128 := Tryz.func87.trans (congrArg some (by kernel_rfl))
  f129 := Tryz.func88.trans (congrArg some (by kernel_rfl))
  t3 := Tryz.underlying3
  a3 := Tryz.isAgg3
  z3 := Tryz.sizeOf3
  v3 := Tryz.zeroValue3
  t4 := Tryz.underlying4
  a4 := Tryz.isAgg4
  z4 := Tryz.sizeOf4
  v4 := Tryz.zeroValue4
  t5 := Tryz.underlying5
  a5 := Tryz.isAgg5
  z5 := Tryz.sizeOf5
  v5 := Tryz.zeroValue5
  t9 := Tryz.underlying9
  a9 := Tryz.isAgg9
  z9 := Tryz.sizeOf9
  v9 := Tryz.zeroValue9
  t46 := Tryz.underlying93
  a46 := Tryz.isAgg93
  z46 := Tryz.sizeOf93
  v46 := Tryz.zeroValue93
  t51 := Tryz.underlying124
  a51 := Tryz.isAgg124
  z51 := Tryz.sizeOf124
  v51 := Tryz.zeroValue124
  t53 := Tryz.underlying126
  a53 := Tryz.isAgg126
  z53 := Tryz.sizeOf126
  v53 := Tryz.zeroValue126 }
theorem Tryz.bits_Len (x : Int) (w : World) (h0 : 0 ≤ x) (h1 : x ≤ 18446744073709551615) :
    Calls Tryz.prog 55 #[.int .u64 x] w fun e w' => e = .returned (.int .i64 (Lib.bitLen x.toNat)) ∧ w' = w := Any.bits_Len Tryz.lays125 x w h0 h1
end Go.Proofs
set_option maxRecDepth 4000
namespace Go.Abs
open Go.Proofs
theorem indexFuncMd {f : FuncId} {caps : List PV} {H : Heap} {us : List Md} {p : Md → Bool} (hc : CloB Tryz.prog Md.enc f caps H us p) (hl : us.length ≤ maxLen) : ACalls Tryz.prog 15 [.slice (us.map Md.enc) .none, .fn (.func f) [] caps] H fun r' H' => r' = vint (idxI p us) ∧ H' = H := by
 have hgo := hc.go
 refine keeps_of (N := 19) Tryz.func15 rfl rfl (by simp) (.int _ _) fun hb' => ?_
 repeat refine wS ?_
 refine eE (by simp only [kA, seval, vint, qM] <;> with_reducible rfl) (by decide) ?_
 repeat refine wS ?_
 refine eE (by simp only [kA, seval, y36, y22, vint, qM] <;> with_reducible rfl) (by decide) ?_
 repeat refine wS ?_
 refine awp_forS (σ := Unit) (us.length) (fun (s : Unit) => [(0, .slice (us.map Md.enc) .none), (1, .fn (.func f) [] caps)]) [0, 1] (H) (fun (s : Unit) => []) (fun (i : Nat) (s : Unit) => (us.take i).any p = false) (()) ([]) rfl rfl rfl rfl rfl rfl rfl rfl rfl (by decide) (by decide) (by decide) (fun _ => rfl) (hl) ⟨(by first | rfl | (simp only [jN, seval, vint, qM] <;> first | done | with_reducible rfl)), (by first | rfl | (simp only [jN, seval, vint, qM] <;> first | done | with_reducible rfl)), (by first | rfl | (simp only [jN, seval, vint, qM] <;> first | done | with_reducible rfl)), (by first | rfl | (simp only [jN, seval, vint, qM] <;> first | done | with_reducible rfl)), trivial⟩ (by first | rfl | (simp only [jN, seval, vint, qM] <;> first | done | with_reducible rfl)) (by simp) (fun _ _ _ => by first | exact Nat.zero_le _ | (simp only [List.length_append]; omega)) ?_ ?_ ?_
 ·exact fun i s hg => ⟨by simp only [List.append_nil]; exact hb', .cons (bel_Md _ _) (.cons (.fn _ _ _ (by simp) (fun c hc' => (hc.bel c hc').mono (by simp))) .nil)⟩
 ·intro i s hi hg
  have g1 := ix_nat hi
  have g2 := get_enc Md.enc hi
  repeat refine wS ?_
  refine eE (by simp only [kA, seval, vint, qM, g1, tN, g2] <;> with_reducible rfl) (by decide) ?_
  repeat refine wS ?_
  refine wR ?_
  refine eT 5 (by simp only [kA, seval, y36, y22, vint, qM, g1, tN, g2] <;> with_reducible rfl) (by decide) ?_
  refine oP (by simp only [kC, seval, vint, qM, g1, tN, g2] <;> with_reducible rfl) (by simp only [kC, seval, vint, qM, g1, tN, g2]) (by decide) (by assumption) (hc.call _ (List.getElem_mem hi)) ?_
  refine oN ?_
  repeat refine wS ?_
  refine wC rfl (by simp only [jN, seval, vint, qM, g1, tN, g2] <;> with_reducible rfl) (fun b0 => ?_) (fun b0 => ?_)
  ·-- if t16
   repeat refine wS ?_
   refine eE (by simp only [kA, seval, vint, qM, g1, tN, g2] <;> with_reducible rfl) (by decide) ?_
   repeat refine wS ?_
   refine wT ⟨.inr rfl, _, _, rfl, ?_, (by first | exact (List.append_nil _).symm | rfl)⟩
   rw [idxI_at hi b0 hg]; rfl
  ·-- else t16
   repeat refine wS ?_
   refine wK ?_
   exact ⟨⟨rfl, rfl, trivial⟩, (), [], ⟨rfl, rfl, trivial⟩, by simp only [List.append_nil], any_take_succ hi hg b0⟩
 ·intro s hg
  rw [List.take_length] at hg
  repeat refine wS ?_
  refine eE (by simp only [kA, seval, vint, qM] <;> with_reducible rfl) (by decide) ?_
  repeat refine wS ?_
  refine wT ⟨.inr rfl, _, _, rfl, ?_, (by first | exact (List.append_nil _).symm | rfl)⟩
  rw [idxI_none hg]; rfl
theorem containsFuncMd {f : FuncId} {caps : List PV} {H : Heap} {us : List Md} {p : Md → Bool} (hc : CloB Tryz.prog Md.enc f caps H us p) (hl : us.length ≤ maxLen) : ACalls Tryz.prog 11 [.slice (us.map Md.enc) .none, .fn (.func f) [] caps] H fun r' H' => r' = .bool (us.any p) ∧ H' = H := by
 refine keeps_of (N := 9) Tryz.func11 rfl rfl (by simp) (.bool _) fun hb' => ?_
 repeat refine wS ?_
 refine eE (by simp only [kA, seval, vint, qM] <;> with_reducible rfl) (by decide) ?_
 repeat refine wS ?_
 refine wR ?_
 refine eT 2 (by simp only [kA, seval, vint, qM] <;> with_reducible rfl) (by decide) ?_
 refine oP (by simp only [kC, seval, vint, qM] <;> with_reducible rfl) (by simp only [kC, seval]) (by decide) Tryzgo15 (indexFuncMd hc hl) ?_
 refine e_end (by simp only [kA, seval, y3, vint, qM] <;> with_reducible rfl) (by decide) ?_
 repeat refine wS ?_
 refine wT ⟨.inr rfl, _, _, rfl, ?_, (by first | exact (List.append_nil _).symm | rfl)⟩
 rw [← idxI_nonneg]; rfl
theorem bitsLen_c (n : Nat) (hn : n ≤ 4611686018427387904) : PC Tryz.prog 55 [.int .u64 ((n : Nat) : Int)] (.int .i64 (Lib.bitLen n)) := fun H => by
 refine acalls_below fun E vargs ho hH hrl => ?_
 obtain ⟨v0, rfl, h0⟩ := rl_one hrl
 have hv := h0.int_inv
 subst hv
 refine ⟨_, VRel.int _ _, (Tryz.bits_Len ((n : Nat) : Int) E.w (by omega) (by omega)).mono fun e w' ⟨h1, h2⟩ => ⟨?_, h2 ▸ ⟨rfl, rfl, rfl, Nat.le_refl _, fun _ _ => rfl⟩⟩⟩
 rw [h1]; simp
end Go.Abs
set_option maxRecDepth 4000
namespace Go.Abs
open Go.Proofs
theorem insShort {H : Heap} (ds : List Dg) (hd : ds.length ≤ 1) (f : FuncId) : ACalls Tryz.prog 79 [.slice (ds.map Dg.enc) .none, vint 0, vint (ds.length : Int), .fn (.func f) [] []] H fun r H' => r = .tup [] ∧ H' = H := by
 have g1 : decide ((1 : Int) < (ds.length : Int)) = false := decide_eq_false (by omega)
 have gw : IntKind.i64.wrap 1 = 1 := by decide
 refine keeps_of (N := 53) Tryz.func79 rfl rfl (by simp) (.tup _ (by simp)) fun hb' => ?_
 repeat refine wS ?_
 refine eE (by simp only [kA, seval, y3, vint, qG, g1, gw, Int.zero_add] <;> with_reducible rfl) (by decide) ?_
 repeat refine wS ?_
 refine awp_block ?_
 refine awp_loopX (σ := Nat) (fun (u : Nat) => [(0, .slice (ds.map Dg.enc) .none), (1, vint 0), (2, vint (ds.length : Int)), (3, .fn (.func f) [] []), (8, vint 1)]) (fun (u : Nat) =>  fun H1 => H1 = H) (fun (u : Nat) => u) (0) ⟨(by first | rfl | (simp only [jN, seval, vint, qG, g1, gw, Int.zero_add] <;> first | done | with_reducible rfl)), (by first | rfl | (simp only [jN, seval, vint, qG, g1, gw, Int.zero_add] <;> first | done | with_reducible rfl)), (by first | rfl | (simp only [jN, seval, vint, qG, g1, gw, Int.zero_add] <;> first | done | with_reducible rfl)), (by first | rfl | (simp only [jN, seval, vint, qG, g1, gw, Int.zero_add] <;> first | done | with_reducible rfl)), (by first | rfl | (simp only [jN, seval, vint, qG, g1, gw, Int.zero_add] <;> first | done | with_reducible rfl)), trivial⟩ (rfl) ?_
 intro u H1 hg
 subst hg
 repeat refine wS ?_
 refine eE (by simp only [kA, seval, y3, vint, qG, g1, gw, Int.zero_add] <;> with_reducible rfl) (by decide) ?_
 repeat refine wS ?_
 refine wF rfl (by simp only [jN, seval, vint, qG, g1, gw, Int.zero_add] <;> with_reducible rfl) ?_
 repeat refine wS ?_
 refine awp_exit ?_
 simp only [thenQ, blockQ, reduceIte, Nat.reduceEqDiff, Nat.succ_ne_self, if_true, if_false]
 refine ⟨(by first | exact .inl rfl | exact .inl trivial | trivial), _, _, rfl, ?_, (by first | exact (List.append_nil _).symm | rfl)⟩
 rfl
theorem pdqShort {H : Heap} (ds : List Dg) (hd : ds.length ≤ 1) (f : FuncId) (l : Int) : ACalls Tryz.prog 54 [.slice (ds.map Dg.enc) .none, vint 0, vint (ds.length : Int), vint l, .fn (.func f) [] []] H fun r H' => r = .tup [] ∧ H' = H := by
 have g12 : decide ((ds.length : Int) ≤ 12) = true := decide_eq_true (by omega)
 have gw : IntKind.i64.wrap ((ds.length : Int) - 0) = (ds.length : Int) := by rw [wrap_id (by omega) (by omega)]; omega
 have gw2 : IntKind.i64.wrap ((ds.length : Int)) = (ds.length : Int) := wrap_id (by omega) (by omega)
 refine keeps_of (N := 148) Tryz.func54 rfl rfl (by simp) (.tup _ (by simp)) fun hb' => ?_
 repeat refine wS ?_
 refine eE (by simp only [kA, seval, vint, qG, g12, gw, gw2, Int.sub_zero] <;> with_reducible rfl) (by decide) ?_
 repeat refine wS ?_
 refine eE (by simp only [kA, seval, vint, qG, g12, gw, gw2, Int.sub_zero] <;> with_reducible rfl) (by decide) ?_
 repeat refine wS ?_
 refine awp_block ?_
 refine awp_loopX (σ := Nat) (fun (u : Nat) => [(0, .slice (ds.map Dg.enc) .none), (1, vint 0), (2, vint (ds.length : Int)), (3, vint l), (4, .fn (.func f) [] []), (10, .bool true), (11, .bool true)]) (fun (u : Nat) =>  fun H1 => H1 = H) (fun (u : Nat) => u) (0) ⟨(by first | rfl | (simp only [jN, seval, vint, qG, g12, gw, gw2, Int.sub_zero] <;> first | done | with_reducible rfl)), (by first | rfl | (simp only [jN, seval, vint, qG, g12, gw, gw2, Int.sub_zero] <;> first | done | with_reducible rfl)), (by first | rfl | (simp only [jN, seval, vint, qG, g12, gw, gw2, Int.sub_zero] <;> first | done | with_reducible rfl)), (by first | rfl | (simp only [jN, seval, vint, qG, g12, gw, gw2, Int.sub_zero] <;> first | done | with_reducible rfl)), (by first | rfl | (simp only [jN, seval, vint, qG, g12, gw, gw2, Int.sub_zero] <;> first | done | with_reducible rfl)), (by first | rfl | (simp only [jN, seval, vint, qG, g12, gw, gw2, Int.sub_zero] <;> first | done | with_reducible rfl)), (by first | rfl | (simp only [jN, seval, vint, qG, g12, gw, gw2, Int.sub_zero] <;> first | done | with_reducible rfl)), trivial⟩ (rfl) ?_
 intro u H1 hg
 subst hg
 repeat refine wS ?_
 refine awp_block ?_
 repeat refine wS ?_
 refine eE (by simp only [kA, seval, y3, vint, qG, g12, gw, gw2, Int.sub_zero] <;> with_reducible rfl) (by decide) ?_
 repeat refine wS ?_
 refine eE (by simp only [kA, seval, y3, vint, qG, g12, gw, gw2, Int.sub_zero] <;> with_reducible rfl) (by decide) ?_
 repeat refine wS ?_
 refine awp_cond_true rfl (by simp only [jN, seval, vint, qG, g12, gw, gw2, Int.sub_zero] <;> with_reducible rfl) ?_
 repeat refine wS ?_
 refine wR ?_
 refine eT 4 (by simp only [kA, seval, vint, qG, g12, gw, gw2, Int.sub_zero] <;> with_reducible rfl) (by decide) ?_
 refine oC (by simp only [kC, seval, vint, qG, g12, gw, gw2, Int.sub_zero] <;> with_reducible rfl) (by simp only [kC, seval]) (by decide) Tryzgo79 (insShort ds hd f) ?_
 rintro _ _ ⟨rfl, rfl⟩
 refine oN ?_
 repeat refine wS ?_
 refine wT ⟨.inr rfl, _, _, rfl, ?_, (by first | exact (List.append_nil _).symm | rfl)⟩
 rfl
theorem sortShort {H : Heap} (ds : List Dg) (hd : ds.length ≤ 1) (f : FuncId) : ACalls Tryz.prog 36 [.slice (ds.map Dg.enc) .none, .fn (.func f) [] []] H fun r H' => r = .tup [] ∧ H' = H := by
 have gw : IntKind.u64.wrap ((ds.length : Nat) : Int) = ((ds.length : Nat) : Int) := by rcases (show ds.length = 0 ∨ ds.length = 1 by omega) with h | h <;> rw [h] <;> decide
 refine keeps_of (N := 14) Tryz.func36 rfl rfl (by simp) (.tup _ (by simp)) fun hb' => ?_
 repeat refine wS ?_
 refine eE (by simp only [kA, seval, y41, y52, vint, qG, gw] <;> with_reducible rfl) (by decide) ?_
 repeat refine wS ?_
 refine wR ?_
 refine eT 4 (by simp only [kA, seval, y3, y93, vint, qG, gw] <;> with_reducible rfl) (by decide) ?_
 refine oC (by simp only [kC, seval, vint, qG, gw] <;> with_reducible rfl) (by simp only [kC, seval]) (by decide) Tryzgo55 (bitsLen_c ds.length (by omega) _) ?_
 rintro _ _ ⟨rfl, rfl⟩
 refine eT 1 (by simp only [kA, seval, vint, qG, gw] <;> with_reducible rfl) (by decide) ?_
 refine oC (by simp only [kC, seval, vint, qG, gw] <;> with_reducible rfl) (by simp only [kC, seval]) (by decide) Tryzgo54 (pdqShort ds hd f _) ?_
 rintro _ _ ⟨rfl, rfl⟩
 refine oN ?_
 refine ⟨(by first | exact .inl rfl | exact .inl trivial | trivial), _, _, rfl, ?_, (by first | exact (List.append_nil _).symm | rfl)⟩
 rfl
theorem compactShort {H : Heap} (ds : List Dg) (hd : ds.length ≤ 1) : ACalls Tryz.prog 38 [.slice (ds.map Dg.enc) .none] H fun r H' => r = .slice (ds.map Dg.enc) .none ∧ H' = H := by
 have g2 : decide ((ds.length : Int) < 2) = true := decide_eq_true (by omega)
 refine keeps_of (N := 61) Tryz.func38 rfl rfl (by simp) (bel_Dg _ _) fun hb' => ?_
 repeat refine wS ?_
 refine eE (by simp only [kA, seval, vint, qG, g2] <;> with_reducible rfl) (by decide) ?_
 repeat refine wS ?_
 refine eE (by simp only [kA, seval, y3, y41, y52, vint, qG, g2] <;> with_reducible rfl) (by decide) ?_
 repeat refine wS ?_
 refine awp_cond_true rfl (by simp only [jN, seval, vint, qG, g2] <;> with_reducible rfl) ?_
 repeat refine wS ?_
 refine eE (by simp only [kA, seval, vint, qG, g2] <;> with_reducible rfl) (by decide) ?_
 repeat refine wS ?_
 refine wT ⟨.inr rfl, _, _, rfl, ?_, (by first | exact (List.append_nil _).symm | rfl)⟩
 rfl
end Go.Abs
set_option maxRecDepth 4000
namespace Go.Abs
open Go.Proofs
def astM (src : List UInt8) (k n : Nat) : Option Nd := (parseT (toks src) k n).bind fun t => (nodeA t 0).bind fun r => some (setSE r.2 0 (src.length : Int))
theorem astParse_c (src : List UInt8) (k n : Nat) {m : Nd} {H0 : Heap} (hs : src.length ≤ maxLen) (h2000 : (src.length : Int) ≤ 2000) (hlim : (toks src).length ≤ lim) (hG : Pre G0 H0) (hm : astM src k n = some m) : ACalls Tryz.prog 20 [.str src] H0 fun r H' => r = .tup [m.enc, .slice [] .none, vint 0] ∧ Fr [] [] H0 H' := by
 obtain ⟨t, hpar, hm⟩ := oB hm
 obtain ⟨⟨off2, n2⟩, hnode, hm⟩ := oB hm
 obtain ⟨nk, nv, nt, nst, nen, nns, nks⟩ := n2
 injection hm with hm
 subst hm
 have hG0 := hG 0 _ rfl
 have hH0 := lG hG0
 refine aF (N := 39) Tryz.func20 rfl rfl (by simp) fun hb' => ?_
 repeat refine wS ?_
 refine eE (by simp only [kA, seval, y48, vint, qC, NdS, NdF] <;> with_reducible rfl) (by decide) ?_
 repeat refine wS ?_
 refine wR ?_
 refine eT 1 (by simp only [kA, seval, vint, qC, NdS, NdF] <;> with_reducible rfl) (by decide) ?_
 refine oC (by simp only [kC, seval, vint, qC, NdS, NdF] <;> with_reducible rfl) (by simp only [kC, seval]) (by decide) Tryzgo34 (parse_c src k n hs h2000 hlim (hG.app _) hpar) ?_
 rintro _ H1 ⟨rfl, g1⟩
 have hl1 := g1.len
 simp only [List.length_append, List.length_cons, List.length_nil] at hl1
 have hz1 : H1[H0.length]? = some (.row [.int .i64 0, .int .i64 0, .str [], .int .i64 0, .int .i64 0, .int .i64 0, .slice [] .full]) := (g1.get (show (H0 ++ [.row [.int .i64 0, .int .i64 0, .str [], .int .i64 0, .int .i64 0, .int .i64 0, .slice [] .full]])[H0.length]? = some (.row [.int .i64 0, .int .i64 0, .str [], .int .i64 0, .int .i64 0, .int .i64 0, .slice [] .full]) by simp) (by simp)).1
 refine e_end (by simp only [kA, seval, y66, vint, qC, NdS, NdF] <;> with_reducible rfl) (by decide) ?_
 repeat refine wS ?_
 refine eE (by simp only [kA, seval, y24, vint, qC, NdS, NdF] <;> with_reducible rfl) (by decide) ?_
 repeat refine wS ?_
 refine wF rfl (by simp only [jN, seval, vint, qC, NdS, NdF] <;> with_reducible rfl) ?_
 repeat refine wS ?_
 refine wK ?_
 repeat refine wS ?_
 refine eE (by simp only [kA, seval, y71, vint, qC, NdS, NdF] <;> with_reducible rfl) (by decide) ?_
 refine wL [0, 2, 5, 7] (by simp only [jN, seval, vint, qC, NdS, NdF] <;> with_reducible rfl) ?_
 repeat refine wS ?_
 refine wR ?_
 refine eT 2 (by simp only [kA, seval, y66, vint, qC, NdS, NdF] <;> with_reducible rfl) (by decide) ?_
 refine oC (by simp only [kC, seval, vint, qC, NdS, NdF] <;> with_reducible rfl) (by simp only [kC, seval]) (by decide) Tryzgo35 (node_c' src (H1.length + 1) t 0 off2 _ _ hnode (by simp)) ?_
 rintro _ H2 ⟨rfl, hb2, g2⟩
 have hl2 := g2.len
 simp only [List.length_append, List.length_cons, List.length_nil] at hl2
 have hz2 : H2[H0.length]? = some (.row [.int .i64 0, .int .i64 0, .str [], .int .i64 0, .int .i64 0, .int .i64 0, .slice [] .full]) := (g2.get (getL hz1 _) (by simp; omega)).1
 have hzl := lG hz2
 have qb2 := getL hb2
 have qz2 := getL hz2
 have qs2 : ∀ L o, (H2 ++ L).set H0.length o = H2.set H0.length o ++ L := fun L o => ap6 hzl
 have qs3 : ∀ L o, (H2.set H0.length o ++ L)[H0.length]? = some o := fun L o => ap1 hzl
 have nz1 : (H0.length = H2.length) = False := by simp; omega
 have nz2 : (H2.length = H0.length) = False := by simp; omega
 have nz3 : (H0.length == H2.length) = false := by simp; omega
 have nz4 : (H2.length == H0.length) = false := by simp; omega
 have nz5 : ∀ k, (H0.length = H2.length + k) = False := fun k => by simp; omega
 have nz6 : ∀ k, (H1.length + 1 = H2.length + k) = False := fun k => by simp; omega
 have nz7 : (H1.length + 1 = H2.length) = False := by simp; omega
 have nz8 : (H0.length == H1.length + 1) = false := by simp; omega
 have nz9 : (H1.length + 1 == H0.length) = false := by simp; omega
 refine e_end (by simp only [kA, seval, y48, vint, qC, NdS, NdF, hb2, hz2, qb2, qz2, qs2, qs3, nz1, nz2, nz3, nz4, nz5, nz6, nz7, nz8, nz9, lS] <;> with_reducible rfl) (by decide) ?_
 repeat refine wS ?_
 refine eE (by simp only [kA, seval, y3, y9, y48, vint, qC, NdS, NdF, hb2, hz2, qb2, qz2, qs2, qs3, nz1, nz2, nz3, nz4, nz5, nz6, nz7, nz8, nz9, lS] <;> with_reducible rfl) (by decide) ?_
 repeat refine wS ?_
 refine wR ?_
 refine eT 4 (by simp only [kA, seval, y41, y52, y71, vint, qC, NdS, NdF, hb2, hz2, qb2, qz2, qs2, qs3, nz1, nz2, nz3, nz4, nz5, nz6, nz7, nz8, nz9, lS] <;> with_reducible rfl) (by decide) ?_
 refine oC (by simp only [kC, seval, vint, qC, NdS, NdF, hb2, hz2, qb2, qz2, qs2, qs3, nz1, nz2, nz3, nz4, nz5, nz6, nz7, nz8, nz9, lS] <;> with_reducible rfl) (by simp only [kC, seval]) (by decide) Tryzgo36 (sortShort [] (by simp) _) ?_
 rintro _ _ ⟨rfl, rfl⟩
 refine oN ?_
 repeat refine wS ?_
 refine x_draw 0 (n0 := H2.length + 1) (by first | rfl | (simp only [List.length_append, List.length_cons, List.length_nil, Nat.reduceAdd, Nat.zero_add, hb2, hz2, qb2, qz2, qs2, qs3, nz1, nz2, nz3, nz4, nz5, nz6, nz7, nz8, nz9, lS]; done)) (by kernel_rfl) ?_
 refine x1_take 5 (by first | rfl | (simp only [List.length_append, List.length_cons, List.length_nil, Nat.reduceAdd, Nat.zero_add, hb2, hz2, qb2, qz2, qs2, qs3, nz1, nz2, nz3, nz4, nz5, nz6, nz7, nz8, nz9, lS]; done)) (by simp only [jP, jO, jN, seval, y48, y41, y52, y71, vint, qC, NdS, NdF, hb2, hz2, qb2, qz2, qs2, qs3, nz1, nz2, nz3, nz4, nz5, nz6, nz7, nz8, nz9, lS] <;> with_reducible rfl) (by decide) (by decide) (by decide) ?_
 refine x1_keep (by first | rfl | (simp only [List.length_append, List.length_cons, List.length_nil, Nat.reduceAdd, Nat.zero_add, hb2, hz2, qb2, qz2, qs2, qs3, nz1, nz2, nz3, nz4, nz5, nz6, nz7, nz8, nz9, lS]; done)) (by simp only [kE, seval, vint, qC, NdS, NdF, hb2, hz2, qb2, qz2, qs2, qs3, nz1, nz2, nz3, nz4, nz5, nz6, nz7, nz8, nz9, lS] <;> with_reducible rfl) (by simp only [kE, seval, vint, qC, NdS, NdF, hb2, hz2, qb2, qz2, qs2, qs3, nz1, nz2, nz3, nz4, nz5, nz6, nz7, nz8, nz9, lS] <;> with_reducible rfl) (by simp only [kE, seval, vint, qC, NdS, NdF, hb2, hz2, qb2, qz2, qs2, qs3, nz1, nz2, nz3, nz4, nz5, nz6, nz7, nz8, nz9, lS]) (by decide) Tryzgo38 (fun hc L => compactShort [] (by simp)) ?_
 refine x_mid (by first | (simp only [LS, HS, List.append_assoc, List.cons_append, List.nil_append, hb2, hz2, qb2, qz2, qs2, qs3, nz1, nz2, nz3, nz4, nz5, nz6, nz7, nz8, nz9, lS] <;> with_reducible rfl) | rfl) ?_
 refine x2_end (bm := [0, 0, 2, 6, 14, 30, 63, 127, 255]) (fresh := (H2.length + 1)) (by kernel_rfl) (by simp only [jX, jO, jN, seval, y48, vint, qC, NdS, NdF, hb2, hz2, qb2, qz2, qs2, qs3, nz1, nz2, nz3, nz4, nz5, nz6, nz7, nz8, nz9, lS] <;> with_reducible rfl) (by decide) (by repeat (first | exact Fin.base _ | with_reducible apply Fin.keep | apply Fin.drop)) ?_
 repeat refine wS ?_
 refine wT ⟨.inr rfl, _, (ares_three (.cell 2 48) (.tmp 3) (.tmp 4) rfl (ares_cell1 Tryzti48 (by decide) (by simp only [jL, jN, seval, vint, qC, NdS, NdF, hb2, hz2, qb2, qz2, qs2, qs3, nz1, nz2, nz3, nz4, nz5, nz6, nz7, nz8, nz9, lS] <;> with_reducible rfl)) (ares_tmp1 (by decide)) (ares_tmp1 (by decide))), ?_⟩
 refine ⟨?_, ⟨by simp only [List.length_append, lS]; omega, fun id h1 h2 => ?_, fun id h => by cases h⟩⟩
 ·simp only [jN, seval, vint, qC, NdS, NdF, setSE, Nd.enc_drop1]
  try rfl
 ·rw [ap2 (by omega) (by omega), g2.same id (by simp; omega) (by simp; omega), List.getElem?_append_left (by omega), g1.same id (by simp; omega) (by simp), List.getElem?_append_left h1]
end Go.Abs
set_option maxRecDepth 4000
namespace Go.Abs
open Go.Proofs
def tooBig (m : Md) : Bool := decide ((m.src.length : Int) > 2000)
def badName (m : Md) : Bool := !isIdT m.name
def sameName (name : List UInt8) (m : Md) : Bool := decide (m.name = name)
def dupAt (ms : List Md) (i : Nat) : Bool := (ms.take i).any (sameName (ms.getD i ⟨[], []⟩).name)
def validM (ms : List Md) : Int := if (decide ((ms.length : Int) > 8) || ms.any tooBig) = true then 2 else if ms.any badName = true then 3 else if (List.range ms.length).any (dupAt ms) = true then 6 else 0
theorem val1_c {H : Heap} (m : Md) : ACalls Tryz.prog 12 [m.enc] H fun r H' => r = .bool (tooBig m) ∧ H' = H := by
 refine keeps_of (N := 7) Tryz.func12 rfl rfl (by simp) (.bool _) fun hb' => ?_
 repeat refine wS ?_
 refine eE (by simp only [kA, seval, y36, vint, qM] <;> with_reducible rfl) (by decide) ?_
 repeat refine wS ?_
 refine eE (by simp only [kA, seval, y3, y9, y36, vint, qM] <;> with_reducible rfl) (by decide) ?_
 repeat refine wS ?_
 refine wT ⟨.inr rfl, _, _, rfl, ?_, (by first | exact (List.append_nil _).symm | rfl)⟩
 first | rfl | (simp only [jN, seval, vint, qM, tooBig]; rfl)
theorem val2_c {H : Heap} (hG : Pre G0 H) (m : Md) (hm : m.name.length ≤ maxLen) : ACalls Tryz.prog 13 [m.enc] H fun r H' => r = .bool (badName m) ∧ H' = H := by
 refine keeps_of (N := 7) Tryz.func13 rfl rfl (by simp) (.bool _) fun hb' => ?_
 repeat refine wS ?_
 refine eE (by simp only [kA, seval, y36, vint, qM] <;> with_reducible rfl) (by decide) ?_
 repeat refine wS ?_
 refine wR ?_
 refine eT 2 (by simp only [kA, seval, y9, y36, vint, qM] <;> with_reducible rfl) (by decide) ?_
 refine oP (by simp only [kC, seval, vint, qM] <;> with_reducible rfl) (by simp only [kC, seval]) (by decide) Tryzgo14 (isId_c m.name hm _ (hG.app _)) ?_
 refine e_end (by simp only [kA, seval, vint, qM] <;> with_reducible rfl) (by decide) ?_
 repeat refine wS ?_
 refine wT ⟨.inr rfl, _, _, rfl, ?_, (by first | exact (List.append_nil _).symm | rfl)⟩
 first | rfl | (simp only [jN, seval, vint, qM, badName]; rfl)
theorem iof1_c {H : Heap} {a : Nat} {name : List UInt8} (ha : H[a]? = some (.row [.str name])) (m : Md) : ACalls Tryz.prog 16 [m.enc, .optr a 0] H fun r H' => r = .bool (sameName name m) ∧ H' = H := by
 have qa := getL ha
 have nA : (a = H.length) = False := by have := lG ha; simp; omega
 refine keeps_of (N := 8) Tryz.func16 rfl rfl (by simp) (.bool _) fun hb' => ?_
 repeat refine wS ?_
 refine eE (by simp only [kA, seval, y36, vint, qM, ha, qa, nA] <;> with_reducible rfl) (by decide) ?_
 repeat refine wS ?_
 refine eE (by simp only [kA, seval, y9, y36, vint, qM, ha, qa, nA] <;> with_reducible rfl) (by decide) ?_
 repeat refine wS ?_
 refine wT ⟨.inr rfl, _, _, rfl, ?_, (by first | exact (List.append_nil _).symm | rfl)⟩
 first | rfl | (simp only [jN, seval, vint, qM, sameName]; rfl)
theorem indexOf_c {H : Heap} (ms : List Md) (name : List UInt8) (hl : ms.length ≤ maxLen) : ACalls Tryz.prog 7 [.slice (ms.map Md.enc) .none, .str name] H fun r H' => r = vint (idxI (sameName name) ms) ∧ H' = H := by
 refine keeps_of (N := 8) Tryz.func7 rfl rfl (by simp) (.int _ _) fun hb' => ?_
 repeat refine wS ?_
 refine eE (by simp only [kA, seval, y9, vint, qM] <;> with_reducible rfl) (by decide) ?_
 repeat refine wS ?_
 refine wR ?_
 refine eT 2 (by simp only [kA, seval, vint, qM] <;> with_reducible rfl) (by decide) ?_
 refine oP (by simp only [kC, seval, vint, qM] <;> with_reducible rfl) (by simp only [kC, seval]) (by decide) Tryzgo15 (indexFuncMd (p := sameName name) ⟨Tryzgo16, fun c hc => by rw [List.mem_singleton] at hc; subst hc; exact Bel.optr _ _ (by simp), fun u _ => iof1_c (by simp) u⟩ hl) ?_
 refine e_end (by simp only [kA, seval, vint, qM] <;> with_reducible rfl) (by decide) ?_
 repeat refine wS ?_
 refine wT ⟨.inr rfl, _, _, rfl, ?_, (by first | exact (List.append_nil _).symm | rfl)⟩
 rfl
end Go.Abs
set_option maxRecDepth 4000
namespace Go.Abs
open Go.Proofs
theorem dupAt_of {ms : List Md} {i : Nat} (hi : i < ms.length) : dupAt ms i = (ms.take i).any (sameName ms[i].name) := by
 unfold dupAt; rw [List.getD_eq_getElem?_getD, List.getElem?_eq_getElem hi]; rfl
theorem any_range_succ {p : Nat → Bool} {i : Nat} (h : (List.range i).any p = false) (hp : p i = false) : (List.range (i + 1)).any p = false := by
 rw [List.range_succ, List.any_append, h]; simp [hp]
theorem any_range_at {p : Nat → Bool} {n i : Nat} (hi : i < n) (hp : p i = true) : (List.range n).any p = true := List.any_eq_true.2 ⟨i, List.mem_range.2 hi, hp⟩
theorem validate_c {H : Heap} (hG : Pre G0 H) (ms : List Md) (hl : ms.length ≤ maxLen) (hn : ∀ m ∈ ms, m.name.length ≤ maxLen) : ACalls Tryz.prog 5 [.slice (ms.map Md.enc) .none] H fun r H' => r = vint (validM ms) ∧ H' = H := by
 unfold validM
 refine keeps_of (N := 29) Tryz.func5 rfl rfl (by simp) (.int _ _) fun hb' => ?_
 repeat refine wS ?_
 refine eE (by simp only [kA, seval, vint, qM] <;> with_reducible rfl) (by decide) ?_
 repeat refine wS ?_
 refine wR ?_
 refine aops_gstart ?_
 refine g_take 5 (by simp only [jG, jO, jN, seval, y3, y36, y22, vint, qM] <;> with_reducible rfl) (by decide) ?_
 refine aops_gpure (by simp only [kE, seval, vint, qM] <;> with_reducible rfl) (by simp only [kE, seval, vint, qM] <;> with_reducible rfl) (by simp only [kE, seval, vint, qM]) (by decide) Tryzgo11 (fun hc => containsFuncMd (f := 12) (caps := []) (us := ms) (p := tooBig) ⟨Tryzgo12, by simp, fun u hu => val1_c u⟩ hl) ?_
 refine g_end (by simp only [jG, jO, jN, seval, vint, qM] <;> with_reducible rfl) (by decide) (by repeat (first | exact Fin.base _ | with_reducible apply Fin.keep | apply Fin.drop)) ?_
 repeat refine wS ?_
 refine wC rfl (by simp only [jN, seval, vint, qM] <;> with_reducible rfl) (fun bt11 => ?_) (fun bt11 => ?_)
 ·-- if t11
  rw [if_pos bt11]
  repeat refine wS ?_
  refine eE (by simp only [kA, seval, vint, qM] <;> with_reducible rfl) (by decide) ?_
  repeat refine wS ?_
  refine wT ⟨.inr rfl, _, _, rfl, ?_, (by first | exact (List.append_nil _).symm | rfl)⟩
  rfl
 ·-- else t11
  rw [if_neg (by rw [bt11]; simp)]
  repeat refine wS ?_
  refine wK ?_
  repeat refine wS ?_
  refine wR ?_
  refine eT 1 (by simp only [kA, seval, vint, qM] <;> with_reducible rfl) (by decide) ?_
  refine oP (by simp only [kC, seval, vint, qM] <;> with_reducible rfl) (by simp only [kC, seval]) (by decide) Tryzgo11 (containsFuncMd (f := 13) (caps := []) (us := ms) (p := badName) ⟨Tryzgo13, by simp, fun u hu => val2_c hG u (hn u hu)⟩ hl) ?_
  refine oN ?_
  repeat refine wS ?_
  refine wC rfl (by simp only [jN, seval, vint, qM] <;> with_reducible rfl) (fun bt13 => ?_) (fun bt13 => ?_)
  ·-- if t13
   rw [if_pos bt13]
   repeat refine wS ?_
   refine eE (by simp only [kA, seval, vint, qM] <;> with_reducible rfl) (by decide) ?_
   repeat refine wS ?_
   refine wT ⟨.inr rfl, _, _, rfl, ?_, (by first | exact (List.append_nil _).symm | rfl)⟩
   rfl
  ·-- else t13
   rw [if_neg (by rw [bt13]; simp)]
   repeat refine wS ?_
   refine wK ?_
   repeat refine wS ?_
   refine eE (by simp only [kA, seval, y36, y22, vint, qM] <;> with_reducible rfl) (by decide) ?_
   repeat refine wS ?_
   refine awp_forS (σ := Unit) (ms.length) (fun (s : Unit) => [(0, .slice (ms.map Md.enc) .none), (14, .slice (ms.map Md.enc) .none)]) [0, 14] (H) (fun (s : Unit) => []) (fun (i : Nat) (s : Unit) => (List.range i).any (dupAt ms) = false) (()) ([]) rfl rfl rfl rfl rfl rfl rfl rfl rfl (by decide) (by decide) (by decide) (fun _ => rfl) (hl) ⟨(by first | rfl | (simp only [jN, seval, vint, qM] <;> first | done | with_reducible rfl)), (by first | rfl | (simp only [jN, seval, vint, qM] <;> first | done | with_reducible rfl)), (by first | rfl | (simp only [jN, seval, vint, qM] <;> first | done | with_reducible rfl)), (by first | rfl | (simp only [jN, seval, vint, qM] <;> first | done | with_reducible rfl)), trivial⟩ (by first | rfl | (simp only [jN, seval, vint, qM] <;> first | done | with_reducible rfl)) (by simp) (fun _ _ _ => by first | exact Nat.zero_le _ | (simp only [List.length_append]; omega)) ?_ ?_ ?_
   ·exact fun i s hg => ⟨by first | exact hbel_nil _ | (simp only [List.append_nil]; assumption) | (refine hbel_app' hb' (by simp) ?_; repeat (first | exact hbel_nil _ | exact trivial | exact obel_row_nil _ | (refine HBel.cons ?_ ?_) | (refine obel_row_cons (by first | exact Md.bel _ _ | exact Dg.bel _ _ | exact bel_Md _ _ | exact bel_Dg _ _ | exact Tk.bel _ _ | exact St.bel _ _ | exact Nd.bel _ _ | exact bel_strs0 _ _ | exact bel_St _ _ | exact bel_ints0 _ _ | exact bel_Nd _ _ | exact bel_nil0 _ | exact bel_nil1 _ | exact Bel.optr _ _ (by first | (simp; done) | (simp; omega)) | exact Bel.int _ _ | exact Bel.bool _ | exact Bel.str _ | exact Bel.nilp | exact Bel.nilfn | exact Bel.optr _ _ (by simp) | exact bel_nil0 _ | exact bel_nil1 _ | exact bel_fn0 _ _ | assumption) ?_))), by repeat (first | exact BelL.nil | refine BelL.cons (by first | exact Md.bel _ _ | exact Dg.bel _ _ | exact bel_Md _ _ | exact bel_Dg _ _ | exact Tk.bel _ _ | exact St.bel _ _ | exact Nd.bel _ _ | exact bel_strs0 _ _ | exact bel_St _ _ | exact bel_ints0 _ _ | exact bel_Nd _ _ | exact bel_nil0 _ | exact bel_nil1 _ | exact Bel.optr _ _ (by first | (simp; done) | (simp; omega)) | exact Bel.int _ _ | exact Bel.bool _ | exact Bel.str _ | exact Bel.nilp | exact Bel.nilfn | exact Bel.optr _ _ (by simp) | exact bel_nil0 _ | exact bel_nil1 _ | exact bel_fn0 _ _ | assumption) ?_)⟩
   ·intro i s hi hg
    have g1 := ix_nat hi
    have g2 := get_enc Md.enc hi
    have g3 : (0 ≤ ((i : Nat) : Int) ∧ ((i : Nat) : Int) ≤ (ms.length : Int)) = True := by simp; omega
    have g4 : (ms.map Md.enc).take i = (ms.take i).map Md.enc := List.map_take.symm
    have g5 : min i ms.length = i := by omega
    have hdd := dupAt_of hi
    have hge := idxI_nonneg (sameName ms[i].name) (ms.take i)
    rw [← hdd] at hge
    have ga : (∀ (e : PV), e ∈ List.map Md.enc ms → e.cells.length = 2) = True := eq_true fun e he => by obtain ⟨v, _, rfl⟩ := List.mem_map.1 he; exact v.enc_len
    repeat refine wS ?_
    refine eE (by simp only [kA, seval, y36, y22, vint, qM, ga, g1, tN, g2, g3, g4, g5, hge, List.length_map] <;> with_reducible rfl) (by decide) ?_
    repeat refine wS ?_
    refine dp_draw (by kernel_rfl) ?_
    refine dp_take 5 (by simp only [jP, jO, jN, seval, y9, y36, y22, jS, vint, qM, ga, g1, tN, g2, g3, g4, g5, hge, List.length_map] <;> with_reducible rfl) (by decide) ?_
    refine dp_keep (by simp only [kE, seval, vint, qM, ga, g1, tN, g2, g3, g4, g5, hge, List.length_map] <;> with_reducible rfl) (by simp only [kE, seval, vint, qM, ga, g1, tN, g2, g3, g4, g5, hge, List.length_map] <;> with_reducible rfl) (by simp only [kE, seval, vint, qM, ga, g1, tN, g2, g3, g4, g5, hge, List.length_map]) (by decide) Tryzgo7 (fun hc => indexOf_c (ms.take i) ms[i].name (by simp; omega)) ?_
    refine dp_end (by simp only [jP, jO, jN, seval, y3, vint, qM, ga, g1, tN, g2, g3, g4, g5, hge, List.length_map] <;> with_reducible rfl) (by decide) (by repeat (first | exact Fin.base _ | with_reducible apply Fin.keep | apply Fin.drop)) ?_
    repeat refine wS ?_
    refine wC rfl (by simp only [jN, seval, vint, qM, ga, g1, tN, g2, g3, g4, g5, hge, List.length_map] <;> with_reducible rfl) (fun bt27 => ?_) (fun bt27 => ?_)
    ·-- if t27
     rw [if_pos (any_range_at hi bt27)]
     repeat refine wS ?_
     refine eE (by simp only [kA, seval, vint, qM, ga, g1, tN, g2, g3, g4, g5, hge, List.length_map] <;> with_reducible rfl) (by decide) ?_
     repeat refine wS ?_
     refine wT ⟨.inr rfl, _, _, rfl, ?_, (by first | exact (List.append_nil _).symm | rfl)⟩
     rfl
    ·-- else t27
     repeat refine wS ?_
     refine wK ?_
     exact ⟨⟨rfl, rfl, trivial⟩, (), _, ⟨rfl, rfl, trivial⟩, by simp only [jN, seval, vint, qM] <;> rfl, any_range_succ hg bt27⟩
   ·intro s hg
    rw [if_neg (by rw [hg]; simp)]
    repeat refine wS ?_
    refine eE (by simp only [kA, seval, vint, qM] <;> with_reducible rfl) (by decide) ?_
    repeat refine wS ?_
    refine wT ⟨.inr rfl, _, _, rfl, ?_, (by first | exact (List.append_nil _).symm | rfl)⟩
    rfl
end Go.Abs
namespace Go.Abs
inductive RwOk {α : Type} (enc : α → PV) (sz : Nat) (H : Heap) : PV → List α → List Nat → Prop
  | nil : RwOk enc sz H (.slice [] .full) [] []
  | msl {ic c : Nat} {xs : List α} {rest : List PV} (hH : H[ic]? = some (.row (flatE (xs.map enc) ++ rest))) (hc : xs.length * sz + rest.length = c * sz) (hm : c ≤ maxLen) : RwOk enc sz H (.msl ic 0 xs.length c) xs [ic]
section
variable {α : Type} {enc : α → PV} {sz : Nat}
theorem RwOk.of {H : Heap} {ic c n : Nat} {xs : List α} {rest : List PV} (hn : xs.length = n) (hH : H[ic]? = some (.row (flatE (xs.map enc) ++ rest))) (hc : n * sz + rest.length = c * sz) (hm : c ≤ maxLen) : RwOk enc sz H (.msl ic 0 n c) xs [ic] := by
  subst hn; exact .msl hH hc hm
theorem RwOk.fr {H H' : Heap} {cv : PV} {xs : List α} {cid : List Nat} (h : RwOk enc sz H cv xs cid) (he : ∀ i ∈ cid, H'[i]? = H[i]?) : RwOk enc sz H' cv xs cid := by
  cases h with
  | nil => exact .nil
  | msl hH hc hm => exact .msl (by rw [he _ (by simp)]; exact hH) hc hm
theorem RwOk.lt {H : Heap} {cv : PV} {xs : List α} {cid : List Nat} (h : RwOk enc sz H cv xs cid) : ∀ i ∈ cid, i < H.length := by
  cases h with
  | nil => intro i hi; cases hi
  | msl hH hc hm => intro i hi; rw [List.mem_singleton] at hi; subst hi; exact lG hH
theorem RwOk.app {H : Heap} {cv : PV} {xs : List α} {cid : List Nat} (h : RwOk enc sz H cv xs cid) (L : Heap) : RwOk enc sz (H ++ L) cv xs cid := h.fr fun i hi => List.getElem?_append_left (h.lt i hi)
theorem RwOk.cases2 {H : Heap} {cv : PV} {xs : List α} {cid : List Nat} (h : RwOk enc sz H cv xs cid) : (xs = [] ∧ cv = .slice [] .full ∧ cid = []) ∨
    ∃ ic c rest, cv = .msl ic 0 xs.length c ∧ cid = [ic] ∧ H[ic]? = some (.row (flatE (xs.map enc) ++ rest)) ∧ xs.length * sz + rest.length = c * sz ∧ c ≤ maxLen := by
  cases h with
  | nil => exact .inl ⟨rfl, rfl, rfl⟩
  | msl hH hc hm => exact .inr ⟨_, _, _, rfl, rfl, hH, hc, hm⟩
theorem splice_app : ∀ (vs A B : List PV), vs.length ≤ B.length → splice (A ++ B) A.length vs = A ++ vs ++ B.drop vs.length
  | [], A, B, _ => by simp [splice]
  | v :: vs, A, [], h => by simp at h
  | v :: vs, A, b :: B, h => by
    have h1 := splice_app vs (A ++ [v]) B (by simpa using h)
    simp only [splice]
    rw [List.set_append_right _ _ (Nat.le_refl _), Nat.sub_self, List.set_cons_zero]
    simp only [List.length_append, List.length_singleton, List.append_assoc, List.singleton_append] at h1
    rw [h1]; simp
theorem flat_enc_len (henc : ∀ a, (enc a).cells.length = sz) (xs : List α) : (flatE (xs.map enc)).length = xs.length * sz := by
  rw [flatE_length (sz := sz) _ (fun e he => by obtain ⟨v, _, rfl⟩ := List.mem_map.1 he; exact henc v), List.length_map]
variable {P : Program} {N nb : Nat} {ops : Array Oper} {Q : Post}
theorem first_fullK {E : Env} {v : Value} {es : List PV} {n : Nat} (hn : es.length = n) (hes : ∀ e ∈ es, e.cells.length = sz) (hv : VRel E.view v (.slice es .full)) : ∃ ad, v = .slice ad n n ∧ ∃ arrs, (Builtin.firstCells sz n (.slice ad n n)).run P E.w = .ok arrs E.w ∧ RL E.view arrs (flatE es) := by
  obtain ⟨arrs, r1, r2, ad, cap, rfl, hc1, hc2, hc3⟩ := run_first (P := P) hv hes
  subst hn
  have : cap = es.length := hc3
  subst this
  exact ⟨ad, rfl, arrs, r1, r2⟩
theorem aops_appRw (henc : ∀ a, (enc a).cells.length = sz) (hcell : ∀ a, (enc a).cells.all PV.isCell = true) (hs0 : 0 < sz) {o : Oper} {l : List Oper} {T : Slots} {H : Heap} {x y : Operand} {t u : TypeId} {ei : TypeId × TI} {z : PV} {tl : Tail} {cv : PV} {xs : List α} {cid : List Nat} {a : α}
    (hw : awanted ops.toList T N o = some true) (hop : o.op = .call ⟨.builtin .append, #[x, y], #[t, u]⟩) (okx : okOpnd N x = true) (oky : okOpnd N y = true) (hx : aev T x = cv) (hy : aev T y = .slice [enc a] tl) (hk : RwOk enc sz H cv xs cid)
    (hte : telem P t = some ei) (hei : ei.2.sz = sz) (hb : (xs.length + 1) * ei.2.bytes ≤ 2 ^ 47) (hm : xs.length + 1 ≤ maxLen) (htu : (telem P u).isSome = true) (hz : tzero P ei.1 = some z) (hzf : z.fits ei.2 = true)
    (h : ∀ (cv' : PV) (cid' : List Nat) (H' : Heap), RwOk enc sz H' cv' (xs ++ [a]) cid' → (∀ i ∈ cid', i ∈ cid ∨ H.length ≤ i) → H.length ≤ H'.length → (∀ j, j < H.length → j ∉ cid → H'[j]? = H[j]?) → AOps P N nb ops Q l (updO T o.dst cv') H') :
    AOps P N nb ops Q (o :: l) T H := by
  have hzs : z.cells.length = sz := by rw [(PV.fits_spec hzf).1, hei]
  have hnew : ∀ oc, oc = flatE (xs.map enc) → (∀ (E : Env) (v : Value), E.Ok → E.H = H → VRel E.view v (aev T x) → ∃ ad, v = .slice ad xs.length xs.length ∧ ∃ arrs, (Builtin.firstCells ei.2.sz xs.length (.slice ad xs.length xs.length)).run P E.w = .ok arrs E.w ∧ RL E.view arrs oc) → AOps P N nb ops Q (o :: l) T H := by
    intro oc hoc hold
    refine aops_appNew (n := xs.length) (oc := oc) (e1 := enc a) (tl := tl) hw hop okx oky hy hb hm (by rw [henc, hei]) hte htu hz hzf hold fun c rest hc1 hc2 hrest => ?_
    refine h _ [H.length] _ (.of (rest := rest) (by simp) ?_ ?_ hc2) (fun i hi => by rw [List.mem_singleton] at hi; exact .inr (by omega)) (by simp) (fun j hj _ => List.getElem?_append_left hj)
    · rw [List.getElem?_append_right (Nat.le_refl _), Nat.sub_self, hoc, List.map_append, flatE_append]
      simp [flatE]
    · rw [hrest]
      have : (List.replicate (c - (xs.length + 1)) z.cells).flatten.length = (c - (xs.length + 1)) * sz := by simp [hzs]
      rw [this, ← Nat.add_mul]
      congr 1; omega
  rcases hk.cases2 with ⟨rfl, rfl, rfl⟩ | ⟨ic, c, rest, rfl, rfl, hH, hc, hmx⟩
  · exact hnew _ rfl fun E v ho hE hv => by
      rw [hx] at hv
      exact first_fullK (es := []) rfl (by simp) hv
  · have hfl := flat_enc_len (enc := enc) henc xs
    rcases Nat.lt_or_ge xs.length c with hlt | hge
    · have hr : sz ≤ rest.length := by
        have : (xs.length + 1) * sz ≤ c * sz := Nat.mul_le_mul_right _ hlt
        rw [Nat.succ_mul] at this; omega
      refine aops_appIn (id := ic) (n := xs.length) (c := c) (cs := flatE (xs.map enc) ++ rest) (e1 := enc a) (tl := tl) hH hw hop okx oky hx hy hlt (by rw [List.length_append, hfl, hei]; exact hc) (by rw [henc, hei]) (hcell a) hte htu ?_
      have hil := lG hH
      refine h _ [ic] _ (.of (rest := rest.drop sz) (by simp) ?_ ?_ hmx) (fun i hi => .inl hi) (by simp) (fun j hj hn => by rw [List.getElem?_set_ne (by rintro rfl; exact hn (by simp))])
      · rw [List.getElem?_set_self hil, hei, ← hfl, splice_app _ _ _ (by rw [henc]; exact hr), henc, List.map_append, flatE_append]
        simp [flatE]
      · rw [List.length_drop, Nat.succ_mul]; omega
    · have hr : rest = [] := by
        have : c * sz ≤ xs.length * sz := Nat.mul_le_mul_right _ hge
        exact List.length_eq_zero_iff.1 (by omega)
      subst hr
      have hcl : c = xs.length := by
        simp only [List.length_nil, Nat.add_zero] at hc
        exact (Nat.eq_of_mul_eq_mul_right hs0 hc).symm
      subst hcl
      rw [List.append_nil] at hH
      exact hnew _ rfl fun E v ho hE hv => by
        rw [hx] at hv
        exact first_msl ho (cs := flatE (xs.map enc)) (by rw [hE]; exact hH) (by rw [hfl, hei]) hv
theorem chunkK (sz : Nat) : ∀ (n : Nat) (l : List PV), l.length = n * sz → ∃ es : List PV, es.length = n ∧ flatE es = l ∧ ∀ e ∈ es, e.cells.length = sz
  | 0, l, h => ⟨[], rfl, by simp at h; subst h; rfl, by simp⟩
  | n + 1, l, h => by
    rw [Nat.succ_mul] at h
    obtain ⟨es, h1, h2, h3⟩ := chunkK sz n (l.drop sz) (by rw [List.length_drop]; omega)
    refine ⟨.agg (l.take sz) :: es, by simp [h1], ?_, fun e he => ?_⟩
    · have : flatE (.agg (l.take sz) :: es) = l.take sz ++ flatE es := by simp [flatE, PV.cells]
      rw [this, h2, List.take_append_drop]
    · rcases List.mem_cons.1 he with rfl | he
      · show (l.take sz).length = sz; rw [List.length_take]; omega
      · exact h3 e he
theorem awp_frzRw (henc : ∀ a, (enc a).cells.length = sz) (hs0 : 0 < sz) {c : Code} {T : Slots} {H : Heap} (t : Nat) {cv : PV} {xs : List α} {cid : List Nat} (hk : RwOk enc sz H cv xs cid) (hT : T t = cv)
    (h : ∀ H' : Heap, H'.length = H.length → (∀ j, j ∉ cid → H'[j]? = H[j]?) → AWP P N nb c Q (upd T t (.slice (xs.map enc) .none)) H') : AWP P N nb c Q T H := by
  rcases hk.cases2 with ⟨rfl, rfl, rfl⟩ | ⟨ic, c', rest, rfl, rfl, hH, hc, hmx⟩
  · intro E a ho hH ht
    refine h H rfl (fun _ _ => rfl) E a ho hH ⟨ht.size, ht.defers, fun i hi => ?_⟩
    unfold upd
    split
    · rename_i e
      subst e
      have := ht.rel i hi
      rw [hT] at this
      exact this.drop0
    · exact ht.rel i hi
  · have hle : xs.length * sz ≤ c' * sz := by omega
    have hlc : xs.length ≤ c' := Nat.le_of_mul_le_mul_right hle hs0
    obtain ⟨es, _, e1, e2⟩ := chunkK sz (c' - xs.length) rest (by rw [Nat.sub_mul]; omega)
    have hrow : H[ic]? = some (.row (flatE (xs.map enc ++ es))) := by rw [hH, flatE_append, e1]
    · have hz := Fz.msl (id := ic) (k := xs.length) (es := xs.map enc ++ es) c' hlc
      have : (xs.map enc ++ es).take xs.length = xs.map enc := by rw [List.take_append_of_le_length (by simp), List.take_of_length_le (by simp)]
      rw [this] at hz
      refine awp_frz1 ic xs.length sz t (xs.map enc ++ es) hrow (by simp) (fun e he => ?_) hT hz ?_
      · rcases List.mem_append.1 he with he | he
        · obtain ⟨v, _, rfl⟩ := List.mem_map.1 he; exact henc v
        · exact e2 e he
      · exact h _ (by simp) (fun j hj => by rw [List.getElem?_set_ne (by rintro rfl; exact hj (by simp))])
end
end Go.Abs
set_option maxRecDepth 4000
namespace Go.Abs
open Go.Proofs
def parseAllM (k n : Nat) : List Md → Option (List Nd)
 | [] => some []
 | m :: r => (astM m.src k n).bind fun t => (parseAllM k n r).bind fun ts => some (t :: ts)
theorem cellNd (t : Nd) : t.enc.cells.all PV.isCell = true := by rw [Nd.enc_cells]; rfl
theorem toks_len : ∀ (k : Nat) (s : List UInt8), s.length ≤ k → (toks s).length ≤ s.length
 | 0, s, h => by
  have : s = [] := List.length_eq_zero_iff.1 (by omega)
  subst this; simp [toks_nil]
 | k + 1, s, h => by
  by_cases hs : s = []
  ·subst hs; simp [toks_nil]
  ·have hb := firstT_bd hs
   rw [toks_step hs, List.length_cons]
   have h2 := toks_len k (s.drop (firstT s).1) (by rw [List.length_drop]; omega)
   rw [List.length_drop] at h2
   omega
theorem toks_lim {s : List UInt8} (h : s.length ≤ 2000) : (toks s).length ≤ lim := by
 have := toks_len s.length s (Nat.le_refl _); unfold lim; omega
theorem parseAll_c {H0 : Heap} (hG : Pre G0 H0) (k n : Nat) (ms : List Md) {ts : List Nd} (h8 : ms.length ≤ 8) (hnm : ∀ m ∈ ms, m.name.length ≤ maxLen) (h2k : ∀ m ∈ ms, m.src.length ≤ 2000) (hv : validM ms = 0) (hm : parseAllM k n ms = some ts) : ACalls Tryz.prog 17 [.slice (ms.map Md.enc) .none] H0 fun r H' => r = .tup [.slice (ts.map Nd.enc) .none, .slice [] .none, vint 0] ∧ Fr [] [] H0 H' := by
 have hml : ms.length ≤ maxLen := Nat.le_trans h8 (by decide)
 have gv : decide (validM ms = 0) = true := decide_eq_true hv
 refine aF (N := 54) Tryz.func17 rfl rfl (by simp) fun hb' => ?_
 repeat refine wS ?_
 refine eE (by simp only [kA, seval, vint, NdS, NdF, qM, gv, hv, Bool.not_true, Int.cast_ofNat_Int] <;> with_reducible rfl) (by decide) ?_
 repeat refine wS ?_
 refine wR ?_
 refine eT 1 (by simp only [kA, seval, vint, NdS, NdF, qM, gv, hv, Bool.not_true, Int.cast_ofNat_Int] <;> with_reducible rfl) (by decide) ?_
 refine oP (by simp only [kC, seval, vint, NdS, NdF, qM, gv, hv, Bool.not_true, Int.cast_ofNat_Int] <;> with_reducible rfl) (by simp only [kC, seval]) (by decide) Tryzgo5 (validate_c hG ms hml hnm) ?_
 refine e_end (by simp only [kA, seval, vint, NdS, NdF, qM, gv, hv, Bool.not_true, Int.cast_ofNat_Int] <;> with_reducible rfl) (by decide) ?_
 repeat refine wS ?_
 refine eE (by simp only [kA, seval, y24, vint, NdS, NdF, qM, gv, hv, Bool.not_true, Int.cast_ofNat_Int] <;> with_reducible rfl) (by decide) ?_
 repeat refine wS ?_
 refine wF rfl (by simp only [jN, seval, vint, NdS, NdF, qM, gv, hv, Bool.not_true, Int.cast_ofNat_Int] <;> with_reducible rfl) ?_
 repeat refine wS ?_
 refine wK ?_
 repeat refine wS ?_
 refine eE (by simp only [kA, seval, vint, NdS, NdF, qM, gv, hv, Bool.not_true, Int.cast_ofNat_Int] <;> with_reducible rfl) (by decide) ?_
 repeat refine wS ?_
 refine eE (by simp only [kA, seval, vint, NdS, NdF, qM, gv, hv, Bool.not_true, Int.cast_ofNat_Int] <;> with_reducible rfl) (by decide) ?_
 repeat refine wS ?_
 refine eE (by simp only [kA, seval, y36, y22, vint, NdS, NdF, qM, gv, hv, Bool.not_true, Int.cast_ofNat_Int] <;> with_reducible rfl) (by decide) ?_
 repeat refine wS ?_
 refine awp_block ?_
 refine awp_loopX (σ := Nat × List Nd × PV × List Nat) (fun (z : Nat × List Nd × PV × List Nat) => [(20, .slice (ms.map Md.enc) .none), (21, vint (ms.length : Int)), (22, vint (z.1 : Int)), (6, z.2.2.1), (7, .slice [] .full)]) (fun (z : Nat × List Nd × PV × List Nat) =>  fun H1 => z.1 ≤ ms.length ∧ (∃ rest, parseAllM k n (ms.drop z.1) = some rest ∧ z.2.1 ++ rest = ts) ∧ z.2.1.length = z.1 ∧ RwOk Nd.enc 7 H1 z.2.2.1 z.2.1 z.2.2.2 ∧ (∀ x ∈ z.2.2.2, H0.length ≤ x) ∧ Fr [] [] H0 H1) (fun (z : Nat × List Nd × PV × List Nat) => ms.length - z.1) ((0, [], .slice [] .full, [])) ⟨(by first | rfl | (simp only [jN, seval, vint, NdS, NdF, qM, gv, hv, Bool.not_true, Int.cast_ofNat_Int] <;> first | done | with_reducible rfl)), (by first | rfl | (simp only [jN, seval, vint, NdS, NdF, qM, gv, hv, Bool.not_true, Int.cast_ofNat_Int] <;> first | done | with_reducible rfl)), (by first | rfl | (simp only [jN, seval, vint, NdS, NdF, qM, gv, hv, Bool.not_true, Int.cast_ofNat_Int] <;> first | done | with_reducible rfl)), (by first | rfl | (simp only [jN, seval, vint, NdS, NdF, qM, gv, hv, Bool.not_true, Int.cast_ofNat_Int] <;> first | done | with_reducible rfl)), (by first | rfl | (simp only [jN, seval, vint, NdS, NdF, qM, gv, hv, Bool.not_true, Int.cast_ofNat_Int] <;> first | done | with_reducible rfl)), trivial⟩ (⟨Nat.zero_le _, ⟨ts, hm, rfl⟩, rfl, .nil, (fun x hx => by cases hx), Fr.refl _ _⟩) ?_
 intro z H1 hg
 obtain ⟨j, trees, tv, cid⟩ := z
 obtain ⟨hj, ⟨rest, hr1, hr2⟩, hlen, hk1, hd1, f1⟩ := hg
 simp only at hj hr1 hr2 hlen hk1 hd1 f1
 have hG1 : Pre G0 H1 := fun q o hq => (f1.get (hG q o hq) (by simp)).1
 rcases Nat.lt_or_ge j ms.length with hi | hi
 ·-- case
  have gi := ix_nat hi
  have ge := get_enc Md.enc hi
  have gl : decide ((j : Int) < (ms.length : Int)) = true := decide_eq_true (by omega)
  have gwj : IntKind.i64.wrap ((j : Int) + 1) = ((j + 1 : Nat) : Int) := by rw [wrap_id (by omega) (by omega)]; omega
  rw [List.drop_eq_getElem_cons hi, parseAllM] at hr1
  obtain ⟨tm, hast, hr1⟩ := oB hr1
  obtain ⟨rest2, hrest2, hr1⟩ := oB hr1
  injection hr1 with hr1
  subst hr1
  have hsrc := h2k ms[j] (List.getElem_mem hi)
  have hmx : maxLen = 9223372036854775807 := by decide
  repeat refine wS ?_
  refine eE (by simp only [kA, seval, y3, vint, NdS, NdF, qM, gv, hv, Bool.not_true, Int.cast_ofNat_Int, gi, ge, gl, gwj, tN] <;> with_reducible rfl) (by decide) ?_
  repeat refine wS ?_
  refine awp_cond_true rfl (by simp only [jN, seval, vint, NdS, NdF, qM, gv, hv, Bool.not_true, Int.cast_ofNat_Int, gi, ge, gl, gwj, tN] <;> with_reducible rfl) ?_
  repeat refine wS ?_
  refine wK ?_
  repeat refine wS ?_
  refine awp_block ?_
  repeat refine wS ?_
  refine eE (by simp only [kA, seval, y36, y22, vint, NdS, NdF, qM, gv, hv, Bool.not_true, Int.cast_ofNat_Int, gi, ge, gl, gwj, tN] <;> with_reducible rfl) (by decide) ?_
  repeat refine wS ?_
  refine wR ?_
  refine eT 2 (by simp only [kA, seval, y9, y36, vint, NdS, NdF, qM, gv, hv, Bool.not_true, Int.cast_ofNat_Int, gi, ge, gl, gwj, tN] <;> with_reducible rfl) (by decide) ?_
  refine oC (by simp only [kC, seval, vint, NdS, NdF, qM, gv, hv, Bool.not_true, Int.cast_ofNat_Int, gi, ge, gl, gwj, tN] <;> with_reducible rfl) (by simp only [kC, seval]) (by decide) Tryzgo20 (astParse_c ms[j].src k n (by omega) (by omega) (toks_lim hsrc) (hG1.app _) hast) ?_
  rintro _ H2 ⟨rfl, g2⟩
  have hl2 := g2.len
  simp only [List.length_append, List.length_cons, List.length_nil] at hl2
  have hk2 : RwOk Nd.enc 7 H2 tv trees cid := hk1.fr fun x hx => by have := hk1.lt x hx; rw [g2.same x (by simp; omega) (by simp), List.getElem?_append_left this]
  have f2 : Fr [] [] H0 H2 := f1.trans g2.of_app
  have hT2 : (H2 ++ [.row [.int .i64 tm.kind, .int .i64 tm.value, .str tm.text, .int .i64 tm.st, .int .i64 tm.en, .int .i64 tm.ns, .slice (tm.kids.map Nd.enc) .none]])[H2.length]? = some (.row [.int .i64 tm.kind, .int .i64 tm.value, .str tm.text, .int .i64 tm.st, .int .i64 tm.en, .int .i64 tm.ns, .slice (tm.kids.map Nd.enc) .none]) := by simp
  refine e_end (by simp only [kA, seval, y48, vint, NdS, NdF, qM, gv, hv, Bool.not_true, Int.cast_ofNat_Int, gi, ge, gl, gwj, tN] <;> with_reducible rfl) (by decide) ?_
  refine wL [6, 7, 8, 10, 11, 20, 21, 22] (by simp only [jN, seval, vint, NdS, NdF, qM, gv, hv, Bool.not_true, Int.cast_ofNat_Int, gi, ge, gl, gwj, tN] <;> with_reducible rfl) ?_
  repeat refine wS ?_
  refine wR ?_
  refine eT 3 (by simp only [kA, seval, y40, y48, vint, NdS, NdF, qM, gv, hv, Bool.not_true, Int.cast_ofNat_Int, gi, ge, gl, gwj, tN] <;> with_reducible rfl) (by decide) ?_
  refine aops_appRw (enc := Nd.enc) (sz := 7) Nd.enc_len cellNd (by decide) (cv := tv) (xs := trees) (a := tm) (by simp only [kC, seval, vint, NdS, NdF, qM, hT2, Nd.enc_len]) rfl (by decide) (by decide) (by simp only [kC, seval, vint, NdS, NdF, qM, hT2, Nd.enc_len] <;> first | done | rfl) (by simp only [kC, seval, vint, NdS, NdF, qM, hT2, Nd.enc_len] <;> first | done | rfl) (hk2.app _) Tryzte40 rfl (by show (_ + 1) * 80 ≤ _; omega) (by omega) (by rw [Tryzte40]; rfl) Tryztz48 rfl ?_
  intro cv3 cid3 HA hk3 hc3 hl3 hs3
  simp only [List.length_append, List.length_cons, List.length_nil] at hl3
  have f3 : Fr [] [] H0 HA := ⟨by have := f2.len; omega, fun id h1 _ => by
   have h3 := f2.len
   rw [hs3 id (by simp; omega) (fun h => by have := hd1 id h; omega), List.getElem?_append_left (by omega)]; exact f2.same id h1 (by simp), fun id h => by cases h⟩
  refine e_end (by simp only [kA, seval, vint, NdS, NdF, qM, gv, hv, Bool.not_true, Int.cast_ofNat_Int, gi, ge, gl, gwj, tN] <;> with_reducible rfl) (by decide) ?_
  repeat refine wS ?_
  refine eE (by simp only [kA, seval, y41, y52, vint, NdS, NdF, qM, gv, hv, Bool.not_true, Int.cast_ofNat_Int, gi, ge, gl, gwj, tN] <;> with_reducible rfl) (by decide) ?_
  repeat refine wS ?_
  refine awp_block ?_
  refine awp_loopX (σ := Nat) (fun (u : Nat) => [(20, .slice (ms.map Md.enc) .none), (21, vint (ms.length : Int)), (22, vint (j : Int)), (6, cv3), (7, .slice [] .full), (39, vint 0), (40, vint 0)]) (fun (u : Nat) =>  fun H3 => HA = H3) (fun (u : Nat) => u) (0) ⟨(by first | rfl | (simp only [jN, seval, vint, NdS, NdF, qM, gv, hv, Bool.not_true, Int.cast_ofNat_Int, gi, ge, gl, gwj, tN] <;> first | done | with_reducible rfl)), (by first | rfl | (simp only [jN, seval, vint, NdS, NdF, qM, gv, hv, Bool.not_true, Int.cast_ofNat_Int, gi, ge, gl, gwj, tN] <;> first | done | with_reducible rfl)), (by first | rfl | (simp only [jN, seval, vint, NdS, NdF, qM, gv, hv, Bool.not_true, Int.cast_ofNat_Int, gi, ge, gl, gwj, tN] <;> first | done | with_reducible rfl)), (by first | rfl | (simp only [jN, seval, vint, NdS, NdF, qM, gv, hv, Bool.not_true, Int.cast_ofNat_Int, gi, ge, gl, gwj, tN] <;> first | done | with_reducible rfl)), (by first | rfl | (simp only [jN, seval, vint, NdS, NdF, qM, gv, hv, Bool.not_true, Int.cast_ofNat_Int, gi, ge, gl, gwj, tN] <;> first | done | with_reducible rfl)), (by first | rfl | (simp only [jN, seval, vint, NdS, NdF, qM, gv, hv, Bool.not_true, Int.cast_ofNat_Int, gi, ge, gl, gwj, tN] <;> first | done | with_reducible rfl)), (by first | rfl | (simp only [jN, seval, vint, NdS, NdF, qM, gv, hv, Bool.not_true, Int.cast_ofNat_Int, gi, ge, gl, gwj, tN] <;> first | done | with_reducible rfl)), trivial⟩ (rfl) ?_
  intro u H3 hg
  subst hg
  repeat refine wS ?_
  refine eE (by simp only [kA, seval, y3, vint, NdS, NdF, qM, gv, hv, Bool.not_true, Int.cast_ofNat_Int, gi, ge, gl, gwj, tN] <;> with_reducible rfl) (by decide) ?_
  repeat refine wS ?_
  refine wF rfl (by simp only [jN, seval, vint, NdS, NdF, qM, gv, hv, Bool.not_true, Int.cast_ofNat_Int, gi, ge, gl, gwj, tN] <;> with_reducible rfl) ?_
  repeat refine wS ?_
  refine awp_exit ?_
  simp only [thenQ, blockQ, reduceIte, Nat.reduceEqDiff, Nat.succ_ne_self, if_true, if_false]
  repeat refine wS ?_
  refine eE (by simp only [kA, seval, y3, vint, NdS, NdF, qM, gv, hv, Bool.not_true, Int.cast_ofNat_Int, gi, ge, gl, gwj, tN] <;> with_reducible rfl) (by decide) ?_
  try simp only [thenQ, blockQ]
  exact ⟨(j + 1, trees ++ [tm], cv3, cid3), by show ms.length - (j + 1) < ms.length - j; omega, ⟨rfl, rfl, rfl, rfl, rfl, trivial⟩, hi, ⟨rest2, hrest2, by rw [← hr2, List.append_assoc]; rfl⟩, by simp [hlen], hk3, fun x hx => by
   have := f2.len
   rcases hc3 x hx with h | h
   ·exact hd1 x h
   ·simp at h; omega, f3⟩
 ·-- case
  have gl : decide ((j : Int) < (ms.length : Int)) = false := decide_eq_false (by omega)
  rw [List.drop_eq_nil_of_le hi, parseAllM] at hr1
  injection hr1 with hr1
  subst hr1
  rw [List.append_nil] at hr2
  subst hr2
  repeat refine wS ?_
  refine eE (by simp only [kA, seval, y3, vint, NdS, NdF, qM, gv, hv, Bool.not_true, Int.cast_ofNat_Int, gl] <;> with_reducible rfl) (by decide) ?_
  repeat refine wS ?_
  refine wF rfl (by simp only [jN, seval, vint, NdS, NdF, qM, gv, hv, Bool.not_true, Int.cast_ofNat_Int, gl] <;> with_reducible rfl) ?_
  repeat refine wS ?_
  refine awp_exit ?_
  simp only [thenQ, blockQ, reduceIte, Nat.reduceEqDiff, Nat.succ_ne_self, if_true, if_false]
  repeat refine wS ?_
  refine awp_frzRw Nd.enc_len (by decide) 6 hk1 rfl fun H4 hl4 hs4 => ?_
  refine eE (by simp only [kA, seval, vint, NdS, NdF, qM, gv, hv, Bool.not_true, Int.cast_ofNat_Int, gl] <;> with_reducible rfl) (by decide) ?_
  repeat refine wS ?_
  refine wT ⟨.inr rfl, _, (ares_three (.tmp 2) (.tmp 3) (.tmp 4) rfl (ares_tmp1 (by decide)) (ares_tmp1 (by decide)) (ares_tmp1 (by decide))), ?_⟩
  refine ⟨?_, ⟨by rw [hl4]; exact f1.len, fun id h1 _ => by rw [hs4 id (fun h => by have := hd1 id h; omega)]; exact f1.same id h1 (by simp), fun id h => by cases h⟩⟩
  simp only [jN, seval, vint, NdS, NdF, qM]
  try rfl
end Go.Abs
set_option maxRecDepth 4000
namespace Go.Abs
open Go.Proofs
theorem modIdx_c (ms : List Md) (name : List UInt8) (hx : ms.length ≤ maxLen) : PC Tryz.prog 8 [.slice (ms.map Md.enc) .none, .str name] (vint (idxI (sameName name) ms)) := by
 refine pc_of (N := 20) Tryz.func8 rfl rfl (by simp) (by simp [bel_Md, Bel.str]) (.int _ _) ?_
 repeat refine wS ?_
 refine eE (by simp only [kA, seval, vint, qM] <;> with_reducible rfl) (by decide) ?_
 repeat refine wS ?_
 refine eE (by simp only [kA, seval, y22, y36, vint, qM] <;> with_reducible rfl) (by decide) ?_
 repeat refine wS ?_
 refine awp_forS (σ := Unit) (ms.length) (fun (s : Unit) => [(7, .slice (ms.map Md.enc) .none), (1, .str name)]) [7, 1] ([]) (fun (s : Unit) => []) (fun (i : Nat) (s : Unit) => (ms.take i).any (sameName name) = false) (()) ([]) rfl rfl rfl rfl rfl rfl rfl rfl rfl (by decide) (by decide) (by decide) (fun _ => rfl) (hx) ⟨(by first | rfl | (simp only [jN, seval, vint, qM] <;> first | done | with_reducible rfl)), (by first | rfl | (simp only [jN, seval, vint, qM] <;> first | done | with_reducible rfl)), (by first | rfl | (simp only [jN, seval, vint, qM] <;> first | done | with_reducible rfl)), (by first | rfl | (simp only [jN, seval, vint, qM] <;> first | done | with_reducible rfl)), trivial⟩ (by first | rfl | (simp only [jN, seval, vint, qM] <;> first | done | with_reducible rfl)) (by simp) (fun _ _ _ => by first | exact Nat.zero_le _ | (simp only [List.length_append]; omega)) ?_ ?_ ?_
 ·exact fun i s hg => ⟨by first | exact hbel_nil _ | (simp only [List.append_nil]; assumption) | (refine hbel_app' hb' (by simp) ?_; repeat (first | exact hbel_nil _ | exact trivial | exact obel_row_nil _ | (refine HBel.cons ?_ ?_) | (refine obel_row_cons (by first | exact Md.bel _ _ | exact Dg.bel _ _ | exact bel_Md _ _ | exact bel_Dg _ _ | exact Tk.bel _ _ | exact St.bel _ _ | exact Nd.bel _ _ | exact bel_strs0 _ _ | exact bel_St _ _ | exact bel_ints0 _ _ | exact bel_Nd _ _ | exact bel_nil0 _ | exact bel_nil1 _ | exact Bel.optr _ _ (by first | (simp; done) | (simp; omega)) | exact Bel.int _ _ | exact Bel.bool _ | exact Bel.str _ | exact Bel.nilp | exact Bel.nilfn | exact Bel.optr _ _ (by simp) | exact bel_nil0 _ | exact bel_nil1 _ | exact bel_fn0 _ _ | assumption) ?_))), by repeat (first | exact BelL.nil | refine BelL.cons (by first | exact Md.bel _ _ | exact Dg.bel _ _ | exact bel_Md _ _ | exact bel_Dg _ _ | exact Tk.bel _ _ | exact St.bel _ _ | exact Nd.bel _ _ | exact bel_strs0 _ _ | exact bel_St _ _ | exact bel_ints0 _ _ | exact bel_Nd _ _ | exact bel_nil0 _ | exact bel_nil1 _ | exact Bel.optr _ _ (by first | (simp; done) | (simp; omega)) | exact Bel.int _ _ | exact Bel.bool _ | exact Bel.str _ | exact Bel.nilp | exact Bel.nilfn | exact Bel.optr _ _ (by simp) | exact bel_nil0 _ | exact bel_nil1 _ | exact bel_fn0 _ _ | assumption) ?_)⟩
 ·intro i s hi hg
  have g1 := ix_nat hi
  have g2 := get_enc Md.enc hi
  repeat refine wS ?_
  refine eE (by simp only [kA, seval, y22, y36, vint, qM, g1, tN, g2, Md.enc_len] <;> with_reducible rfl) (by decide) ?_
  repeat refine wS ?_
  refine eE (by simp only [kA, seval, y9, y36, vint, qM, g1, tN, g2, Md.enc_len] <;> with_reducible rfl) (by decide) ?_
  repeat refine wS ?_
  refine wC rfl (by simp only [jN, seval, vint, qM, g1, tN, g2, Md.enc_len] <;> with_reducible rfl) (fun b0 => ?_) (fun b0 => ?_)
  ·-- if t17
   repeat refine wS ?_
   refine eE (by simp only [kA, seval, vint, qM, g1, tN, g2, Md.enc_len] <;> with_reducible rfl) (by decide) ?_
   repeat refine wS ?_
   refine wT ⟨.inr rfl, _, rfl, ?_⟩
   have h17 : sameName name ms[i] = true := b0
   rw [idxI_at hi h17 hg]; rfl
  ·-- else t17
   repeat refine wS ?_
   refine wK ?_
   have h17 : sameName name ms[i] = false := b0
   exact ⟨⟨rfl, rfl, trivial⟩, (), _, ⟨rfl, rfl, trivial⟩, rfl, any_take_succ hi hg h17⟩
 ·intro s hg
  rw [List.take_length] at hg
  repeat refine wS ?_
  refine eE (by simp only [kA, seval, vint, qM] <;> with_reducible rfl) (by decide) ?_
  repeat refine wS ?_
  refine wT ⟨.inr rfl, _, rfl, ?_⟩
  rw [idxI_none hg]; rfl
end Go.Abs
set_option maxRecDepth 4000
namespace Go.Abs
open Go.Proofs
def dsM (n : Nd) : Int := if decide (n.kind = 7) = true then n.st else n.ns
def contM (k : Int) : Bool := decide (k ≥ 2) && decide (k ≤ 8)
theorem dst_c (n : Nd) : PC Tryz.prog 40 [n.enc] (vint (dsM n)) := by
 refine pc_of (N := 10) Tryz.func40 rfl rfl (by simp) (by simp [Nd.bel, Bel.int]) (.int _ _) ?_
 repeat refine wS ?_
 refine eE (by simp only [kA, seval, y48, vint, NdS, NdF] <;> with_reducible rfl) (by decide) ?_
 repeat refine wS ?_
 refine eE (by simp only [kA, seval, y3, y48, vint, NdS, NdF] <;> with_reducible rfl) (by decide) ?_
 repeat refine wS ?_
 refine wC rfl (by simp only [jN, seval, vint, NdS, NdF] <;> with_reducible rfl) (fun bt5 => ?_) (fun bt5 => ?_)
 ·-- if t5
  have hx : dsM n = n.st := by unfold dsM; rw [if_pos bt5]
  repeat refine wS ?_
  refine eE (by simp only [kA, seval, y3, y48, vint, NdS, NdF] <;> with_reducible rfl) (by decide) ?_
  repeat refine wS ?_
  refine wT ⟨.inr rfl, _, rfl, ?_⟩
  rw [hx]; rfl
 ·-- else t5
  have hx : dsM n = n.ns := by unfold dsM; rw [if_neg (by rw [bt5]; simp)]
  repeat refine wS ?_
  refine wK ?_
  repeat refine wS ?_
  refine eE (by simp only [kA, seval, y3, y48, vint, NdS, NdF] <;> with_reducible rfl) (by decide) ?_
  repeat refine wS ?_
  refine wT ⟨.inr rfl, _, rfl, ?_⟩
  rw [hx]; rfl
theorem cont_c (k : Int) : PC Tryz.prog 41 [vint k] (.bool (contM k)) := by
 refine pc_of (N := 9) Tryz.func41 rfl rfl (by simp) (by simp [Nd.bel, Bel.int]) (.bool _) ?_
 repeat refine wS ?_
 refine eE (by simp only [kA, seval, vint, NdS, NdF] <;> with_reducible rfl) (by decide) ?_
 repeat refine wS ?_
 refine g_eval (by simp only [jG, jO, jN, seval, y3, vint, NdS, NdF] <;> with_reducible rfl) (by decide) (by repeat (first | exact Fin.base _ | with_reducible apply Fin.keep | apply Fin.drop)) ?_
 repeat refine wS ?_
 refine wT ⟨.inr rfl, _, rfl, ?_⟩
 first | rfl | (unfold contM; cases decide (k ≥ 2) <;> rfl)
end Go.Abs
namespace Go.Abs
def tarr (P : Program) (t : TypeId) : Option (Nat × TypeId × TI) :=
  match P.underlying t with
  | some (.array n e) => (tinfo P e).map fun i => (n, e, i)
  | _ => none
theorem tarr_some {P : Program} {t : TypeId} {n : Nat} {e : TypeId} {i : TI} (h : tarr P t = some (n, e, i)) : P.underlying t = some (.array n e) ∧ tinfo P e = some i := by
  unfold tarr at h
  split at h
  · rename_i n' e' hu
    cases hi : tinfo P e' with
    | none => rw [hi] at h; cases h
    | some j => rw [hi] at h; cases h; exact ⟨hu, hi⟩
  · cases h
section
variable {P : Program} {N nb : Nat} {ops : Array Oper} {Q : Post}
theorem aops_buildA {o : Oper} {l : List Oper} {T : Slots} {H : Heap} {t e : TypeId} {n : Nat} {i : TI} {ps : Array (Nat × Operand)} {z : PV} {es0 es : List PV} (hop : o.op = .build t ps) (hw : awanted ops.toList T N o = some true) (hok : okOp N o.op = true)
    (ht : tarr P t = some (n, e, i)) (hz : tzero P t = some z) (hj : z.isJunk = false) (hzc : z.cells = flatE es0) (hes : ∀ e ∈ es0, e.cells.length = i.sz) (hb : abuildS i T es0 ps.toList = some es)
    (h : AOps P N nb ops Q l (updO T o.dst (.agg (flatE es))) H) : AOps P N nb ops Q (o :: l) T H := by
  refine aops_done hw (fun E a ho hE htr => ?_) h
  obtain ⟨hu, hi⟩ := tarr_some ht
  obtain ⟨f, v, h3, h4, rfl⟩ := tzero_some hz
  obtain ⟨d', f', h5, h6, rfl⟩ := tinfo_some hi
  obtain ⟨c1, c2⟩ := (vrel_ofConst E.view v).not_junk_cells hj
  have hrl : RL E.view v.cells (flatE es0) := by
    rw [← hzc]; exact ⟨c1, c2⟩
  have hok' : ps.toList.all (fun x => okOpnd N x.2) = true := by
    rw [hop] at hok
    refine List.all_eq_true.2 fun x hx => List.all_eq_true.1 hok _ ?_
    simp only [Op.operands, List.mem_map]
    exact ⟨x, hx, rfl⟩
  obtain ⟨arr', e1, e2, e3, e4⟩ := sound_fillS htr ⟨isAggD d', f'.size, f'.bytes⟩ ps.toList _ _ es hrl hes hok' hb
  refine ⟨E, .agg arr', .inl ?_, .refl E, ho, hE, .agg _ _ e2.1 e2.2⟩
  unfold execOp
  rw [hop]
  simp only [Instr.build, Sem.run_bind, run_zero h3 h4, Result.andThen_ok, run_under hu, run_size h6, Array.toList_map, e1, Sem.run_pure]
theorem aops_idxA {o : Oper} {l : List Oper} {T : Slots} {H : Heap} {t e : TypeId} {n : Nat} {i : TI} {x y : Operand} {id off : Nat} {kk : IntKind} {k : Nat} (hop : o.op = .indexAddr t x y) (hw : awanted ops.toList T N o = some true) (hok : okOp N o.op = true)
    (ht : tarr P t = some (n, e, i)) (hx : aev T x = .optr id off) (hy : aev T y = .int kk (k : Nat)) (hk : k < n)
    (h : AOps P N nb ops Q l (updO T o.dst (.optr id (off + k * i.sz))) H) : AOps P N nb ops Q (o :: l) T H := by
  refine aops_val hw (fun E a ho hvs => ?_) h
  obtain ⟨hu, hi⟩ := tarr_some ht
  obtain ⟨d', f', h5, h6, rfl⟩ := tinfo_some hi
  rw [hop] at hok hvs
  have okx : okOpnd N x = true := List.all_eq_true.1 hok _ (by simp [Op.operands])
  have oky : okOpnd N y = true := List.all_eq_true.1 hok _ (by simp [Op.operands])
  have rx := hvs x (by simp [Op.operands]) okx
  have ry := hvs y (by simp [Op.operands]) oky
  rw [hx] at rx
  rw [hy] at ry
  obtain ⟨e1, e2⟩ := rx.optr_inv
  have e3 := ry.int_inv
  refine ⟨.pointer (some ⟨E.view.rho id, off + k * f'.size, none⟩), ?_, .optr _ _ e2⟩
  unfold execOp
  rw [hop]
  have hkk : (0 : Int) ≤ (k : Nat) ∧ ((k : Nat) : Int) < (n : Nat) := ⟨Int.natCast_nonneg k, by omega⟩
  simp only [e1, e3, Instr.indexAt, Instr.sureAddr, asIntOf, Sem.run_bind, Sem.run_pure, Result.andThen_ok, run_under hu, run_size h6, if_pos hkk, Sem.run_ite, add_plain, tN]
end
end Go.Abs
set_option maxRecDepth 4000
namespace Go.Abs
open Go.Proofs
theorem ar97 : tarr Tryz.prog 97 = some (2, 3, ⟨false, 1, 8⟩) := by kernel_rfl
theorem az97 : tzero Tryz.prog 97 = some (.agg [.int .i64 0, .int .i64 0]) := by kernel_rfl
theorem ai97 : tinfo Tryz.prog 97 = some ⟨true, 2, 16⟩ := by kernel_rfl
theorem fl2 (a b : Int) : flatE [.int .i64 a, .int .i64 b] = [.int .i64 a, .int .i64 b] := rfl
structure P2 where
 a : Int
 b : Int
def P2.enc (p : P2) : PV := .agg [.int .i64 p.a, .int .i64 p.b]
theorem P2.enc_len (p : P2) : p.enc.cells.length = 2 := rfl
theorem bel_P2 (n : Nat) (us : List P2) : Bel n (.slice (us.map P2.enc) .full) := .slice _ _ (fun e he c hc => by
 obtain ⟨b, _, rfl⟩ := List.mem_map.1 he
 simp only [P2.enc, PV.cells, List.mem_cons, List.not_mem_nil, or_false] at hc
 rcases hc with rfl | rfl <;> exact .int _ _) (by simp)
theorem P2S : (∀ p : P2, p.enc.cells = [.int .i64 p.a, .int .i64 p.b]) ∧ (∀ p : P2, p.enc.isJunk = false) ∧ (∀ p : P2, p.enc.drop1 = p.enc) ∧ (∀ p : P2, p.enc.drop0 = p.enc) := ⟨fun _ => rfl, fun _ => rfl, fun _ => rfl, fun _ => rfl⟩
def symTab : List P2 := [⟨11, 9⟩, ⟨13, 10⟩, ⟨14, 11⟩, ⟨15, 12⟩, ⟨16, 13⟩]
def symL (k : Int) (xs : List P2) : Int := match xs.find? (fun p => decide (p.a = k)) with | some p => p.b | none => 0
def symM (n : Nd) (lp : Bool) : Int := if decide (n.kind = 7) = true then 6 else if decide (n.ns < 0) = true then 0
 else if ((decide (n.kind = 13) && lp) || decide (n.kind = 44)) = true then 14
 else if (decide (n.kind ≥ 3) && decide (n.kind ≤ 9)) = true then n.kind - 3 + 2 else symL n.kind symTab
theorem symL_at {k : Int} : ∀ {xs : List P2} {i : Nat} (hi : i < xs.length), decide (xs[i].a = k) = true → (xs.take i).any (fun p => decide (p.a = k)) = false → symL k xs = xs[i].b
 | [], i, hi, _, _ => by simp at hi
 | x :: xs, 0, hi, h, _ => by
  simp only [List.getElem_cons_zero] at h ⊢
  unfold symL; simp only [List.find?_cons, h]
 | x :: xs, i + 1, hi, h, hn => by
  simp only [List.getElem_cons_succ, List.take_succ_cons, List.any_cons, Bool.or_eq_false_iff] at h hn ⊢
  have := symL_at (xs := xs) (by simpa using hi) h hn.2
  unfold symL at this ⊢
  simp only [List.find?_cons, hn.1]; exact this
theorem symL_none {k : Int} {xs : List P2} (h : xs.any (fun p => decide (p.a = k)) = false) : symL k xs = 0 := by
 unfold symL
 rw [List.find?_eq_none.2 fun x hx => by have := List.any_eq_false.1 h x hx; simpa using this]
theorem sym_c {H : Heap} (n : Nd) (lp : Bool) : ACalls Tryz.prog 39 [n.enc, .bool lp] H fun r' H' => r' = vint (symM n lp) ∧ H' = H := by
 unfold symM
 refine keeps_of (N := 61) Tryz.func39 rfl rfl (by simp) (.int _ _) fun hb' => ?_
 repeat refine wS ?_
 refine eE (by simp only [kA, seval, y48, vint, NdS, NdF] <;> with_reducible rfl) (by decide) ?_
 repeat refine wS ?_
 refine awp_block ?_
 repeat refine wS ?_
 refine eE (by simp only [kA, seval, y3, y48, vint, NdS, NdF] <;> with_reducible rfl) (by decide) ?_
 repeat refine wS ?_
 refine wC rfl (by simp only [jN, seval, vint, NdS, NdF] <;> with_reducible rfl) (fun bt8 => ?_) (fun bt8 => ?_)
 ·-- if t8
  rw [if_pos bt8]
  repeat refine wS ?_
  refine eE (by simp only [kA, seval, vint, NdS, NdF] <;> with_reducible rfl) (by decide) ?_
  repeat refine wS ?_
  refine wT ⟨.inr rfl, _, _, rfl, ?_, (by first | exact (List.append_nil _).symm | rfl)⟩
  rfl
 ·-- else t8
  rw [if_neg (by rw [bt8]; simp)]
  repeat refine wS ?_
  refine eE (by simp only [kA, seval, y3, y48, vint, NdS, NdF] <;> with_reducible rfl) (by decide) ?_
  repeat refine wS ?_
  refine wC rfl (by simp only [jN, seval, vint, NdS, NdF] <;> with_reducible rfl) (fun bt12 => ?_) (fun bt12 => ?_)
  ·-- if t12
   rw [if_pos bt12]
   repeat refine wS ?_
   refine eE (by simp only [kA, seval, vint, NdS, NdF] <;> with_reducible rfl) (by decide) ?_
   repeat refine wS ?_
   refine wT ⟨.inr rfl, _, _, rfl, ?_, (by first | exact (List.append_nil _).symm | rfl)⟩
   rfl
  ·-- else t12
   rw [if_neg (by rw [bt12]; simp)]
   repeat refine wS ?_
   refine g_eval (by simp only [jG, jO, jN, seval, y3, y48, vint, NdS, NdF] <;> with_reducible rfl) (by decide) (by repeat (first | exact Fin.base _ | with_reducible apply Fin.keep | apply Fin.drop)) ?_
   repeat refine wS ?_
   refine wC rfl (by simp only [jN, seval, vint, NdS, NdF] <;> with_reducible rfl) (fun bt16 => ?_) (fun bt16 => ?_)
   ·-- if t16
    rw [if_pos bt16]
    refine wL [] (by simp only [jN, seval, vint, NdS, NdF] <;> with_reducible rfl) ?_
    repeat refine wS ?_
    refine eE (by simp only [kA, seval, vint, NdS, NdF] <;> with_reducible rfl) (by decide) ?_
    repeat refine wS ?_
    refine wT ⟨.inr rfl, _, _, rfl, ?_, (by first | exact (List.append_nil _).symm | rfl)⟩
    rfl
   ·-- else t16
    rw [if_neg (by rw [bt16]; simp)]
    refine wL [2] (by simp only [jN, seval, vint, NdS, NdF] <;> with_reducible rfl) ?_
    repeat refine wS ?_
    refine g_eval (by simp only [jG, jO, jN, seval, y3, y48, vint, NdS, NdF] <;> with_reducible rfl) (by decide) (by repeat (first | exact Fin.base _ | with_reducible apply Fin.keep | apply Fin.drop)) ?_
    repeat refine wS ?_
    refine wC rfl (by simp only [jN, seval, vint, NdS, NdF] <;> with_reducible rfl) (fun bt28 => ?_) (fun bt28 => ?_)
    ·-- if t28
     rw [if_pos bt28]
     have hk : n.kind ≥ 3 ∧ n.kind ≤ 9 := by simpa using bt28
     have w1 : IntKind.i64.wrap (n.kind - 3) = n.kind - 3 := wrap_id (by omega) (by omega)
     have w2 : IntKind.i64.wrap (n.kind - 3 + 2) = n.kind - 3 + 2 := wrap_id (by omega) (by omega)
     repeat refine wS ?_
     refine eE (by simp only [kA, seval, y3, y48, vint, NdS, NdF, w1, w2] <;> with_reducible rfl) (by decide) ?_
     repeat refine wS ?_
     refine wT ⟨.inr rfl, _, _, rfl, ?_, (by first | exact (List.append_nil _).symm | rfl)⟩
     rfl
    ·-- else t28
     rw [if_neg (by rw [bt28]; simp)]
     repeat refine wS ?_
     refine wK ?_
     repeat refine wS ?_
     refine wR ?_
     refine aops_buildA (t := 97) (n := 2) (es0 := [.int .i64 0, .int .i64 0]) (es := [.int .i64 11, .int .i64 9]) rfl (by simp only [kC, seval, vint, NdS, NdF]) (by decide) ar97 az97 rfl rfl (by decide) rfl ?_
     refine aops_buildA (t := 97) (n := 2) (es0 := [.int .i64 0, .int .i64 0]) (es := [.int .i64 13, .int .i64 10]) rfl (by simp only [kC, seval, vint, NdS, NdF]) (by decide) ar97 az97 rfl rfl (by decide) rfl ?_
     refine aops_buildA (t := 97) (n := 2) (es0 := [.int .i64 0, .int .i64 0]) (es := [.int .i64 14, .int .i64 11]) rfl (by simp only [kC, seval, vint, NdS, NdF]) (by decide) ar97 az97 rfl rfl (by decide) rfl ?_
     refine aops_buildA (t := 97) (n := 2) (es0 := [.int .i64 0, .int .i64 0]) (es := [.int .i64 15, .int .i64 12]) rfl (by simp only [kC, seval, vint, NdS, NdF]) (by decide) ar97 az97 rfl rfl (by decide) rfl ?_
     refine aops_buildA (t := 97) (n := 2) (es0 := [.int .i64 0, .int .i64 0]) (es := [.int .i64 16, .int .i64 13]) rfl (by simp only [kC, seval, vint, NdS, NdF]) (by decide) ar97 az97 rfl rfl (by decide) rfl ?_
     refine e_end (by simp only [kA, seval, y98, vint, NdS, NdF, fl2, az97] <;> with_reducible rfl) (by decide) ?_
     refine wL [2, 5] (by simp only [jN, seval, vint, NdS, NdF] <;> with_reducible rfl) ?_
     repeat refine wS ?_
     refine eE (by simp only [kA, seval, y98, vint, NdS, NdF] <;> with_reducible rfl) (by decide) ?_
     repeat refine wS ?_
     refine awp_forS (σ := Unit) (symTab.length) (fun (s : Unit) => [(47, .slice (symTab.map P2.enc) .full), (2, .optr H.length 0)]) [47, 2] ((H ++ [.row [.int .i64 n.kind, .int .i64 n.value, .str n.text, .int .i64 n.st, .int .i64 n.en, .int .i64 n.ns, .slice (n.kids.map Nd.enc) .none]])) (fun (s : Unit) => []) (fun (i : Nat) (s : Unit) => (symTab.take i).any (fun p => decide (p.a = n.kind)) = false) (()) ([]) rfl rfl rfl rfl rfl rfl rfl rfl rfl (by decide) (by decide) (by decide) (fun _ => rfl) ((by decide)) ⟨(by first | rfl | (simp only [jN, seval, vint, NdS, NdF] <;> first | done | with_reducible rfl)), (by first | rfl | (simp only [jN, seval, vint, NdS, NdF] <;> first | done | with_reducible rfl)), (by first | rfl | (simp only [jN, seval, vint, NdS, NdF] <;> first | done | with_reducible rfl)), (by first | rfl | (simp only [jN, seval, vint, NdS, NdF] <;> first | done | with_reducible rfl)), trivial⟩ (by first | rfl | (simp only [jN, seval, vint, NdS, NdF] <;> first | done | with_reducible rfl)) (by simp) (fun _ _ _ => by first | exact Nat.zero_le _ | (simp only [List.length_append]; omega)) ?_ ?_ ?_
     ·exact fun i s hg => ⟨by (simp only [List.append_nil]; refine hbel_app' hb' (by simp) ?_; repeat (first | exact hbel_nil _ | exact obel_row_nil _ | (refine HBel.cons ?_ ?_) | (refine obel_row_cons (by first | exact Md.bel _ _ | exact Dg.bel _ _ | exact bel_Md _ _ | exact bel_Dg _ _ | exact Tk.bel _ _ | exact St.bel _ _ | exact Nd.bel _ _ | exact bel_strs0 _ _ | exact bel_St _ _ | exact bel_ints0 _ _ | exact bel_Nd _ _ | exact bel_nil0 _ | exact bel_nil1 _ | exact Bel.optr _ _ (by first | (simp; done) | (simp; omega)) | exact Bel.int _ _ | exact Bel.bool _ | exact Bel.str _ | exact Bel.nilp | exact Bel.nilfn | exact Bel.optr _ _ (by simp) | exact bel_nil0 _ | exact bel_nil1 _ | exact bel_fn0 _ _ | assumption | exact bel_P2 _ _ | exact bel_Nd _ _) ?_))), by repeat (first | exact BelL.nil | refine BelL.cons (by first | exact Md.bel _ _ | exact Dg.bel _ _ | exact bel_Md _ _ | exact bel_Dg _ _ | exact Tk.bel _ _ | exact St.bel _ _ | exact Nd.bel _ _ | exact bel_strs0 _ _ | exact bel_St _ _ | exact bel_ints0 _ _ | exact bel_Nd _ _ | exact bel_nil0 _ | exact bel_nil1 _ | exact Bel.optr _ _ (by first | (simp; done) | (simp; omega)) | exact Bel.int _ _ | exact Bel.bool _ | exact Bel.str _ | exact Bel.nilp | exact Bel.nilfn | exact Bel.optr _ _ (by simp) | exact bel_nil0 _ | exact bel_nil1 _ | exact bel_fn0 _ _ | assumption | exact bel_P2 _ _ | exact bel_Nd _ _) ?_)⟩
     ·intro i s hi hg
      have g1 := ix_nat hi
      have g2 := get_enc P2.enc hi
      repeat refine wS ?_
      refine eE (by simp only [kA, seval, y98, vint, NdS, NdF, g1, tN, g2, P2.enc_len, P2S, az97, ai97] <;> with_reducible rfl) (by decide) ?_
      repeat refine wS ?_
      refine wR ?_
      refine aops_idxA (t := 97) (id := H.length + 1) (off := 0) (kk := .i64) (k := 0) rfl (by simp only [kC, seval, vint, NdS, NdF]) (by decide) ar97 (by simp only [kC, seval, vint, NdS, NdF] <;> rfl) rfl (by decide) ?_
      refine e_end (by simp only [kA, seval, y3, y48, vint, NdS, NdF, g1, tN, g2, P2.enc_len, P2S, az97, ai97] <;> with_reducible rfl) (by decide) ?_
      repeat refine wS ?_
      refine wC rfl (by simp only [jN, seval, vint, NdS, NdF, g1, tN, g2, P2.enc_len, P2S, az97, ai97] <;> with_reducible rfl) (fun b4 => ?_) (fun b4 => ?_)
      ·-- if t57
       repeat refine wS ?_
       refine wR ?_
       refine aops_idxA (t := 97) (id := H.length + 1) (off := 0) (kk := .i64) (k := 1) rfl (by simp only [kC, seval, vint, NdS, NdF]) (by decide) ar97 (by simp only [kC, seval, vint, NdS, NdF] <;> rfl) rfl (by decide) ?_
       refine e_end (by simp only [kA, seval, y3, vint, NdS, NdF, g1, tN, g2, P2.enc_len, P2S, az97, ai97] <;> with_reducible rfl) (by decide) ?_
       repeat refine wS ?_
       refine wT ⟨.inr rfl, _, _, rfl, ?_, (by first | exact (List.append_nil _).symm | rfl)⟩
       rw [symL_at hi b4 hg]; rfl
      ·-- else t57
       repeat refine wS ?_
       refine wK ?_
       exact ⟨⟨rfl, rfl, trivial⟩, (), [.row [.int .i64 symTab[i].a, .int .i64 symTab[i].b]], ⟨rfl, rfl, trivial⟩, by simp, any_take_succ hi hg b4⟩
     ·intro s hg
      rw [List.take_length] at hg
      repeat refine wS ?_
      refine eE (by simp only [kA, seval, vint, NdS, NdF] <;> with_reducible rfl) (by decide) ?_
      repeat refine wS ?_
      refine wT ⟨.inr rfl, _, _, rfl, ?_, (by first | exact (List.append_nil _).symm | rfl)⟩
      rw [symL_none hg]; rfl
end Go.Abs
set_option maxRecDepth 4000
namespace Go.Abs
structure Sy where
  kind : Int
  mod : Int
  st : Int
  par : Int
  name : List UInt8
  pub : Bool
def Sy.enc (t : Sy) : PV := .agg [.int .i64 t.kind, .int .i64 t.mod, .int .i64 t.st, .int .i64 t.par, .str t.name, .bool t.pub]
theorem Sy.enc_eq (t : Sy) : t.enc = .agg [.int .i64 t.kind, .int .i64 t.mod, .int .i64 t.st, .int .i64 t.par, .str t.name, .bool t.pub] := rfl
theorem Sy.enc_cells (t : Sy) : t.enc.cells = [.int .i64 t.kind, .int .i64 t.mod, .int .i64 t.st, .int .i64 t.par, .str t.name, .bool t.pub] := rfl
theorem Sy.eta (t : Sy) : Sy.mk t.kind t.mod t.st t.par t.name t.pub = t := rfl
theorem Sy.enc_drop1 (t : Sy) : t.enc.drop1 = t.enc := by rw [Sy.enc_eq]; rfl
theorem Sy.enc_drop0 (t : Sy) : t.enc.drop0 = t.enc := by rw [Sy.enc_eq]; rfl
theorem Sy.enc_len (t : Sy) : t.enc.cells.length = 6 := by rw [Sy.enc_cells]; rfl
theorem Sy.enc_junk (t : Sy) : t.enc.isJunk = false := by rw [Sy.enc_eq]; rfl
theorem Sy.enc_agg (t : Sy) : PV.agg t.enc.cells = t.enc := by rw [Sy.enc_cells, Sy.enc_eq]
theorem Sy.bel (n : Nat) (t : Sy) : Bel n t.enc := .agg _ (by
  intro c hc
  simp only [List.mem_cons, List.not_mem_nil, or_false] at hc
  rcases hc with rfl | rfl | rfl | rfl | rfl | rfl
  · exact .int _ _
  · exact .int _ _
  · exact .int _ _
  · exact .int _ _
  · exact .str _
  · exact .bool _)
theorem bel_Sy (n : Nat) (us : List Sy) : Bel n (.slice (us.map Sy.enc) .none) := .slice _ _ (fun e he c hc => by
  obtain ⟨b, _, rfl⟩ := List.mem_map.1 he
  have := Sy.bel n b
  rw [Sy.enc_eq] at this hc
  cases this with | agg _ h => exact h c hc) (by simp)
theorem SyS : (∀ t : Sy, t.enc.cells = [.int .i64 t.kind, .int .i64 t.mod, .int .i64 t.st, .int .i64 t.par, .str t.name, .bool t.pub]) ∧ (∀ t : Sy, t.enc.isJunk = false) ∧ (∀ t : Sy, t.enc.drop1 = t.enc) ∧ (∀ t : Sy, t.enc.drop0 = t.enc) ∧ (∀ (t : Sy) (b : Nat), t.enc.fits ⟨true, 6, b⟩ = true) :=
  ⟨Sy.enc_cells, Sy.enc_junk, Sy.enc_drop1, Sy.enc_drop0, fun t b => by rw [Sy.enc_eq]; rfl⟩
theorem SyF : (∀ (kind : Int) (mod : Int) (st : Int) (par : Int) (name : List UInt8) (pub : Bool), PV.agg [.int .i64 kind, .int .i64 mod, .int .i64 st, .int .i64 par, .str name, .bool pub] = (Sy.mk kind mod st par name pub).enc) ∧
    (∀ t : Sy, Sy.mk t.kind t.mod t.st t.par t.name t.pub = t) ∧
    (∀ (kind : Int) (mod : Int) (st : Int) (par : Int) (name : List UInt8) (pub : Bool), (Sy.mk kind mod st par name pub).kind = kind) ∧
    (∀ (kind : Int) (mod : Int) (st : Int) (par : Int) (name : List UInt8) (pub : Bool), (Sy.mk kind mod st par name pub).mod = mod) ∧
    (∀ (kind : Int) (mod : Int) (st : Int) (par : Int) (name : List UInt8) (pub : Bool), (Sy.mk kind mod st par name pub).st = st) ∧
    (∀ (kind : Int) (mod : Int) (st : Int) (par : Int) (name : List UInt8) (pub : Bool), (Sy.mk kind mod st par name pub).par = par) ∧
    (∀ (kind : Int) (mod : Int) (st : Int) (par : Int) (name : List UInt8) (pub : Bool), (Sy.mk kind mod st par name pub).name = name) ∧
    (∀ (kind : Int) (mod : Int) (st : Int) (par : Int) (name : List UInt8) (pub : Bool), (Sy.mk kind mod st par name pub).pub = pub) :=
  ⟨fun kind mod st par name pub => (Sy.enc_eq (Sy.mk kind mod st par name pub)).symm, Sy.eta, fun _ _ _ _ _ _ => rfl, fun _ _ _ _ _ _ => rfl, fun _ _ _ _ _ _ => rfl, fun _ _ _ _ _ _ => rfl, fun _ _ _ _ _ _ => rfl, fun _ _ _ _ _ _ => rfl⟩
def Sy.W (t : Sy) : Prop := t.name.length ≤ 2 ^ 47
theorem app_Sy {us : List Sy} {u : Sy} {id : Nat} {tl : Tail} (hb : (us.length + 1) * 56 ≤ 2 ^ 47) (fresh : Nat) (H : Heap) (hH : H[id]? = some (.buf us.length 6)) :
    aappend ⟨true, 6, 56⟩ fresh H (.slice (us.map Sy.enc) (.tok id)) (.slice [u.enc] tl) = some (.slice ((us ++ [u]).map Sy.enc) (.tok id), some (id, .buf (us.length + 1) 6)) := by
  have hmx : maxLen = 9223372036854775807 := by decide
  rw [aappend_tok1 (n := us.length) hH (by simp) (by simpa using hb) (by simp; omega) (fun e he => by obtain ⟨v, _, rfl⟩ := List.mem_map.1 he; exact v.enc_len) u.enc_len (by rw [Sy.enc_cells]; rfl) (by decide)]
  simp
theorem qW : type_of% (aI @SyS (@SyF)) := aI @SyS (@SyF)
end Go.Abs
set_option maxRecDepth 4000
namespace Go.Abs
open Go.Proofs
def pubM (n : Nd) : Bool := decide (n.kind ≤ 9) && !decide (andI n.value 1 = 0)
def locM (n : Nd) (lp : Bool) : Bool := ((decide (n.kind = 12) && lp) || decide (n.kind = 9)) || decide (n.kind = 38)
def symOf (m : Int) (n : Nd) (lp : Bool) (par : Int) : Sy := ⟨symM n lp, m, dsM n, par, n.text, pubM n⟩
def addS (m : Int) (n : Nd) (lp : Bool) (par : Int) (ss : List Sy) : List Sy := if decide (symM n lp = 0) = true then ss else ss ++ [symOf m n lp par]
def parS (n : Nd) (lp : Bool) (par : Int) (ss : List Sy) : Int := if decide (symM n lp = 0) = true then par else if contM (symM n lp) = true then (ss.length : Int) else par
mutual
def visS (m : Int) : Nd → Int → Bool → List Sy → List Sy
 | .mk k v t s e n us, par, lp, ss => visSs m us (parS (.mk k v t s e n us) lp par ss) (locM (.mk k v t s e n us) lp) (addS m (.mk k v t s e n us) lp par ss)
def visSs (m : Int) : List Nd → Int → Bool → List Sy → List Sy
 | [], _, _, ss => ss
 | u :: us, par, lp, ss => visSs m us par lp (visS m u par lp ss)
end
theorem visS_eq (m : Int) (n : Nd) (par : Int) (lp : Bool) (ss : List Sy) : visS m n par lp ss = visSs m n.kids (parS n lp par ss) (locM n lp) (addS m n lp par ss) := by
 cases n; rw [visS]; rfl
theorem addS_len (m : Int) (n : Nd) (lp : Bool) (par : Int) (ss : List Sy) : (addS m n lp par ss).length ≤ ss.length + 1 := by unfold addS; split <;> simp
mutual
theorem visS_len (m : Int) : ∀ (n : Nd) (par : Int) (lp : Bool) (ss : List Sy), (visS m n par lp ss).length ≤ ss.length + n.size
 | .mk k v t s e n us, par, lp, ss => by
  rw [visS]
  have := visSs_len m us (parS (.mk k v t s e n us) lp par ss) (locM (.mk k v t s e n us) lp) (addS m (.mk k v t s e n us) lp par ss)
  have := addS_len m (.mk k v t s e n us) lp par ss
  rw [Nd.size]; omega
theorem visSs_len (m : Int) : ∀ (us : List Nd) (par : Int) (lp : Bool) (ss : List Sy), (visSs m us par lp ss).length ≤ ss.length + ndSizes us
 | [], par, lp, ss => by rw [visSs]; omega
 | u :: us, par, lp, ss => by
  rw [visSs, ndSizes]
  have := visS_len m u par lp ss
  have := visSs_len m us par lp (visS m u par lp ss)
  omega
end
theorem ndSizes_len : ∀ us : List Nd, us.length ≤ ndSizes us
 | [] => Nat.le_refl _
 | u :: us => by
  have := ndSizes_len us; have : 0 < u.size := by cases u; simp only [Nd.size]; omega
  rw [ndSizes, List.length_cons]; omega
def CS (ic it : Nat) (m : Int) (ss : List Sy) (H : Heap) : Prop := H[ic]? = some (.row [.int .i64 m, .slice (ss.map Sy.enc) (.tok it)]) ∧ H[it]? = some (.buf ss.length 6) ∧ ic ≠ it
theorem CS.app {ic it : Nat} {m : Int} {ss : List Sy} {H : Heap} (h : CS ic it m ss H) (L : Heap) : CS ic it m ss (H ++ L) := ⟨getL h.1 L, getL h.2.1 L, h.2.2⟩
def Vs (n : Nd) : Prop := ∀ (m par : Int) (lp : Bool) (ss : List Sy) (ic it : Nat) (H : Heap), ss.length + n.size ≤ lim → CS ic it m ss H →
 ACalls Tryz.prog 21 [.optr ic 0, n.enc, vint par, .bool lp] H fun r H' => r = .tup [] ∧ CS ic it m (visS m n par lp ss) H' ∧ Fr [ic, it] [ic, it] H H'
theorem visit_s {n : Nd} (ih : ∀ u ∈ n.kids, Vs u) : Vs n := by
 intro m par lp ss ic it H0 hlm hS
 obtain ⟨hC, hB, hne⟩ := id hS
 have lic := lG hC
 have lit := lG hB
 have qC := getL hC
 have qB := getL hB
 have nic : (ic = H0.length) = False := by simp; omega
 have nit : (it = H0.length) = False := by simp; omega
 have nib : ∀ k, (ic = H0.length + k) = False := fun k => by simp; omega
 have nitk : ∀ k, (it = H0.length + k) = False := fun k => by simp; omega
 have nci : (ic = it) = False := by simp [hne]
 have ncb : (it = ic) = False := by simp; exact fun h => hne h.symm
 have bic : (ic == H0.length) = false := by simp; omega
 have bit : (it == H0.length) = false := by simp; omega
 have bib : (ic == it) = false := by simp [hne]
 have bci : (it == ic) = false := by simp; exact fun h => hne h.symm
 rw [visS_eq]
 have hn0 : 0 < n.size := by cases n; simp only [Nd.size]; omega
 have hns : ss.length + 1 ≤ lim := by omega
 have hlm' : lim = 1099511627776 := rfl
 have hkl := ndSizes_len n.kids
 have hks : n.size = 1 + ndSizes n.kids := by cases n; simp only [Nd.size, Nd.kids]
 have hsz : (addS m n lp par ss).length + ndSizes (n.kids.drop 0) ≤ lim := by
  have h1 := addS_len m n lp par ss
  have h2 : n.size = 1 + ndSizes n.kids := by cases n; simp only [Nd.size, Nd.kids]
  rw [List.drop_zero]; omega
 have hap := app_Sy (us := ss) (u := symOf m n lp par) (id := it) (tl := .full) (by omega)
 simp only [symOf] at hap
 have qS : ∀ (L : Heap) (o : AObj), ((H0 ++ L).set it o)[ic]? = some (.row [.int .i64 m, .slice (ss.map Sy.enc) (.tok it)]) := fun L o => by rw [List.getElem?_set_ne (Ne.symm hne)]; exact qC L
 have hfr0 : Fr [ic, it] [ic, it] H0 (H0 ++ [.row [.int .i64 n.kind, .int .i64 n.value, .str n.text, .int .i64 n.st, .int .i64 n.en, .int .i64 n.ns, .slice (n.kids.map Nd.enc) .none]]) := (Fr.refl _ H0).app _
 refine aF (N := 85) Tryz.func21 rfl rfl (by simp) fun hb' => ?_
 repeat refine wS ?_
 refine eE (by simp only [kA, seval, y48, vint, NdS, NdF, qW, nitk, hC, hB, qC, qB, nic, nit, nib, nci, ncb, bic, bit, bib, bci] <;> with_reducible rfl) (by decide) ?_
 repeat refine wS ?_
 refine wR ?_
 refine eT 2 (by simp only [kA, seval, y48, vint, NdS, NdF, qW, nitk, hC, hB, qC, qB, nic, nit, nib, nci, ncb, bic, bit, bib, bci] <;> with_reducible rfl) (by decide) ?_
 refine oP (by simp only [kC, seval, vint, NdS, NdF, qW, nitk, hC, hB, qC, qB, nic, nit, nib, nci, ncb, bic, bit, bib, bci] <;> with_reducible rfl) (by simp only [kC, seval]) (by decide) Tryzgo39 (sym_c n lp) ?_
 refine e_end (by simp only [kA, seval, vint, NdS, NdF, qW, nitk, hC, hB, qC, qB, nic, nit, nib, nci, ncb, bic, bit, bib, bci] <;> with_reducible rfl) (by decide) ?_
 repeat refine wS ?_
 refine eE (by simp only [kA, seval, y3, vint, NdS, NdF, qW, nitk, hC, hB, qC, qB, nic, nit, nib, nci, ncb, bic, bit, bib, bci] <;> with_reducible rfl) (by decide) ?_
 repeat refine wS ?_
 refine wC rfl (by simp only [jN, seval, vint, NdS, NdF, qW, nitk, hC, hB, qC, qB, nic, nit, nib, nci, ncb, bic, bit, bib, bci] <;> with_reducible rfl) (fun bt17 => ?_) (fun bt17 => ?_)
 ·-- if t17
  have h0 : decide (symM n lp = 0) = false := by simpa using bt17
  repeat refine wS ?_
  refine awp_joinT (σ := Unit) (fun (s : Unit) => [(0, .optr ic 0), (2, vint par), (3, .bool lp), (5, .optr H0.length 0), (8, vint (symM n lp)), (9, .bool (pubM n))]) (fun (s : Unit) => (H0 ++ [.row [.int .i64 n.kind, .int .i64 n.value, .str n.text, .int .i64 n.st, .int .i64 n.en, .int .i64 n.ns, .slice (n.kids.map Nd.enc) .none]])) (fun (s : Unit) => True) ?_ ?_ ?_
  ·intro s hg
   exact ⟨by first | exact Nat.zero_le _ | (simp only [List.length_append]; omega), by first | exact hbel_nil _ | (simp only [List.append_nil]; assumption) | (refine hbel_app' hb' (by simp) ?_; repeat (first | exact hbel_nil _ | exact trivial | exact obel_row_nil _ | (refine HBel.cons ?_ ?_) | (refine obel_row_cons (by first | exact Md.bel _ _ | exact Dg.bel _ _ | exact bel_Md _ _ | exact bel_Dg _ _ | exact Tk.bel _ _ | exact St.bel _ _ | exact Nd.bel _ _ | exact bel_strs0 _ _ | exact bel_St _ _ | exact bel_ints0 _ _ | exact bel_Nd _ _ | exact bel_nil0 _ | exact bel_nil1 _ | exact Bel.optr _ _ (by first | (simp; done) | (simp; omega)) | exact Bel.int _ _ | exact Bel.bool _ | exact Bel.str _ | exact Bel.nilp | exact Bel.nilfn | exact Bel.optr _ _ (by simp) | exact bel_nil0 _ | exact bel_nil1 _ | exact bel_fn0 _ _ | assumption) ?_))), by repeat (first | exact BelL.nil | refine BelL.cons (by first | exact Md.bel _ _ | exact Dg.bel _ _ | exact bel_Md _ _ | exact bel_Dg _ _ | exact Tk.bel _ _ | exact St.bel _ _ | exact Nd.bel _ _ | exact bel_strs0 _ _ | exact bel_St _ _ | exact bel_ints0 _ _ | exact bel_Nd _ _ | exact bel_nil0 _ | exact bel_nil1 _ | exact Bel.optr _ _ (by first | (simp; done) | (simp; omega)) | exact Bel.int _ _ | exact Bel.bool _ | exact Bel.str _ | exact Bel.nilp | exact Bel.nilfn | exact Bel.optr _ _ (by simp) | exact bel_nil0 _ | exact bel_nil1 _ | exact bel_fn0 _ _ | assumption) ?_)⟩
  ·-- to the meeting
   rcases Bool.eq_false_or_eq_true (decide (n.kind ≤ 9)) with h9 | h9
   ·-- case
    have hpub : pubM n = !decide (andI n.value 1 = 0) := by unfold pubM; rw [h9]; rfl
    repeat refine wS ?_
    refine wR ?_
    refine eT 6 (by simp only [kA, seval, y3, y48, vint, NdS, NdF, qW, nitk, hC, hB, qC, qB, nic, nit, nib, nci, ncb, bic, bit, bib, bci, h9] <;> with_reducible rfl) (by decide) ?_
    refine aops_val (by simp only [kC, seval, vint, NdS, NdF, qW, h9]) (val_bits (op := .and) (m := n.value) (n := 1) (r := andI n.value 1) rfl (.inr ⟨rfl, rfl⟩) (by decide) (by decide) (by simp only [kC, seval, vint, NdS, NdF, qW, h9] <;> first | done | rfl) (by simp only [kC, seval, vint, NdS, NdF, qW, h9] <;> first | done | rfl)) ?_
    refine e_end (by simp only [kA, seval, y3, vint, NdS, NdF, qW, nitk, hC, hB, qC, qB, nic, nit, nib, nci, ncb, bic, bit, bib, bci, h9] <;> with_reducible rfl) (by decide) ?_
    exact ⟨(), [], ⟨rfl, rfl, rfl, rfl, rfl, (congrArg PV.bool hpub).symm, trivial⟩, (List.append_nil _).symm, trivial⟩
   ·-- case
    have hpub : pubM n = false := by unfold pubM; rw [h9]; rfl
    repeat refine wS ?_
    refine eE (by simp only [kA, seval, y3, y48, vint, NdS, NdF, qW, nitk, hC, hB, qC, qB, nic, nit, nib, nci, ncb, bic, bit, bib, bci, h9] <;> with_reducible rfl) (by decide) ?_
    exact ⟨(), [], ⟨rfl, rfl, rfl, rfl, rfl, (congrArg PV.bool hpub).symm, trivial⟩, (List.append_nil _).symm, trivial⟩
  ·intro s hg
   repeat refine wS ?_
   refine awp_draw 0 (by kernel_rfl) ?_
   refine d_take (bm := [0, 0, 2, 6, 14, 0, 0, 64, 192, 448, 0, 1024, 0, 0, 8192, 0, 65504, 131040, 262142, 524287, 1048575, 2097151]) 11 (fresh := (H0.length + 1)) (by kernel_rfl) (by simp only [jD, jO, jN, seval, y3, y28, y33, y48, y55, vint, NdS, NdF, qW, nitk, hC, hB, qC, qB, nic, nit, nib, nci, ncb, bic, bit, bib, bci, hap, qS] <;> with_reducible rfl) (by decide) (by decide) ?_
   refine dops_keep (bm := [0, 0, 2, 6, 14, 0, 0, 64, 192, 448, 0, 1024, 0, 0, 8192, 0, 65504, 131040, 262142, 524287, 1048575, 2097151]) ([]) (by kernel_rfl) (by simp only [kC, seval, vint, NdS, NdF, qW, nitk, hC, hB, qC, qB, nic, nit, nib, nci, ncb, bic, bit, bib, bci, hap, qS] <;> with_reducible rfl) (by simp only [kC, seval]) (by decide) Tryzgo40 (fun H' _ => dst_c n H') (by simp only [jD, jO, jN, seval, vint, NdS, NdF, qW, nitk, hC, hB, qC, qB, nic, nit, nib, nci, ncb, bic, bit, bib, bci, hap, qS] <;> first | done | rfl) ?_
   refine d_end (bm := [0, 0, 2, 6, 14, 0, 0, 64, 192, 448, 0, 1024, 0, 0, 8192, 0, 65504, 131040, 262142, 524287, 1048575, 2097151]) (fresh := (H0.length + 1)) (by kernel_rfl) (by simp only [jD, jO, jN, seval, y9, y28, y33, y48, y55, vint, NdS, NdF, qW, nitk, hC, hB, qC, qB, nic, nit, nib, nci, ncb, bic, bit, bib, bci, hap, qS] <;> with_reducible rfl) (by decide) ?_
   refine wL [0, 2, 3, 5, 8] (by simp only [jN, seval, vint, NdS, NdF, qW, nitk, hC, hB, qC, qB, nic, nit, nib, nci, ncb, bic, bit, bib, bci] <;> with_reducible rfl) ?_
   repeat refine wS ?_
   refine awp_abs (fun H2 => CS ic it m (addS m n lp par ss) H2 ∧ Fr [ic, it] [ic, it] H0 H2 ∧ H2[H0.length]? = some (.row [.int .i64 n.kind, .int .i64 n.value, .str n.text, .int .i64 n.st, .int .i64 n.en, .int .i64 n.ns, .slice (n.kids.map Nd.enc) .none])) ?_ ?_
   ·have hB2 : addS m n lp par ss = ss ++ [symOf m n lp par] := by unfold addS; rw [if_neg (by rw [h0]; simp)]
    rw [hB2]
    refine ⟨⟨?_, ?_, hne⟩, ⟨by simp, fun id h1 h2 => ?_, fun id h _ => h⟩, ?_⟩
    ·simp [List.getElem?_append_left, List.getElem?_set, lic, lit, hne, Ne.symm hne]; rfl
    ·simp [List.getElem?_append_left, List.getElem?_set, lic, lit, hne, Ne.symm hne]
    ·simp only [List.mem_cons, List.not_mem_nil, or_false, not_or] at h2
     simp [List.getElem?_append_left, List.getElem?_set, h1, lic, lit, Ne.symm h2.1, Ne.symm h2.2, Nat.lt_succ_of_lt h1, List.getElem_append_left]
    ·simp [List.getElem?_set, lic, lit, Nat.ne_of_lt lic, Nat.ne_of_lt lit]
   rintro H2 ⟨hS2, f2, hn2⟩
   obtain ⟨hC2, hB2, _⟩ := id hS2
   have haL : (addS m n lp par ss).length = ss.length + 1 := by unfold addS; rw [if_neg (by rw [h0]; simp)]; simp
   have gw : IntKind.i64.wrap (((ss.length + 1 : Nat) : Int) - 1) = (ss.length : Int) := by rw [wrap_id (by omega) (by omega)]; omega
   refine wR ?_
   refine eT 1 (by simp only [kA, seval, vint, NdS, NdF, qW, nitk, hC, hB, qC, qB, nic, nit, nib, nci, ncb, bic, bit, bib, bci] <;> with_reducible rfl) (by decide) ?_
   refine oP (by simp only [kC, seval, vint, NdS, NdF, qW, nitk, hC, hB, qC, qB, nic, nit, nib, nci, ncb, bic, bit, bib, bci] <;> with_reducible rfl) (by simp only [kC, seval]) (by decide) Tryzgo41 (cont_c (symM n lp) _) ?_
   refine oN ?_
   repeat refine wS ?_
   refine wC rfl (by simp only [jN, seval, vint, NdS, NdF, qW, nitk, hC, hB, qC, qB, nic, nit, nib, nci, ncb, bic, bit, bib, bci] <;> with_reducible rfl) (fun bt49 => ?_) (fun bt49 => ?_)
   ·-- if t49
    have hk : contM (symM n lp) = true := bt49
    repeat refine wS ?_
    refine eE (by simp only [kA, seval, y3, y28, y33, y55, vint, NdS, NdF, qW, nitk, hC, hB, qC, qB, nic, nit, nib, nci, ncb, bic, bit, bib, bci, hC2, haL, gw, List.length_map] <;> with_reducible rfl) (by decide) ?_
    repeat refine wS ?_
    have hpar : parS n lp par ss = (ss.length : Int) := by unfold parS; rw [if_neg (by rw [h0]; simp), if_pos hk]
    rw [hpar]
    refine g_eval (by simp only [jG, jO, jN, seval, y3, y48, vint, NdS, NdF, qW, nitk, hC, hB, qC, qB, nic, nit, nib, nci, ncb, bic, bit, bib, bci, hn2] <;> with_reducible rfl) (by decide) (by repeat (first | exact Fin.base _ | with_reducible apply Fin.keep | apply Fin.drop)) ?_
    refine wL [0, 2, 5, 10] (by simp only [jN, seval, vint, NdS, NdF, qW, nitk, hC, hB, qC, qB, nic, nit, nib, nci, ncb, bic, bit, bib, bci] <;> with_reducible rfl) ?_
    repeat refine wS ?_
    refine eE (by simp only [kA, seval, y40, y48, vint, NdS, NdF, qW, nitk, hC, hB, qC, qB, nic, nit, nib, nci, ncb, bic, bit, bib, bci, hn2] <;> with_reducible rfl) (by decide) ?_
    repeat refine wS ?_
    refine awp_block ?_
    refine awp_loopX (σ := Nat × List Sy) (fun (z : Nat × List Sy) => [(0, .optr ic 0), (73, .slice (n.kids.map Nd.enc) .none), (74, vint (n.kids.length : Int)), (75, vint (z.1 : Int)), (2, vint (ss.length : Int)), (10, .bool (locM n lp))]) (fun (z : Nat × List Sy) =>  fun H1 => z.1 ≤ n.kids.length ∧ z.2.length + ndSizes (n.kids.drop z.1) ≤ lim ∧ visSs m (n.kids.drop z.1) ((ss.length : Int)) (locM n lp) z.2 = visSs m n.kids ((ss.length : Int)) (locM n lp) (addS m n lp par ss) ∧ CS ic it m z.2 H1 ∧ Fr [ic, it] [ic, it] H0 H1) (fun (z : Nat × List Sy) => n.kids.length - z.1) ((0, addS m n lp par ss)) ⟨(by first | rfl | (simp only [jN, seval, vint, NdS, NdF, qW, nitk, hC, hB, qC, qB, nic, nit, nib, nci, ncb, bic, bit, bib, bci] <;> first | done | with_reducible rfl)), (by first | rfl | (simp only [jN, seval, vint, NdS, NdF, qW, nitk, hC, hB, qC, qB, nic, nit, nib, nci, ncb, bic, bit, bib, bci] <;> first | done | with_reducible rfl)), (by first | rfl | (simp only [jN, seval, vint, NdS, NdF, qW, nitk, hC, hB, qC, qB, nic, nit, nib, nci, ncb, bic, bit, bib, bci] <;> first | done | with_reducible rfl)), (by first | rfl | (simp only [jN, seval, vint, NdS, NdF, qW, nitk, hC, hB, qC, qB, nic, nit, nib, nci, ncb, bic, bit, bib, bci] <;> first | done | with_reducible rfl)), (by first | rfl | (simp only [jN, seval, vint, NdS, NdF, qW, nitk, hC, hB, qC, qB, nic, nit, nib, nci, ncb, bic, bit, bib, bci] <;> first | done | with_reducible rfl)), (by first | rfl | (simp only [jN, seval, vint, NdS, NdF, qW, nitk, hC, hB, qC, qB, nic, nit, nib, nci, ncb, bic, bit, bib, bci] <;> first | done | with_reducible rfl)), trivial⟩ (⟨Nat.zero_le _, hsz, rfl, hS2, f2⟩) ?_
    intro z H1 hg
    obtain ⟨j, sj⟩ := z
    obtain ⟨hj, hlj, hmj, hSj, fj⟩ := hg
    simp only at hj hlj hmj hSj fj
    rcases Nat.lt_or_ge j n.kids.length with hi | hi
    ·-- case
     have gi := ix_nat hi
     have ge := get_enc Nd.enc hi
     have gl : decide ((j : Int) < (n.kids.length : Int)) = true := decide_eq_true (by omega)
     have gwj : IntKind.i64.wrap ((j : Int) + 1) = ((j + 1 : Nat) : Int) := by rw [wrap_id (by omega) (by omega)]; omega
     rw [List.drop_eq_getElem_cons hi, visSs] at hmj
     rw [List.drop_eq_getElem_cons hi, ndSizes] at hlj
     have hvl := visS_len m n.kids[j] ((ss.length : Int)) (locM n lp) sj
     repeat refine wS ?_
     refine eE (by simp only [kA, seval, y3, vint, NdS, NdF, qW, nitk, hC, hB, qC, qB, nic, nit, nib, nci, ncb, bic, bit, bib, bci, gi, ge, gl, gwj, tN, Nd.enc_len] <;> with_reducible rfl) (by decide) ?_
     repeat refine wS ?_
     refine awp_cond_true rfl (by simp only [jN, seval, vint, NdS, NdF, qW, nitk, hC, hB, qC, qB, nic, nit, nib, nci, ncb, bic, bit, bib, bci, gi, ge, gl, gwj, tN, Nd.enc_len] <;> with_reducible rfl) ?_
     repeat refine wS ?_
     refine wK ?_
     repeat refine wS ?_
     refine awp_block ?_
     repeat refine wS ?_
     refine eE (by simp only [kA, seval, y40, y48, vint, NdS, NdF, qW, nitk, hC, hB, qC, qB, nic, nit, nib, nci, ncb, bic, bit, bib, bci, gi, ge, gl, gwj, tN, Nd.enc_len] <;> with_reducible rfl) (by decide) ?_
     repeat refine wS ?_
     refine wR ?_
     refine eT 4 (by simp only [kA, seval, y48, vint, NdS, NdF, qW, nitk, hC, hB, qC, qB, nic, nit, nib, nci, ncb, bic, bit, bib, bci, gi, ge, gl, gwj, tN, Nd.enc_len] <;> with_reducible rfl) (by decide) ?_
     refine oC (by simp only [kC, seval, vint, NdS, NdF, qW, nitk, hC, hB, qC, qB, nic, nit, nib, nci, ncb, bic, bit, bib, bci, gi, ge, gl, gwj, tN, Nd.enc_len] <;> with_reducible rfl) (by simp only [kC, seval]) (by decide) Tryzgo21 (ih n.kids[j] (List.getElem_mem hi) m ((ss.length : Int)) (locM n lp) sj ic it _ (by omega) (hSj.app _)) ?_
     rintro _ H2 ⟨rfl, hSk, fk⟩
     refine oN ?_
     repeat refine wS ?_
     refine eE (by simp only [kA, seval, y3, vint, NdS, NdF, qW, nitk, hC, hB, qC, qB, nic, nit, nib, nci, ncb, bic, bit, bib, bci, gi, ge, gl, gwj, tN, Nd.enc_len] <;> with_reducible rfl) (by decide) ?_
     try simp only [thenQ, blockQ]
     exact ⟨(j + 1, _), by show n.kids.length - (j + 1) < n.kids.length - j; omega, ⟨rfl, rfl, rfl, rfl, rfl, rfl, trivial⟩, hi, by show (visS m n.kids[j] ((ss.length : Int)) (locM n lp) sj).length + ndSizes (n.kids.drop (j + 1)) ≤ lim; omega, hmj, hSk, fj.step fk⟩
    ·-- case
     have gl : decide ((j : Int) < (n.kids.length : Int)) = false := decide_eq_false (by omega)
     rw [List.drop_eq_nil_of_le hi, visSs] at hmj
     repeat refine wS ?_
     refine eE (by simp only [kA, seval, y3, vint, NdS, NdF, qW, nitk, hC, hB, qC, qB, nic, nit, nib, nci, ncb, bic, bit, bib, bci, gl] <;> with_reducible rfl) (by decide) ?_
     repeat refine wS ?_
     refine wF rfl (by simp only [jN, seval, vint, NdS, NdF, qW, nitk, hC, hB, qC, qB, nic, nit, nib, nci, ncb, bic, bit, bib, bci, gl] <;> with_reducible rfl) ?_
     repeat refine wS ?_
     refine awp_exit ?_
     simp only [thenQ, blockQ, reduceIte, Nat.reduceEqDiff, Nat.succ_ne_self, if_true, if_false]
     refine ⟨(by first | exact .inl rfl | exact .inl trivial | trivial), _, rfl, ?_⟩
     exact ⟨rfl, by rw [← hmj]; exact hSj, fj⟩
   ·-- else t49
    have hk : contM (symM n lp) = false := bt49
    repeat refine wS ?_
    refine wK ?_
    repeat refine wS ?_
    have hpar : parS n lp par ss = par := by unfold parS; rw [if_neg (by rw [h0]; simp), if_neg (by rw [hk]; simp)]
    rw [hpar]
    refine g_eval (by simp only [jG, jO, jN, seval, y3, y48, vint, NdS, NdF, qW, nitk, hC, hB, qC, qB, nic, nit, nib, nci, ncb, bic, bit, bib, bci, hn2] <;> with_reducible rfl) (by decide) (by repeat (first | exact Fin.base _ | with_reducible apply Fin.keep | apply Fin.drop)) ?_
    refine wL [0, 2, 5, 10] (by simp only [jN, seval, vint, NdS, NdF, qW, nitk, hC, hB, qC, qB, nic, nit, nib, nci, ncb, bic, bit, bib, bci] <;> with_reducible rfl) ?_
    repeat refine wS ?_
    refine eE (by simp only [kA, seval, y40, y48, vint, NdS, NdF, qW, nitk, hC, hB, qC, qB, nic, nit, nib, nci, ncb, bic, bit, bib, bci, hn2] <;> with_reducible rfl) (by decide) ?_
    repeat refine wS ?_
    refine awp_block ?_
    refine awp_loopX (σ := Nat × List Sy) (fun (z : Nat × List Sy) => [(0, .optr ic 0), (73, .slice (n.kids.map Nd.enc) .none), (74, vint (n.kids.length : Int)), (75, vint (z.1 : Int)), (2, vint par), (10, .bool (locM n lp))]) (fun (z : Nat × List Sy) =>  fun H1 => z.1 ≤ n.kids.length ∧ z.2.length + ndSizes (n.kids.drop z.1) ≤ lim ∧ visSs m (n.kids.drop z.1) (par) (locM n lp) z.2 = visSs m n.kids (par) (locM n lp) (addS m n lp par ss) ∧ CS ic it m z.2 H1 ∧ Fr [ic, it] [ic, it] H0 H1) (fun (z : Nat × List Sy) => n.kids.length - z.1) ((0, addS m n lp par ss)) ⟨(by first | rfl | (simp only [jN, seval, vint, NdS, NdF, qW, nitk, hC, hB, qC, qB, nic, nit, nib, nci, ncb, bic, bit, bib, bci] <;> first | done | with_reducible rfl)), (by first | rfl | (simp only [jN, seval, vint, NdS, NdF, qW, nitk, hC, hB, qC, qB, nic, nit, nib, nci, ncb, bic, bit, bib, bci] <;> first | done | with_reducible rfl)), (by first | rfl | (simp only [jN, seval, vint, NdS, NdF, qW, nitk, hC, hB, qC, qB, nic, nit, nib, nci, ncb, bic, bit, bib, bci] <;> first | done | with_reducible rfl)), (by first | rfl | (simp only [jN, seval, vint, NdS, NdF, qW, nitk, hC, hB, qC, qB, nic, nit, nib, nci, ncb, bic, bit, bib, bci] <;> first | done | with_reducible rfl)), (by first | rfl | (simp only [jN, seval, vint, NdS, NdF, qW, nitk, hC, hB, qC, qB, nic, nit, nib, nci, ncb, bic, bit, bib, bci] <;> first | done | with_reducible rfl)), (by first | rfl | (simp only [jN, seval, vint, NdS, NdF, qW, nitk, hC, hB, qC, qB, nic, nit, nib, nci, ncb, bic, bit, bib, bci] <;> first | done | with_reducible rfl)), trivial⟩ (⟨Nat.zero_le _, hsz, rfl, hS2, f2⟩) ?_
    intro z H1 hg
    obtain ⟨j, sj⟩ := z
    obtain ⟨hj, hlj, hmj, hSj, fj⟩ := hg
    simp only at hj hlj hmj hSj fj
    rcases Nat.lt_or_ge j n.kids.length with hi | hi
    ·-- case
     have gi := ix_nat hi
     have ge := get_enc Nd.enc hi
     have gl : decide ((j : Int) < (n.kids.length : Int)) = true := decide_eq_true (by omega)
     have gwj : IntKind.i64.wrap ((j : Int) + 1) = ((j + 1 : Nat) : Int) := by rw [wrap_id (by omega) (by omega)]; omega
     rw [List.drop_eq_getElem_cons hi, visSs] at hmj
     rw [List.drop_eq_getElem_cons hi, ndSizes] at hlj
     have hvl := visS_len m n.kids[j] (par) (locM n lp) sj
     repeat refine wS ?_
     refine eE (by simp only [kA, seval, y3, vint, NdS, NdF, qW, nitk, hC, hB, qC, qB, nic, nit, nib, nci, ncb, bic, bit, bib, bci, gi, ge, gl, gwj, tN, Nd.enc_len] <;> with_reducible rfl) (by decide) ?_
     repeat refine wS ?_
     refine awp_cond_true rfl (by simp only [jN, seval, vint, NdS, NdF, qW, nitk, hC, hB, qC, qB, nic, nit, nib, nci, ncb, bic, bit, bib, bci, gi, ge, gl, gwj, tN, Nd.enc_len] <;> with_reducible rfl) ?_
     repeat refine wS ?_
     refine wK ?_
     repeat refine wS ?_
     refine awp_block ?_
     repeat refine wS ?_
     refine eE (by simp only [kA, seval, y40, y48, vint, NdS, NdF, qW, nitk, hC, hB, qC, qB, nic, nit, nib, nci, ncb, bic, bit, bib, bci, gi, ge, gl, gwj, tN, Nd.enc_len] <;> with_reducible rfl) (by decide) ?_
     repeat refine wS ?_
     refine wR ?_
     refine eT 4 (by simp only [kA, seval, y48, vint, NdS, NdF, qW, nitk, hC, hB, qC, qB, nic, nit, nib, nci, ncb, bic, bit, bib, bci, gi, ge, gl, gwj, tN, Nd.enc_len] <;> with_reducible rfl) (by decide) ?_
     refine oC (by simp only [kC, seval, vint, NdS, NdF, qW, nitk, hC, hB, qC, qB, nic, nit, nib, nci, ncb, bic, bit, bib, bci, gi, ge, gl, gwj, tN, Nd.enc_len] <;> with_reducible rfl) (by simp only [kC, seval]) (by decide) Tryzgo21 (ih n.kids[j] (List.getElem_mem hi) m (par) (locM n lp) sj ic it _ (by omega) (hSj.app _)) ?_
     rintro _ H2 ⟨rfl, hSk, fk⟩
     refine oN ?_
     repeat refine wS ?_
     refine eE (by simp only [kA, seval, y3, vint, NdS, NdF, qW, nitk, hC, hB, qC, qB, nic, nit, nib, nci, ncb, bic, bit, bib, bci, gi, ge, gl, gwj, tN, Nd.enc_len] <;> with_reducible rfl) (by decide) ?_
     try simp only [thenQ, blockQ]
     exact ⟨(j + 1, _), by show n.kids.length - (j + 1) < n.kids.length - j; omega, ⟨rfl, rfl, rfl, rfl, rfl, rfl, trivial⟩, hi, by show (visS m n.kids[j] (par) (locM n lp) sj).length + ndSizes (n.kids.drop (j + 1)) ≤ lim; omega, hmj, hSk, fj.step fk⟩
    ·-- case
     have gl : decide ((j : Int) < (n.kids.length : Int)) = false := decide_eq_false (by omega)
     rw [List.drop_eq_nil_of_le hi, visSs] at hmj
     repeat refine wS ?_
     refine eE (by simp only [kA, seval, y3, vint, NdS, NdF, qW, nitk, hC, hB, qC, qB, nic, nit, nib, nci, ncb, bic, bit, bib, bci, gl] <;> with_reducible rfl) (by decide) ?_
     repeat refine wS ?_
     refine wF rfl (by simp only [jN, seval, vint, NdS, NdF, qW, nitk, hC, hB, qC, qB, nic, nit, nib, nci, ncb, bic, bit, bib, bci, gl] <;> with_reducible rfl) ?_
     repeat refine wS ?_
     refine awp_exit ?_
     simp only [thenQ, blockQ, reduceIte, Nat.reduceEqDiff, Nat.succ_ne_self, if_true, if_false]
     refine ⟨(by first | exact .inl rfl | exact .inl trivial | trivial), _, rfl, ?_⟩
     exact ⟨rfl, by rw [← hmj]; exact hSj, fj⟩
 ·-- else t17
  have h0 : decide (symM n lp = 0) = true := by simpa using bt17
  repeat refine wS ?_
  refine wK ?_
  repeat refine wS ?_
  have hpar : parS n lp par ss = par := by unfold parS; rw [if_pos h0]
  rw [hpar]
  refine awp_abs (fun H2 => CS ic it m (addS m n lp par ss) H2 ∧ Fr [ic, it] [ic, it] H0 H2 ∧ H2[H0.length]? = some (.row [.int .i64 n.kind, .int .i64 n.value, .str n.text, .int .i64 n.st, .int .i64 n.en, .int .i64 n.ns, .slice (n.kids.map Nd.enc) .none])) ?_ ?_
  ·exact ⟨by rw [show addS m n lp par ss = ss by unfold addS; rw [if_pos h0]]; exact hS.app _, hfr0, by simp⟩
  rintro H2 ⟨hS2, f2, hn2⟩
  refine g_eval (by simp only [jG, jO, jN, seval, y3, y48, vint, NdS, NdF, qW, nitk, hC, hB, qC, qB, nic, nit, nib, nci, ncb, bic, bit, bib, bci, hn2] <;> with_reducible rfl) (by decide) (by repeat (first | exact Fin.base _ | with_reducible apply Fin.keep | apply Fin.drop)) ?_
  refine wL [0, 2, 5, 10] (by simp only [jN, seval, vint, NdS, NdF, qW, nitk, hC, hB, qC, qB, nic, nit, nib, nci, ncb, bic, bit, bib, bci] <;> with_reducible rfl) ?_
  repeat refine wS ?_
  refine eE (by simp only [kA, seval, y40, y48, vint, NdS, NdF, qW, nitk, hC, hB, qC, qB, nic, nit, nib, nci, ncb, bic, bit, bib, bci, hn2] <;> with_reducible rfl) (by decide) ?_
  repeat refine wS ?_
  refine awp_block ?_
  refine awp_loopX (σ := Nat × List Sy) (fun (z : Nat × List Sy) => [(0, .optr ic 0), (73, .slice (n.kids.map Nd.enc) .none), (74, vint (n.kids.length : Int)), (75, vint (z.1 : Int)), (2, vint par), (10, .bool (locM n lp))]) (fun (z : Nat × List Sy) =>  fun H1 => z.1 ≤ n.kids.length ∧ z.2.length + ndSizes (n.kids.drop z.1) ≤ lim ∧ visSs m (n.kids.drop z.1) (par) (locM n lp) z.2 = visSs m n.kids (par) (locM n lp) (addS m n lp par ss) ∧ CS ic it m z.2 H1 ∧ Fr [ic, it] [ic, it] H0 H1) (fun (z : Nat × List Sy) => n.kids.length - z.1) ((0, addS m n lp par ss)) ⟨(by first | rfl | (simp only [jN, seval, vint, NdS, NdF, qW, nitk, hC, hB, qC, qB, nic, nit, nib, nci, ncb, bic, bit, bib, bci] <;> first | done | with_reducible rfl)), (by first | rfl | (simp only [jN, seval, vint, NdS, NdF, qW, nitk, hC, hB, qC, qB, nic, nit, nib, nci, ncb, bic, bit, bib, bci] <;> first | done | with_reducible rfl)), (by first | rfl | (simp only [jN, seval, vint, NdS, NdF, qW, nitk, hC, hB, qC, qB, nic, nit, nib, nci, ncb, bic, bit, bib, bci] <;> first | done | with_reducible rfl)), (by first | rfl | (simp only [jN, seval, vint, NdS, NdF, qW, nitk, hC, hB, qC, qB, nic, nit, nib, nci, ncb, bic, bit, bib, bci] <;> first | done | with_reducible rfl)), (by first | rfl | (simp only [jN, seval, vint, NdS, NdF, qW, nitk, hC, hB, qC, qB, nic, nit, nib, nci, ncb, bic, bit, bib, bci] <;> first | done | with_reducible rfl)), (by first | rfl | (simp only [jN, seval, vint, NdS, NdF, qW, nitk, hC, hB, qC, qB, nic, nit, nib, nci, ncb, bic, bit, bib, bci] <;> first | done | with_reducible rfl)), trivial⟩ (⟨Nat.zero_le _, hsz, rfl, hS2, f2⟩) ?_
  intro z H1 hg
  obtain ⟨j, sj⟩ := z
  obtain ⟨hj, hlj, hmj, hSj, fj⟩ := hg
  simp only at hj hlj hmj hSj fj
  rcases Nat.lt_or_ge j n.kids.length with hi | hi
  ·-- case
   have gi := ix_nat hi
   have ge := get_enc Nd.enc hi
   have gl : decide ((j : Int) < (n.kids.length : Int)) = true := decide_eq_true (by omega)
   have gwj : IntKind.i64.wrap ((j : Int) + 1) = ((j + 1 : Nat) : Int) := by rw [wrap_id (by omega) (by omega)]; omega
   rw [List.drop_eq_getElem_cons hi, visSs] at hmj
   rw [List.drop_eq_getElem_cons hi, ndSizes] at hlj
   have hvl := visS_len m n.kids[j] (par) (locM n lp) sj
   repeat refine wS ?_
   refine eE (by simp only [kA, seval, y3, vint, NdS, NdF, qW, nitk, hC, hB, qC, qB, nic, nit, nib, nci, ncb, bic, bit, bib, bci, gi, ge, gl, gwj, tN, Nd.enc_len] <;> with_reducible rfl) (by decide) ?_
   repeat refine wS ?_
   refine awp_cond_true rfl (by simp only [jN, seval, vint, NdS, NdF, qW, nitk, hC, hB, qC, qB, nic, nit, nib, nci, ncb, bic, bit, bib, bci, gi, ge, gl, gwj, tN, Nd.enc_len] <;> with_reducible rfl) ?_
   repeat refine wS ?_
   refine wK ?_
   repeat refine wS ?_
   refine awp_block ?_
   repeat refine wS ?_
   refine eE (by simp only [kA, seval, y40, y48, vint, NdS, NdF, qW, nitk, hC, hB, qC, qB, nic, nit, nib, nci, ncb, bic, bit, bib, bci, gi, ge, gl, gwj, tN, Nd.enc_len] <;> with_reducible rfl) (by decide) ?_
   repeat refine wS ?_
   refine wR ?_
   refine eT 4 (by simp only [kA, seval, y48, vint, NdS, NdF, qW, nitk, hC, hB, qC, qB, nic, nit, nib, nci, ncb, bic, bit, bib, bci, gi, ge, gl, gwj, tN, Nd.enc_len] <;> with_reducible rfl) (by decide) ?_
   refine oC (by simp only [kC, seval, vint, NdS, NdF, qW, nitk, hC, hB, qC, qB, nic, nit, nib, nci, ncb, bic, bit, bib, bci, gi, ge, gl, gwj, tN, Nd.enc_len] <;> with_reducible rfl) (by simp only [kC, seval]) (by decide) Tryzgo21 (ih n.kids[j] (List.getElem_mem hi) m (par) (locM n lp) sj ic it _ (by omega) (hSj.app _)) ?_
   rintro _ H2 ⟨rfl, hSk, fk⟩
   refine oN ?_
   repeat refine wS ?_
   refine eE (by simp only [kA, seval, y3, vint, NdS, NdF, qW, nitk, hC, hB, qC, qB, nic, nit, nib, nci, ncb, bic, bit, bib, bci, gi, ge, gl, gwj, tN, Nd.enc_len] <;> with_reducible rfl) (by decide) ?_
   try simp only [thenQ, blockQ]
   exact ⟨(j + 1, _), by show n.kids.length - (j + 1) < n.kids.length - j; omega, ⟨rfl, rfl, rfl, rfl, rfl, rfl, trivial⟩, hi, by show (visS m n.kids[j] (par) (locM n lp) sj).length + ndSizes (n.kids.drop (j + 1)) ≤ lim; omega, hmj, hSk, fj.step fk⟩
  ·-- case
   have gl : decide ((j : Int) < (n.kids.length : Int)) = false := decide_eq_false (by omega)
   rw [List.drop_eq_nil_of_le hi, visSs] at hmj
   repeat refine wS ?_
   refine eE (by simp only [kA, seval, y3, vint, NdS, NdF, qW, nitk, hC, hB, qC, qB, nic, nit, nib, nci, ncb, bic, bit, bib, bci, gl] <;> with_reducible rfl) (by decide) ?_
   repeat refine wS ?_
   refine wF rfl (by simp only [jN, seval, vint, NdS, NdF, qW, nitk, hC, hB, qC, qB, nic, nit, nib, nci, ncb, bic, bit, bib, bci, gl] <;> with_reducible rfl) ?_
   repeat refine wS ?_
   refine awp_exit ?_
   simp only [thenQ, blockQ, reduceIte, Nat.reduceEqDiff, Nat.succ_ne_self, if_true, if_false]
   refine ⟨(by first | exact .inl rfl | exact .inl trivial | trivial), _, rfl, ?_⟩
   exact ⟨rfl, by rw [← hmj]; exact hSj, fj⟩
theorem visit_a : ∀ (k : Nat) (n : Nd), n.size ≤ k → Vs n
 | 0, n, h => by cases n; simp [Nd.size] at h
 | k + 1, n, h => visit_s fun u hu => visit_a k u (by have := Nd.size_kid hu; omega)
end Go.Abs
