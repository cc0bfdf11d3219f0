/- Part 6 of a proof of the law WorkspaceReference: Go data as trees, the walks of the functions that the law reaches, the plain laws. -/
import Derived.Test.YtciigdplioadeaaGreatDoorGEWorkspaceReference
set_option linter.unusedVariables false
set_option linter.unusedSimpArgs false
set_option maxRecDepth 4000
namespace Go.Abs
open Go.Proofs
def m100 (toks : List Tk) (n : Nat) (R : Rec) (b : Bool) (s0 : PS) : Option PS := ((expectIdentM toks) s0).bind fun s1 => ((R .typeParams) s1).bind fun s2 => ((expectM toks [40]) s2).bind fun s3 => ((R (.params ([41]))) s3).bind fun s4 => ((optionalM toks ([45, 62]) (R .typeExpr)) s4).bind fun s5 => if b = true then (((R .block) s5).bind fun s6 => some s6) else (((acceptM toks [[59]]) s5).bind fun s6 => if atT (peekT toks s5.pos) [[59]] = true then (((missM 0) s6).bind fun s7 => some s7) else (((R .block) s6).bind fun s7 => some s7))
theorem m100_w {toks : List Tk} {ip n : Nat} {R : Rec} (IH : IHs toks ip R) (b : Bool) : FG toks ip 96 [.optr ip 0, .bool b] (m100 toks n R b) (frv (.function b)) := by
 intro s0 s' F0 H0 hm p0 i0
 obtain ⟨⟨hg, n0a⟩, _⟩ := i0
 obtain ⟨st0, r0⟩ := p0.row
 have q0 := getL r0
 have hl := lim_le p0.len
 have f0 := Fr.refl F0 H0
 have k0a := hg
 have b0a := getL k0a
 unfold m100 at hm
 refine aF (N := 27) Tryz.func96 rfl rfl (by simp) fun hb' => ?_
 repeat refine wS ?_
 refine wR ?_
 refine eT 1 (by simp only [kA, seval, vint, qC, r0, q0, k0a, b0a] <;> with_reducible rfl) (by decide) ?_
 obtain ⟨s1, e1, hm⟩ := oB hm
 refine oC (by simp only [kC, seval, vint, qC, r0, q0, k0a, b0a] <;> with_reducible rfl) (by simp only [kC, seval]) (by decide) Tryzgo98 (by exact FN.ap0 (expectIdent_c toks ip) e1 p0) ?_
 rintro _ H1 ⟨rfl, F1, p1, g1⟩
 have f1 : Fr F0 F1 H0 H1 := f0.trans g1
 obtain ⟨st1, r1⟩ := p1.row
 have q1 := getL r1
 obtain ⟨k1a, n1a⟩ := g1.get k0a n0a
 have b1a := getL k1a
 refine oN ?_
 repeat refine wS ?_
 refine wR ?_
 refine eT 1 (by simp only [kA, seval, vint, qC, r1, q1, k1a, b1a] <;> with_reducible rfl) (by decide) ?_
 obtain ⟨s2, e2, hm⟩ := oB hm
 refine oC (by simp only [kC, seval, vint, qC, r1, q1, k1a, b1a] <;> with_reducible rfl) (by simp only [kC, seval]) (by decide) Tryzgo118 (by exact FG.ap0 (IH .typeParams) e2 p1 ⟨k1a, n1a⟩) ?_
 rintro _ H2 ⟨rfl, F2, p2, g2⟩
 have f2 : Fr F0 F2 H0 H2 := f1.trans g2
 obtain ⟨st2, r2⟩ := p2.row
 have q2 := getL r2
 obtain ⟨k2a, n2a⟩ := g2.get k1a n1a
 have b2a := getL k2a
 refine oN ?_
 repeat refine wS ?_
 refine wR ?_
 refine eT 1 (by simp only [kA, seval, vint, qC, r2, q2, k2a, b2a] <;> with_reducible rfl) (by decide) ?_
 obtain ⟨s3, e3, hm⟩ := oB hm
 refine oC (by simp only [kC, seval, vint, qC, r2, q2, k2a, b2a] <;> with_reducible rfl) (by simp only [kC, seval]) (by decide) Tryzgo101 (by exact FN.ap0 (expect_c toks ip [40]) e3 p2) ?_
 rintro _ H3 ⟨rfl, F3, p3, g3⟩
 have f3 : Fr F0 F3 H0 H3 := f2.trans g3
 obtain ⟨st3, r3⟩ := p3.row
 have q3 := getL r3
 obtain ⟨k3a, n3a⟩ := g3.get k2a n2a
 have b3a := getL k3a
 refine oN ?_
 repeat refine wS ?_
 refine wR ?_
 refine eT 1 (by simp only [kA, seval, vint, qC, r3, q3, k3a, b3a] <;> with_reducible rfl) (by decide) ?_
 obtain ⟨s4, e4, hm⟩ := oB hm
 refine oC (by simp only [kC, seval, vint, qC, r3, q3, k3a, b3a] <;> with_reducible rfl) (by simp only [kC, seval]) (by decide) Tryzgo104 (by exact FG.ap0 (IH (.params ([41]))) e4 p3 ⟨k3a, n3a⟩) ?_
 rintro _ H4 ⟨rfl, F4, p4, g4⟩
 have f4 : Fr F0 F4 H0 H4 := f3.trans g4
 obtain ⟨st4, r4⟩ := p4.row
 have q4 := getL r4
 obtain ⟨k4a, n4a⟩ := g4.get k3a n3a
 have b4a := getL k4a
 refine oN ?_
 repeat refine wS ?_
 refine wR ?_
 refine eT 3 (by simp only [kA, seval, vint, qC, r4, q4, k4a, b4a] <;> with_reducible rfl) (by decide) ?_
 obtain ⟨s5, e5, hm⟩ := oB hm
 refine oC (by simp only [kC, seval, vint, qC, r4, q4, k4a, b4a] <;> with_reducible rfl) (by simp only [kC, seval]) (by decide) Tryzgo119 (by exact FC.ap0 (optional_c toks ip ([45, 62]) 102 [.optr ip 0] [] Tryzgo102 (stbL [(0, gO)]) (FG.fc (IH .typeExpr))) e5 p4 ⟨⟨k4a, n4a⟩, trivial⟩) ?_
 rintro _ H5 ⟨rfl, F5, p5, g5⟩
 have f5 : Fr F0 F5 H0 H5 := f4.trans g5
 obtain ⟨st5, r5⟩ := p5.row
 have q5 := getL r5
 obtain ⟨k5a, n5a⟩ := g5.get k4a n4a
 have b5a := getL k5a
 refine oN ?_
 rcases Bool.eq_false_or_eq_true (b) with hd5 | hd5
 ·-- case
  rw [ifT hd5] at hm
  repeat refine wS ?_
  refine eE (by simp only [kA, seval, y9, y56, vint, qC, r5, q5, k5a, b5a, hd5] <;> with_reducible rfl) (by decide) ?_
  repeat refine wS ?_
  refine wF rfl (by simp only [jN, seval, vint, qC, r5, q5, k5a, b5a, hd5] <;> with_reducible rfl) ?_
  repeat refine wS ?_
  refine wK ?_
  refine wL [0] (by simp only [jN, seval, vint, qC, r5, q5, k5a, b5a, hd5] <;> with_reducible rfl) ?_
  repeat refine wS ?_
  refine wR ?_
  refine eT 1 (by simp only [kA, seval, vint, qC, r5, q5, k5a, b5a, hd5] <;> with_reducible rfl) (by decide) ?_
  obtain ⟨s6, e6, hm⟩ := oB hm
  refine oC (by simp only [kC, seval, vint, qC, r5, q5, k5a, b5a, hd5] <;> with_reducible rfl) (by simp only [kC, seval]) (by decide) Tryzgo121 (by exact FG.ap0 (IH .block) e6 p5 ⟨k5a, n5a⟩) ?_
  rintro _ H6 ⟨rfl, F6, p6, g6⟩
  have f6 : Fr F0 F6 H0 H6 := f5.trans g6
  obtain ⟨st6, r6⟩ := p6.row
  have q6 := getL r6
  obtain ⟨k6a, n6a⟩ := g6.get k5a n5a
  have b6a := getL k6a
  refine oN ?_
  refine ⟨.inl rfl, _, rfl, ?_⟩
  injection hm with hm
  subst hm
  exact ⟨rfl, F6, p6, f6⟩
 ·-- case
  rw [ifF hd5] at hm
  repeat refine wS ?_
  refine wR ?_
  refine eT 5 (by simp only [kA, seval, y9, y56, vint, qC, r5, q5, k5a, b5a, hd5] <;> with_reducible rfl) (by decide) ?_
  obtain ⟨s6, e6, hm⟩ := oB hm
  refine oC (by simp only [kC, seval, vint, qC, r5, q5, k5a, b5a, hd5] <;> with_reducible rfl) (by simp only [kC, seval]) (by decide) Tryzgo69 (by exact FN.ap0 (accept_c toks ip [[59]] (by decide)) e6 p5) ?_
  rintro _ H6 ⟨rfl, F6, p6, g6⟩
  have f6 : Fr F0 F6 H0 H6 := f5.trans g6
  obtain ⟨st6, r6⟩ := p6.row
  have q6 := getL r6
  obtain ⟨k6a, n6a⟩ := g6.get k5a n5a
  have b6a := getL k6a
  refine e_end (by simp only [kA, seval, vint, qC, hd5, r6, q6, k6a, b6a] <;> with_reducible rfl) (by decide) ?_
  repeat refine wS ?_
  refine wC rfl (by simp only [jN, seval, vint, qC, hd5, r6, q6, k6a, b6a] <;> with_reducible rfl) (fun bt22 => ?_) (fun bt22 => ?_)
  ·-- if t22
   rw [ifT bt22] at hm
   refine wL [0] (by simp only [jN, seval, vint, qC, hd5, r6, q6, k6a, b6a] <;> with_reducible rfl) ?_
   repeat refine wS ?_
   refine wR ?_
   refine eT 1 (by simp only [kA, seval, vint, qC, hd5, r6, q6, k6a, b6a] <;> with_reducible rfl) (by decide) ?_
   obtain ⟨s7, e7, hm⟩ := oB hm
   refine oC (by simp only [kC, seval, vint, qC, hd5, r6, q6, k6a, b6a] <;> with_reducible rfl) (by simp only [kC, seval]) (by decide) Tryzgo120 (by exact FN.ap0 (absent_c toks ip) e7 p6) ?_
   rintro _ H7 ⟨rfl, F7, p7, g7⟩
   have f7 : Fr F0 F7 H0 H7 := f6.trans g7
   obtain ⟨st7, r7⟩ := p7.row
   have q7 := getL r7
   obtain ⟨k7a, n7a⟩ := g7.get k6a n6a
   have b7a := getL k7a
   refine oN ?_
   repeat refine wS ?_
   refine wT ⟨.inr rfl, _, rfl, ?_⟩
   injection hm with hm
   subst hm
   exact ⟨rfl, F7, p7, f7⟩
  ·-- else t22
   rw [ifF bt22] at hm
   repeat refine wS ?_
   refine wK ?_
   refine wL [0] (by simp only [jN, seval, vint, qC, hd5, r6, q6, k6a, b6a] <;> with_reducible rfl) ?_
   repeat refine wS ?_
   refine wR ?_
   refine eT 1 (by simp only [kA, seval, vint, qC, hd5, r6, q6, k6a, b6a] <;> with_reducible rfl) (by decide) ?_
   obtain ⟨s7, e7, hm⟩ := oB hm
   refine oC (by simp only [kC, seval, vint, qC, hd5, r6, q6, k6a, b6a] <;> with_reducible rfl) (by simp only [kC, seval]) (by decide) Tryzgo121 (by exact FG.ap0 (IH .block) e7 p6 ⟨k6a, n6a⟩) ?_
   rintro _ H7 ⟨rfl, F7, p7, g7⟩
   have f7 : Fr F0 F7 H0 H7 := f6.trans g7
   obtain ⟨st7, r7⟩ := p7.row
   have q7 := getL r7
   obtain ⟨k7a, n7a⟩ := g7.get k6a n6a
   have b7a := getL k7a
   refine oN ?_
   refine ⟨.inl rfl, _, rfl, ?_⟩
   injection hm with hm
   subst hm
   exact ⟨rfl, F7, p7, f7⟩
def m101 (toks : List Tk) (n : Nat) (R : Rec) (k : Int) (s0 : PS) : Option PS := ((expectIdentM toks) s0).bind fun s1 => ((R .typeParams) s1).bind fun s2 => ((expectM toks [123]) s2).bind fun s3 => ((listM toks n ([125]) (m123 toks n R (k))) s3).bind fun s4 => some s4
theorem m101_w {toks : List Tk} {ip n : Nat} {R : Rec} (IH : IHs toks ip R) (k : Int) : FG toks ip 97 [.optr ip 0, .int .i64 k] (m101 toks n R k) unitR := by
 intro s0 s' F0 H0 hm p0 i0
 obtain ⟨⟨hg, n0a⟩, _⟩ := i0
 obtain ⟨st0, r0⟩ := p0.row
 have q0 := getL r0
 have hl := lim_le p0.len
 have f0 := Fr.refl F0 H0
 have k0a := getL hg [.row [.optr ip 0], .row [.int .i64 k]]
 have b0a := getL k0a
 have k0b : (H0 ++ [.row [.optr ip 0], .row [.int .i64 k]])[H0.length]? = some (.row [.optr ip 0]) := by simp
 have n0b := p0.new0
 have b0b := getL k0b
 have k0c : (H0 ++ [.row [.optr ip 0], .row [.int .i64 k]])[H0.length + 1]? = some (.row [.int .i64 k]) := by simp
 have n0c := p0.new 1
 have b0c := getL k0c
 unfold m101 at hm
 refine aF (N := 13) Tryz.func97 rfl rfl (by simp) fun hb' => ?_
 repeat refine wS ?_
 refine eE (by simp only [kA, seval, y3, y84, vint, qC, r0, q0, hg] <;> with_reducible rfl) (by decide) ?_
 repeat refine wS ?_
 refine wR ?_
 refine eT 1 (by simp only [kA, seval, y84, vint, qC, r0, q0, hg] <;> with_reducible rfl) (by decide) ?_
 obtain ⟨s1, e1, hm⟩ := oB hm
 refine oC (by simp only [kC, seval, vint, qC, r0, q0, hg] <;> with_reducible rfl) (by simp only [kC, seval]) (by decide) Tryzgo98 (by exact FN.ap (expectIdent_c toks ip) e1 p0 _) ?_
 rintro _ H1 ⟨rfl, F1, p1, g1⟩
 have f1 : Fr F0 F1 H0 H1 := f0.step g1
 obtain ⟨st1, r1⟩ := p1.row
 have q1 := getL r1
 obtain ⟨k1a, n1a⟩ := g1.get k0a n0a
 have b1a := getL k1a
 obtain ⟨k1b, n1b⟩ := g1.get k0b n0b
 have b1b := getL k1b
 obtain ⟨k1c, n1c⟩ := g1.get k0c n0c
 have b1c := getL k1c
 refine oN ?_
 repeat refine wS ?_
 refine wR ?_
 refine eT 1 (by simp only [kA, seval, y84, vint, qC, hg, r1, q1, k1a, b1a, k1b, b1b, k1c, b1c] <;> with_reducible rfl) (by decide) ?_
 obtain ⟨s2, e2, hm⟩ := oB hm
 refine oC (by simp only [kC, seval, vint, qC, hg, r1, q1, k1a, b1a, k1b, b1b, k1c, b1c] <;> with_reducible rfl) (by simp only [kC, seval]) (by decide) Tryzgo118 (by exact FG.ap0 (IH .typeParams) e2 p1 ⟨k1a, n1a⟩) ?_
 rintro _ H2 ⟨rfl, F2, p2, g2⟩
 have f2 : Fr F0 F2 H0 H2 := f1.trans g2
 obtain ⟨st2, r2⟩ := p2.row
 have q2 := getL r2
 obtain ⟨k2a, n2a⟩ := g2.get k1a n1a
 have b2a := getL k2a
 obtain ⟨k2b, n2b⟩ := g2.get k1b n1b
 have b2b := getL k2b
 obtain ⟨k2c, n2c⟩ := g2.get k1c n1c
 have b2c := getL k2c
 refine oN ?_
 repeat refine wS ?_
 refine wR ?_
 refine eT 1 (by simp only [kA, seval, y84, vint, qC, hg, r2, q2, k2a, b2a, k2b, b2b, k2c, b2c] <;> with_reducible rfl) (by decide) ?_
 obtain ⟨s3, e3, hm⟩ := oB hm
 refine oC (by simp only [kC, seval, vint, qC, hg, r2, q2, k2a, b2a, k2b, b2b, k2c, b2c] <;> with_reducible rfl) (by simp only [kC, seval]) (by decide) Tryzgo101 (by exact FN.ap0 (expect_c toks ip [123]) e3 p2) ?_
 rintro _ H3 ⟨rfl, F3, p3, g3⟩
 have f3 : Fr F0 F3 H0 H3 := f2.trans g3
 obtain ⟨st3, r3⟩ := p3.row
 have q3 := getL r3
 obtain ⟨k3a, n3a⟩ := g3.get k2a n2a
 have b3a := getL k3a
 obtain ⟨k3b, n3b⟩ := g3.get k2b n2b
 have b3b := getL k3b
 obtain ⟨k3c, n3c⟩ := g3.get k2c n2c
 have b3c := getL k3c
 refine oN ?_
 repeat refine wS ?_
 refine wR ?_
 refine eT 2 (by simp only [kA, seval, y84, vint, qC, hg, r3, q3, k3a, b3a, k3b, b3b, k3c, b3c] <;> with_reducible rfl) (by decide) ?_
 obtain ⟨s4, e4, hm⟩ := oB hm
 refine oC (by simp only [kC, seval, vint, qC, hg, r3, q3, k3a, b3a, k3b, b3b, k3c, b3c] <;> with_reducible rfl) (by simp only [kC, seval]) (by decide) Tryzgo122 (by exact FC.ap0 (list_c toks ip n ([125]) 123 [] [.optr (H0.length) 0, .optr (H0.length + 1) 0] Tryzgo123 (stbL [(0, gO), (H0.length, .row [.optr ip 0]), (H0.length + 1, .row [.int .i64 k])]) (fun _ _ _ => envL_hd) (m123_w (n := n) IH (H0.length) (H0.length + 1) (k))) e4 p3 ⟨⟨k3a, n3a⟩, ⟨k3b, n3b⟩, ⟨k3c, n3c⟩, trivial⟩) ?_
 rintro _ H4 ⟨rfl, F4, p4, g4⟩
 have f4 : Fr F0 F4 H0 H4 := f3.trans g4
 obtain ⟨st4, r4⟩ := p4.row
 have q4 := getL r4
 obtain ⟨k4a, n4a⟩ := g4.get k3a n3a
 have b4a := getL k4a
 obtain ⟨k4b, n4b⟩ := g4.get k3b n3b
 have b4b := getL k4b
 obtain ⟨k4c, n4c⟩ := g4.get k3c n3c
 have b4c := getL k4c
 refine oN ?_
 refine ⟨.inl rfl, _, rfl, ?_⟩
 injection hm with hm
 subst hm
 exact ⟨rfl, F4, p4, f4⟩
def m197 (toks : List Tk) (n : Nat) (R : Rec) (s0 : PS) : Option PS := ((R (.path false)) s0).bind fun s1 => ((acceptM toks [[40]]) s1).bind fun s2 => if atT (peekT toks s1.pos) [[40]] = true then (((listM toks n ([41]) (R .pattern)) s2).bind fun s3 => some s3) else (some s2)
theorem m197_w {toks : List Tk} {ip n : Nat} {R : Rec} (IH : IHs toks ip R) (b0 : Nat) : FC Tryz.prog toks ip 195 [.optr b0 0] (m197 toks n R ) unitR (EnvL [(0, gO), (b0, .row [.optr ip 0])]) := by
 refine fc_of fun s0 s' F0 H0 hm p0 i0 => ?_
 obtain ⟨⟨k0a, n0a⟩, ⟨k0b, n0b⟩, _⟩ := i0
 have b0a := getL k0a
 have b0b := getL k0b
 obtain ⟨st0, r0⟩ := p0.row
 have q0 := getL r0
 have hl := lim_le p0.len
 have f0 := Fr.refl F0 H0
 unfold m197 at hm
 refine aF (N := 10) Tryz.func195 rfl rfl (by simp) fun hb' => ?_
 repeat refine wS ?_
 refine wR ?_
 refine eT 1 (by simp only [kA, seval, y84, vint, qC, r0, q0, k0a, b0a, k0b, b0b] <;> with_reducible rfl) (by decide) ?_
 obtain ⟨s1, e1, hm⟩ := oB hm
 refine oC (by simp only [kC, seval, vint, qC, r0, q0, k0a, b0a, k0b, b0b] <;> with_reducible rfl) (by simp only [kC, seval]) (by decide) Tryzgo133 (by exact FG.ap0 (IH (.path false)) e1 p0 ⟨k0a, n0a⟩) ?_
 rintro _ H1 ⟨rfl, F1, p1, g1⟩
 have f1 : Fr F0 F1 H0 H1 := f0.trans g1
 obtain ⟨st1, r1⟩ := p1.row
 have q1 := getL r1
 obtain ⟨k1a, n1a⟩ := g1.get k0a n0a
 have b1a := getL k1a
 obtain ⟨k1b, n1b⟩ := g1.get k0b n0b
 have b1b := getL k1b
 refine oN ?_
 repeat refine wS ?_
 refine wR ?_
 refine eT 2 (by simp only [kA, seval, y9, y84, y56, vint, qC, r1, q1, k1a, b1a, k1b, b1b] <;> with_reducible rfl) (by decide) ?_
 obtain ⟨s2, e2, hm⟩ := oB hm
 refine oC (by simp only [kC, seval, vint, qC, r1, q1, k1a, b1a, k1b, b1b] <;> with_reducible rfl) (by simp only [kC, seval]) (by decide) Tryzgo69 (by exact FN.ap0 (accept_c toks ip [[40]] (by decide)) e2 p1) ?_
 rintro _ H2 ⟨rfl, F2, p2, g2⟩
 have f2 : Fr F0 F2 H0 H2 := f1.trans g2
 obtain ⟨st2, r2⟩ := p2.row
 have q2 := getL r2
 obtain ⟨k2a, n2a⟩ := g2.get k1a n1a
 have b2a := getL k2a
 obtain ⟨k2b, n2b⟩ := g2.get k1b n1b
 have b2b := getL k2b
 refine oN ?_
 repeat refine wS ?_
 refine wC rfl (by simp only [jN, seval, vint, qC, r2, q2, k2a, b2a, k2b, b2b] <;> with_reducible rfl) (fun bt5 => ?_) (fun bt5 => ?_)
 ·-- if t5
  rw [ifT bt5] at hm
  repeat refine wS ?_
  refine wR ?_
  refine eT 3 (by simp only [kA, seval, y84, vint, qC, r2, q2, k2a, b2a, k2b, b2b] <;> with_reducible rfl) (by decide) ?_
  obtain ⟨s3, e3, hm⟩ := oB hm
  refine oC (by simp only [kC, seval, vint, qC, r2, q2, k2a, b2a, k2b, b2b] <;> with_reducible rfl) (by simp only [kC, seval]) (by decide) Tryzgo122 (by exact FC.ap0 (list_c toks ip n ([41]) 180 [.optr ip 0] [] Tryzgo180 (stbL [(0, gO)]) (fun _ _ _ => envL_hd) (FG.fc (IH .pattern))) e3 p2 ⟨⟨k2a, n2a⟩, trivial⟩) ?_
  rintro _ H3 ⟨rfl, F3, p3, g3⟩
  have f3 : Fr F0 F3 H0 H3 := f2.trans g3
  obtain ⟨st3, r3⟩ := p3.row
  have q3 := getL r3
  obtain ⟨k3a, n3a⟩ := g3.get k2a n2a
  have b3a := getL k3a
  obtain ⟨k3b, n3b⟩ := g3.get k2b n2b
  have b3b := getL k3b
  refine oN ?_
  refine ⟨.inl rfl, _, rfl, ?_⟩
  injection hm with hm
  subst hm
  exact ⟨rfl, F3, p3, f3⟩
 ·-- else t5
  rw [ifF bt5] at hm
  repeat refine wS ?_
  refine wK ?_
  refine ⟨.inl rfl, _, rfl, ?_⟩
  injection hm with hm
  subst hm
  exact ⟨rfl, F2, p2, f2⟩
def m182 (toks : List Tk) (n : Nat) (R : Rec) (s0 : PS) : Option PS := if atT (peekT toks s0.pos) [[109, 117, 116]] = true then (((nodeM 44 (m196 toks n R )) s0).bind fun s1 => some s1) else (if (decide ((peekT toks s0.pos).kind = 103) && decide ((peekT toks s0.pos).text = [95])) = true then (((nodeM 43 (bumpM toks)) s0).bind fun s1 => some s1) else (if decide ((peekT toks s0.pos).kind = 103) = true then ((lookM toks s0).bind fun sq1 => if (!atT (peekT toks sq1.pos) [[40], [58, 58]]) = true then (((nodeM 44 (bumpM toks)) s0).bind fun s2 => some s2) else (((nodeM 45 (m197 toks n R )) s0).bind fun s2 => some s2)) else (if decide ((peekT toks s0.pos).kind = 105) = true then (((nodeM 27 (bumpM toks)) s0).bind fun s1 => some s1) else (if atT (peekT toks s0.pos) [[116, 114, 117, 101], [102, 97, 108, 115, 101]] = true then (((nodeM 28 (bumpM toks)) s0).bind fun s1 => some s1) else (((missM 46) s0).bind fun s1 => some s1)))))
theorem m182_w {toks : List Tk} {ip n : Nat} {R : Rec} (IH : IHs toks ip R) : FG toks ip 180 [.optr ip 0] (m182 toks n R ) (frv .pattern) := by
 intro s0 s' F0 H0 hm p0 i0
 obtain ⟨⟨hg, n0a⟩, _⟩ := i0
 obtain ⟨st0, r0⟩ := p0.row
 have q0 := getL r0
 have hl := lim_le p0.len
 have f0 := Fr.refl F0 H0
 have k0a := getL hg [.row [.optr ip 0], .row [.int .i64 (peekT toks s0.pos).kind, .str (peekT toks s0.pos).text]]
 have b0a := getL k0a
 have k0b : (H0 ++ [.row [.optr ip 0], .row [.int .i64 (peekT toks s0.pos).kind, .str (peekT toks s0.pos).text]])[H0.length]? = some (.row [.optr ip 0]) := by simp
 have n0b := p0.new0
 have b0b := getL k0b
 have k0c : (H0 ++ [.row [.optr ip 0], .row [.int .i64 (peekT toks s0.pos).kind, .str (peekT toks s0.pos).text]])[H0.length + 1]? = some (.row [.int .i64 (peekT toks s0.pos).kind, .str (peekT toks s0.pos).text]) := by simp
 have n0c := p0.new 1
 have b0c := getL k0c
 unfold m182 at hm
 refine aF (N := 62) Tryz.func180 rfl rfl (by simp) fun hb' => ?_
 repeat refine wS ?_
 refine eE (by simp only [kA, seval, y84, vint, qC, r0, q0, hg] <;> with_reducible rfl) (by decide) ?_
 repeat refine wS ?_
 refine wR ?_
 refine eT 1 (by simp only [kA, seval, y84, vint, qC, r0, q0, hg] <;> with_reducible rfl) (by decide) ?_
 refine oP (by simp only [kC, seval, vint, qC, r0, q0, hg] <;> with_reducible rfl) (by simp only [kC, seval]) (by decide) Tryzgo62 (peek_a (by exact q0 _) hl p0.pos) ?_
 refine e_end (by simp only [kA, seval, y103, vint, qC, r0, q0, hg] <;> with_reducible rfl) (by decide) ?_
 repeat refine wS ?_
 refine awp_block ?_
 repeat refine wS ?_
 refine wR ?_
 refine eT 2 (by simp only [kA, seval, y9, y84, y56, vint, qC, r0, q0, hg] <;> with_reducible rfl) (by decide) ?_
 refine oP (by simp only [kC, seval, vint, qC, r0, q0, hg] <;> with_reducible rfl) (by simp only [kC, seval]) (by decide) Tryzgo63 (at_c (by exact q0 _) hl p0.pos [[109, 117, 116]] (by decide)) ?_
 refine e_end (by simp only [kA, seval, vint, qC, r0, q0, hg] <;> with_reducible rfl) (by decide) ?_
 repeat refine wS ?_
 refine wC rfl (by simp only [jN, seval, vint, qC, r0, q0, hg] <;> with_reducible rfl) (fun bt7 => ?_) (fun bt7 => ?_)
 ·-- if t7
  rw [ifT bt7] at hm
  repeat refine wS ?_
  refine wR ?_
  refine eT 2 (by simp only [kA, seval, y84, vint, qC, r0, q0, hg] <;> with_reducible rfl) (by decide) ?_
  obtain ⟨s1, e1, hm⟩ := oB hm
  refine oC (by simp only [kC, seval, vint, qC, r0, q0, hg] <;> with_reducible rfl) (by simp only [kC, seval]) (by decide) Tryzgo67 (by exact FC.ap (node_c toks ip 44 194 [] [.optr (H0.length) 0] Tryzgo194 (stbL [(0, gO), (H0.length, .row [.optr ip 0])]) (m196_w (n := n) IH (H0.length) )) e1 p0 ⟨⟨k0a, n0a⟩, ⟨k0b, n0b⟩, trivial⟩) ?_
  rintro _ H1 ⟨rfl, F1, p1, g1⟩
  have f1 : Fr F0 F1 H0 H1 := f0.step g1
  obtain ⟨st1, r1⟩ := p1.row
  have q1 := getL r1
  obtain ⟨k1a, n1a⟩ := g1.get k0a n0a
  have b1a := getL k1a
  obtain ⟨k1b, n1b⟩ := g1.get k0b n0b
  have b1b := getL k1b
  obtain ⟨k1c, n1c⟩ := g1.get k0c n0c
  have b1c := getL k1c
  refine oN ?_
  refine ⟨.inl rfl, _, rfl, ?_⟩
  injection hm with hm
  subst hm
  exact ⟨rfl, F1, p1, f1⟩
 ·-- else t7
  rw [ifF bt7] at hm
  repeat refine wS ?_
  refine wR ?_
  refine aops_gstart ?_
  refine g_take 1 (by simp only [jG, jO, jN, seval, y84, vint, qC, r0, q0, hg] <;> with_reducible rfl) (by decide) ?_
  refine aops_gpure (by simp only [kE, seval, vint, qC, r0, q0, hg] <;> with_reducible rfl) (by simp only [kE, seval, vint, qC, r0, q0, hg] <;> with_reducible rfl) (by simp only [kE, seval, vint, qC, r0, q0, hg]) (by decide) Tryzgo124 (fun hc => atIdent_c (by exact q0 _) hl p0.pos) ?_
  refine g_end (by simp only [jG, jO, jN, seval, y9, y103, vint, qC, r0, q0, hg] <;> with_reducible rfl) (by decide) (by repeat (first | exact Fin.base _ | with_reducible apply Fin.keep | apply Fin.drop)) ?_
  repeat refine wS ?_
  refine wC rfl (by simp only [jN, seval, vint, qC, r0, q0, hg] <;> with_reducible rfl) (fun bt14 => ?_) (fun bt14 => ?_)
  ·-- if t14
   rw [ifT bt14] at hm
   refine wL [1] (by simp only [jN, seval, vint, qC, r0, q0, hg] <;> with_reducible rfl) ?_
   repeat refine wS ?_
   refine wR ?_
   refine eT 3 (by simp only [kA, seval, y84, vint, qC, r0, q0, hg] <;> with_reducible rfl) (by decide) ?_
   obtain ⟨s1, e1, hm⟩ := oB hm
   refine oC (by simp only [kC, seval, vint, qC, r0, q0, hg] <;> with_reducible rfl) (by simp only [kC, seval]) (by decide) Tryzgo67 (by exact FC.ap (node_c toks ip 43 70 [.optr ip 0] [] Tryzgo70 (stbL [(0, gO)]) (FG.fc (FN.fg (bump_c toks ip)))) e1 p0 ⟨⟨k0a, n0a⟩, trivial⟩) ?_
   rintro _ H1 ⟨rfl, F1, p1, g1⟩
   have f1 : Fr F0 F1 H0 H1 := f0.step g1
   obtain ⟨st1, r1⟩ := p1.row
   have q1 := getL r1
   obtain ⟨k1a, n1a⟩ := g1.get k0a n0a
   have b1a := getL k1a
   obtain ⟨k1b, n1b⟩ := g1.get k0b n0b
   have b1b := getL k1b
   obtain ⟨k1c, n1c⟩ := g1.get k0c n0c
   have b1c := getL k1c
   refine oN ?_
   refine ⟨.inl rfl, _, rfl, ?_⟩
   injection hm with hm
   subst hm
   exact ⟨rfl, F1, p1, f1⟩
  ·-- else t14
   rw [ifF bt14] at hm
   refine wL [1, 2] (by simp only [jN, seval, vint, qC, r0, q0, hg] <;> with_reducible rfl) ?_
   rcases Bool.eq_false_or_eq_true (decide ((peekT toks s0.pos).kind = 103)) with hd7 | hd7
   ·-- case
    rw [ifT hd7] at hm
    repeat refine wS ?_
    refine wR ?_
    refine eT 1 (by simp only [kA, seval, y84, vint, qC, r0, q0, hg, hd7] <;> with_reducible rfl) (by decide) ?_
    refine oP (by simp only [kC, seval, vint, qC, r0, q0, hg, hd7] <;> with_reducible rfl) (by simp only [kC, seval]) (by decide) Tryzgo124 (atIdent_c (by exact q0 _) hl p0.pos) ?_
    refine eT 2 (by simp only [kA, seval, y84, vint, qC, r0, q0, hg, hd7] <;> with_reducible rfl) (by decide) ?_
    obtain ⟨sq1, e1, hm⟩ := oB hm
    refine oC (by simp only [kC, seval, vint, qC, r0, q0, hg, hd7] <;> with_reducible rfl) (by simp only [kC, seval]) (by decide) Tryzgo64 (by exact look_c e1 p0 _) ?_
    rintro _ H1 ⟨iq1, Fq1, rfl, pq1_1, g1⟩
    obtain ⟨F1, nf1, p1, f1⟩ := (by exact look_keep p0 f0 g1)
    obtain ⟨st1, r1⟩ := p1.row
    have q1 := getL r1
    obtain ⟨k1a, n1a⟩ := (by exact look_get g1 k0a n0a nf1)
    have b1a := getL k1a
    obtain ⟨k1b, n1b⟩ := (by exact look_get g1 k0b n0b nf1)
    have b1b := getL k1b
    obtain ⟨k1c, n1c⟩ := (by exact look_get g1 k0c n0c nf1)
    have b1c := getL k1c
    obtain ⟨stq1_1, rq1_1⟩ := pq1_1.row
    have qq1_1 := getL rq1_1
    refine eT 1 (by simp only [kA, seval, y9, y56, vint, qC, hg, hd7, r1, q1, k1a, b1a, k1b, b1b, k1c, b1c] <;> with_reducible rfl) (by decide) ?_
    refine oP (by simp only [kC, seval, vint, qC, hg, hd7, r1, q1, k1a, b1a, k1b, b1b, k1c, b1c] <;> with_reducible rfl) (by simp only [kC, seval]) (by decide) Tryzgo63 (at_c rq1_1 hl pq1_1.pos [[40], [58, 58]] (by decide)) ?_
    refine e_end (by simp only [kA, seval, vint, qC, hg, hd7, r1, q1, k1a, b1a, k1b, b1b, k1c, b1c] <;> with_reducible rfl) (by decide) ?_
    repeat refine wS ?_
    refine wC rfl (by simp only [jN, seval, vint, qC, hg, hd7, r1, q1, k1a, b1a, k1b, b1b, k1c, b1c] <;> with_reducible rfl) (fun bt26 => ?_) (fun bt26 => ?_)
    ·-- if t26
     rw [ifT bt26] at hm
     repeat refine wS ?_
     refine wR ?_
     refine eT 3 (by simp only [kA, seval, y84, vint, qC, hg, hd7, r1, q1, k1a, b1a, k1b, b1b, k1c, b1c] <;> with_reducible rfl) (by decide) ?_
     obtain ⟨s2, e2, hm⟩ := oB hm
     refine oC (by simp only [kC, seval, vint, qC, hg, hd7, r1, q1, k1a, b1a, k1b, b1b, k1c, b1c] <;> with_reducible rfl) (by simp only [kC, seval]) (by decide) Tryzgo67 (by exact FC.ap0 (node_c toks ip 44 70 [.optr ip 0] [] Tryzgo70 (stbL [(0, gO)]) (FG.fc (FN.fg (bump_c toks ip)))) e2 p1 ⟨⟨k1a, n1a⟩, trivial⟩) ?_
     rintro _ H2 ⟨rfl, F2, p2, g2⟩
     have f2 : Fr F0 F2 H0 H2 := f1.trans g2
     obtain ⟨st2, r2⟩ := p2.row
     have q2 := getL r2
     obtain ⟨k2a, n2a⟩ := g2.get k1a n1a
     have b2a := getL k2a
     obtain ⟨k2b, n2b⟩ := g2.get k1b n1b
     have b2b := getL k2b
     obtain ⟨k2c, n2c⟩ := g2.get k1c n1c
     have b2c := getL k2c
     refine oN ?_
     refine ⟨.inl rfl, _, rfl, ?_⟩
     injection hm with hm
     subst hm
     exact ⟨rfl, F2, p2, f2⟩
    ·-- else t26
     rw [ifF bt26] at hm
     repeat refine wS ?_
     refine wR ?_
     refine eT 1 (by simp only [kA, seval, y84, vint, qC, hg, hd7, r1, q1, k1a, b1a, k1b, b1b, k1c, b1c] <;> with_reducible rfl) (by decide) ?_
     refine oP (by simp only [kC, seval, vint, qC, hg, hd7, r1, q1, k1a, b1a, k1b, b1b, k1c, b1c] <;> with_reducible rfl) (by simp only [kC, seval]) (by decide) Tryzgo124 (atIdent_c r1 hl p1.pos) ?_
     refine e_end (by simp only [kA, seval, vint, qC, hg, hd7, r1, q1, k1a, b1a, k1b, b1b, k1c, b1c] <;> with_reducible rfl) (by decide) ?_
     repeat refine wS ?_
     refine awp_cond_true rfl (by simp only [jN, seval, vint, qC, hg, hd7, r1, q1, k1a, b1a, k1b, b1b, k1c, b1c] <;> with_reducible rfl) ?_
     repeat refine wS ?_
     refine wR ?_
     refine eT 2 (by simp only [kA, seval, y84, vint, qC, hg, hd7, r1, q1, k1a, b1a, k1b, b1b, k1c, b1c] <;> with_reducible rfl) (by decide) ?_
     obtain ⟨s2, e2, hm⟩ := oB hm
     refine oC (by simp only [kC, seval, vint, qC, hg, hd7, r1, q1, k1a, b1a, k1b, b1b, k1c, b1c] <;> with_reducible rfl) (by simp only [kC, seval]) (by decide) Tryzgo67 (by exact FC.ap0 (node_c toks ip 45 195 [] [.optr (H0.length) 0] Tryzgo195 (stbL [(0, gO), (H0.length, .row [.optr ip 0])]) (m197_w (n := n) IH (H0.length) )) e2 p1 ⟨⟨k1a, n1a⟩, ⟨k1b, n1b⟩, trivial⟩) ?_
     rintro _ H2 ⟨rfl, F2, p2, g2⟩
     have f2 : Fr F0 F2 H0 H2 := f1.trans g2
     obtain ⟨st2, r2⟩ := p2.row
     have q2 := getL r2
     obtain ⟨k2a, n2a⟩ := g2.get k1a n1a
     have b2a := getL k2a
     obtain ⟨k2b, n2b⟩ := g2.get k1b n1b
     have b2b := getL k2b
     obtain ⟨k2c, n2c⟩ := g2.get k1c n1c
     have b2c := getL k2c
     refine oN ?_
     refine ⟨.inl rfl, _, rfl, ?_⟩
     injection hm with hm
     subst hm
     exact ⟨rfl, F2, p2, f2⟩
   ·-- case
    rw [ifF hd7] at hm
    repeat refine wS ?_
    refine wR ?_
    refine eT 1 (by simp only [kA, seval, y84, vint, qC, r0, q0, hg, hd7] <;> with_reducible rfl) (by decide) ?_
    refine oP (by simp only [kC, seval, vint, qC, r0, q0, hg, hd7] <;> with_reducible rfl) (by simp only [kC, seval]) (by decide) Tryzgo124 (atIdent_c (by exact q0 _) hl p0.pos) ?_
    refine e_end (by simp only [kA, seval, y9, y84, y56, vint, qC, r0, q0, hg, hd7] <;> with_reducible rfl) (by decide) ?_
    repeat refine wS ?_
    refine wF rfl (by simp only [jN, seval, vint, qC, r0, q0, hg, hd7] <;> with_reducible rfl) ?_
    repeat refine wS ?_
    refine wR ?_
    refine eT 1 (by simp only [kA, seval, y84, vint, qC, r0, q0, hg, hd7] <;> with_reducible rfl) (by decide) ?_
    refine oP (by simp only [kC, seval, vint, qC, r0, q0, hg, hd7] <;> with_reducible rfl) (by simp only [kC, seval]) (by decide) Tryzgo124 (atIdent_c (by exact q0 _) hl p0.pos) ?_
    refine e_end (by simp only [kA, seval, vint, qC, r0, q0, hg, hd7] <;> with_reducible rfl) (by decide) ?_
    repeat refine wS ?_
    refine wF rfl (by simp only [jN, seval, vint, qC, r0, q0, hg, hd7] <;> with_reducible rfl) ?_
    repeat refine wS ?_
    refine eE (by simp only [kA, seval, y3, y103, vint, qC, r0, q0, hg, hd7] <;> with_reducible rfl) (by decide) ?_
    repeat refine wS ?_
    refine wC rfl (by simp only [jN, seval, vint, qC, r0, q0, hg, hd7] <;> with_reducible rfl) (fun bt46 => ?_) (fun bt46 => ?_)
    ·-- if t46
     rw [ifT bt46] at hm
     refine wL [1] (by simp only [jN, seval, vint, qC, r0, q0, hg, hd7] <;> with_reducible rfl) ?_
     repeat refine wS ?_
     refine wR ?_
     refine eT 3 (by simp only [kA, seval, y84, vint, qC, r0, q0, hg, hd7] <;> with_reducible rfl) (by decide) ?_
     obtain ⟨s1, e1, hm⟩ := oB hm
     refine oC (by simp only [kC, seval, vint, qC, r0, q0, hg, hd7] <;> with_reducible rfl) (by simp only [kC, seval]) (by decide) Tryzgo67 (by exact FC.ap (node_c toks ip 27 70 [.optr ip 0] [] Tryzgo70 (stbL [(0, gO)]) (FG.fc (FN.fg (bump_c toks ip)))) e1 p0 ⟨⟨k0a, n0a⟩, trivial⟩) ?_
     rintro _ H1 ⟨rfl, F1, p1, g1⟩
     have f1 : Fr F0 F1 H0 H1 := f0.step g1
     obtain ⟨st1, r1⟩ := p1.row
     have q1 := getL r1
     obtain ⟨k1a, n1a⟩ := g1.get k0a n0a
     have b1a := getL k1a
     obtain ⟨k1b, n1b⟩ := g1.get k0b n0b
     have b1b := getL k1b
     obtain ⟨k1c, n1c⟩ := g1.get k0c n0c
     have b1c := getL k1c
     refine oN ?_
     refine ⟨.inl rfl, _, rfl, ?_⟩
     injection hm with hm
     subst hm
     exact ⟨rfl, F1, p1, f1⟩
    ·-- else t46
     rw [ifF bt46] at hm
     refine wL [1] (by simp only [jN, seval, vint, qC, r0, q0, hg, hd7] <;> with_reducible rfl) ?_
     repeat refine wS ?_
     refine wR ?_
     refine eT 2 (by simp only [kA, seval, y9, y84, y56, vint, qC, r0, q0, hg, hd7] <;> with_reducible rfl) (by decide) ?_
     refine oP (by simp only [kC, seval, vint, qC, r0, q0, hg, hd7] <;> with_reducible rfl) (by simp only [kC, seval]) (by decide) Tryzgo63 (at_c (by exact q0 _) hl p0.pos [[116, 114, 117, 101], [102, 97, 108, 115, 101]] (by decide)) ?_
     refine e_end (by simp only [kA, seval, vint, qC, r0, q0, hg, hd7] <;> with_reducible rfl) (by decide) ?_
     repeat refine wS ?_
     refine wC rfl (by simp only [jN, seval, vint, qC, r0, q0, hg, hd7] <;> with_reducible rfl) (fun bt54 => ?_) (fun bt54 => ?_)
     ·-- if t54
      rw [ifT bt54] at hm
      repeat refine wS ?_
      refine wR ?_
      refine eT 3 (by simp only [kA, seval, y84, vint, qC, r0, q0, hg, hd7] <;> with_reducible rfl) (by decide) ?_
      obtain ⟨s1, e1, hm⟩ := oB hm
      refine oC (by simp only [kC, seval, vint, qC, r0, q0, hg, hd7] <;> with_reducible rfl) (by simp only [kC, seval]) (by decide) Tryzgo67 (by exact FC.ap (node_c toks ip 28 70 [.optr ip 0] [] Tryzgo70 (stbL [(0, gO)]) (FG.fc (FN.fg (bump_c toks ip)))) e1 p0 ⟨⟨k0a, n0a⟩, trivial⟩) ?_
      rintro _ H1 ⟨rfl, F1, p1, g1⟩
      have f1 : Fr F0 F1 H0 H1 := f0.step g1
      obtain ⟨st1, r1⟩ := p1.row
      have q1 := getL r1
      obtain ⟨k1a, n1a⟩ := g1.get k0a n0a
      have b1a := getL k1a
      obtain ⟨k1b, n1b⟩ := g1.get k0b n0b
      have b1b := getL k1b
      obtain ⟨k1c, n1c⟩ := g1.get k0c n0c
      have b1c := getL k1c
      refine oN ?_
      refine ⟨.inl rfl, _, rfl, ?_⟩
      injection hm with hm
      subst hm
      exact ⟨rfl, F1, p1, f1⟩
     ·-- else t54
      rw [ifF bt54] at hm
      repeat refine wS ?_
      refine wR ?_
      refine eT 1 (by simp only [kA, seval, y84, vint, qC, r0, q0, hg, hd7] <;> with_reducible rfl) (by decide) ?_
      obtain ⟨s1, e1, hm⟩ := oB hm
      refine oC (by simp only [kC, seval, vint, qC, r0, q0, hg, hd7] <;> with_reducible rfl) (by simp only [kC, seval]) (by decide) Tryzgo134 (by exact FN.ap (missingNode_c toks ip) e1 p0 _) ?_
      rintro _ H1 ⟨rfl, F1, p1, g1⟩
      have f1 : Fr F0 F1 H0 H1 := f0.step g1
      obtain ⟨st1, r1⟩ := p1.row
      have q1 := getL r1
      obtain ⟨k1a, n1a⟩ := g1.get k0a n0a
      have b1a := getL k1a
      obtain ⟨k1b, n1b⟩ := g1.get k0b n0b
      have b1b := getL k1b
      obtain ⟨k1c, n1c⟩ := g1.get k0c n0c
      have b1c := getL k1c
      refine oN ?_
      refine ⟨.inl rfl, _, rfl, ?_⟩
      injection hm with hm
      subst hm
      exact ⟨rfl, F1, p1, f1⟩
def m171 (toks : List Tk) (n : Nat) (R : Rec) (s0 : PS) : Option PS := if decide ((peekT toks s0.pos).kind = 105) = true then (((nodeM 27 (bumpM toks)) s0).bind fun s1 => some s1) else (if decide ((peekT toks s0.pos).kind = 106) = true then (((nodeM 29 (bumpM toks)) s0).bind fun s1 => some s1) else (if atT (peekT toks s0.pos) [[116, 114, 117, 101], [102, 97, 108, 115, 101]] = true then (((nodeM 28 (bumpM toks)) s0).bind fun s1 => some s1) else (if decide ((peekT toks s0.pos).kind = 103) = true then (((R (.path false)) s0).bind fun s1 => if atT (peekT toks s1.pos) [[33]] = true then ((lookM toks s1).bind fun sq2 => if atT (peekT toks sq2.pos) [[40]] = true then (((wrapM 42 (m183 toks n R )) s1).bind fun s3 => some s3) else (some s1)) else (some s1)) else (if atT (peekT toks s0.pos) [[40]] = true then (((nodeM 60 (m185 toks n R )) s0).bind fun s1 => some s1) else (if atT (peekT toks s0.pos) [[123]] = true then (((R .block) s0).bind fun s1 => some s1) else (if atT (peekT toks s0.pos) [[105, 102]] = true then (((R .ifExpr) s0).bind fun s1 => some s1) else (if atT (peekT toks s0.pos) [[109, 97, 116, 99, 104]] = true then (((nodeM 35 (R .matchE)) s0).bind fun s1 => some s1) else (if atT (peekT toks s0.pos) [[110, 101, 119]] = true then (((nodeM 33 (R .structLit)) s0).bind fun s1 => some s1) else (if atT (peekT toks s0.pos) [[124], [124, 124]] = true then (((nodeM 38 (R .lambda)) s0).bind fun s1 => some s1) else (((missM 46) s0).bind fun s1 => some s1))))))))))
theorem m171_w {toks : List Tk} {ip n : Nat} {R : Rec} (IH : IHs toks ip R) : FG toks ip 169 [.optr ip 0] (m171 toks n R ) (frv .primary) := by
 intro s0 s' F0 H0 hm p0 i0
 obtain ⟨⟨hg, n0a⟩, _⟩ := i0
 obtain ⟨st0, r0⟩ := p0.row
 have q0 := getL r0
 have hl := lim_le p0.len
 have f0 := Fr.refl F0 H0
 have k0a := getL hg [.row [.optr ip 0], .row [.int .i64 (peekT toks s0.pos).kind, .str (peekT toks s0.pos).text]]
 have b0a := getL k0a
 have k0b : (H0 ++ [.row [.optr ip 0], .row [.int .i64 (peekT toks s0.pos).kind, .str (peekT toks s0.pos).text]])[H0.length]? = some (.row [.optr ip 0]) := by simp
 have n0b := p0.new0
 have b0b := getL k0b
 have k0c : (H0 ++ [.row [.optr ip 0], .row [.int .i64 (peekT toks s0.pos).kind, .str (peekT toks s0.pos).text]])[H0.length + 1]? = some (.row [.int .i64 (peekT toks s0.pos).kind, .str (peekT toks s0.pos).text]) := by simp
 have n0c := p0.new 1
 have b0c := getL k0c
 unfold m171 at hm
 refine aF (N := 92) Tryz.func169 rfl rfl (by simp) fun hb' => ?_
 repeat refine wS ?_
 refine eE (by simp only [kA, seval, y84, vint, qC, r0, q0, hg] <;> with_reducible rfl) (by decide) ?_
 repeat refine wS ?_
 refine wR ?_
 refine eT 1 (by simp only [kA, seval, y84, vint, qC, r0, q0, hg] <;> with_reducible rfl) (by decide) ?_
 refine oP (by simp only [kC, seval, vint, qC, r0, q0, hg] <;> with_reducible rfl) (by simp only [kC, seval]) (by decide) Tryzgo62 (peek_a (by exact q0 _) hl p0.pos) ?_
 refine e_end (by simp only [kA, seval, y103, vint, qC, r0, q0, hg] <;> with_reducible rfl) (by decide) ?_
 repeat refine wS ?_
 refine awp_block ?_
 repeat refine wS ?_
 refine eE (by simp only [kA, seval, y3, y103, vint, qC, r0, q0, hg] <;> with_reducible rfl) (by decide) ?_
 repeat refine wS ?_
 refine wC rfl (by simp only [jN, seval, vint, qC, r0, q0, hg] <;> with_reducible rfl) (fun bt7 => ?_) (fun bt7 => ?_)
 ·-- if t7
  rw [ifT bt7] at hm
  repeat refine wS ?_
  refine wR ?_
  refine eT 3 (by simp only [kA, seval, y84, vint, qC, r0, q0, hg] <;> with_reducible rfl) (by decide) ?_
  obtain ⟨s1, e1, hm⟩ := oB hm
  refine oC (by simp only [kC, seval, vint, qC, r0, q0, hg] <;> with_reducible rfl) (by simp only [kC, seval]) (by decide) Tryzgo67 (by exact FC.ap (node_c toks ip 27 70 [.optr ip 0] [] Tryzgo70 (stbL [(0, gO)]) (FG.fc (FN.fg (bump_c toks ip)))) e1 p0 ⟨⟨k0a, n0a⟩, trivial⟩) ?_
  rintro _ H1 ⟨rfl, F1, p1, g1⟩
  have f1 : Fr F0 F1 H0 H1 := f0.step g1
  obtain ⟨st1, r1⟩ := p1.row
  have q1 := getL r1
  obtain ⟨k1a, n1a⟩ := g1.get k0a n0a
  have b1a := getL k1a
  obtain ⟨k1b, n1b⟩ := g1.get k0b n0b
  have b1b := getL k1b
  obtain ⟨k1c, n1c⟩ := g1.get k0c n0c
  have b1c := getL k1c
  refine oN ?_
  refine ⟨.inl rfl, _, rfl, ?_⟩
  injection hm with hm
  subst hm
  exact ⟨rfl, F1, p1, f1⟩
 ·-- else t7
  rw [ifF bt7] at hm
  repeat refine wS ?_
  refine eE (by simp only [kA, seval, y3, y103, vint, qC, r0, q0, hg] <;> with_reducible rfl) (by decide) ?_
  repeat refine wS ?_
  refine wC rfl (by simp only [jN, seval, vint, qC, r0, q0, hg] <;> with_reducible rfl) (fun bt15 => ?_) (fun bt15 => ?_)
  ·-- if t15
   rw [ifT bt15] at hm
   repeat refine wS ?_
   refine wR ?_
   refine eT 3 (by simp only [kA, seval, y84, vint, qC, r0, q0, hg] <;> with_reducible rfl) (by decide) ?_
   obtain ⟨s1, e1, hm⟩ := oB hm
   refine oC (by simp only [kC, seval, vint, qC, r0, q0, hg] <;> with_reducible rfl) (by simp only [kC, seval]) (by decide) Tryzgo67 (by exact FC.ap (node_c toks ip 29 70 [.optr ip 0] [] Tryzgo70 (stbL [(0, gO)]) (FG.fc (FN.fg (bump_c toks ip)))) e1 p0 ⟨⟨k0a, n0a⟩, trivial⟩) ?_
   rintro _ H1 ⟨rfl, F1, p1, g1⟩
   have f1 : Fr F0 F1 H0 H1 := f0.step g1
   obtain ⟨st1, r1⟩ := p1.row
   have q1 := getL r1
   obtain ⟨k1a, n1a⟩ := g1.get k0a n0a
   have b1a := getL k1a
   obtain ⟨k1b, n1b⟩ := g1.get k0b n0b
   have b1b := getL k1b
   obtain ⟨k1c, n1c⟩ := g1.get k0c n0c
   have b1c := getL k1c
   refine oN ?_
   refine ⟨.inl rfl, _, rfl, ?_⟩
   injection hm with hm
   subst hm
   exact ⟨rfl, F1, p1, f1⟩
  ·-- else t15
   rw [ifF bt15] at hm
   repeat refine wS ?_
   refine wR ?_
   refine eT 2 (by simp only [kA, seval, y9, y84, y56, vint, qC, r0, q0, hg] <;> with_reducible rfl) (by decide) ?_
   refine oP (by simp only [kC, seval, vint, qC, r0, q0, hg] <;> with_reducible rfl) (by simp only [kC, seval]) (by decide) Tryzgo63 (at_c (by exact q0 _) hl p0.pos [[116, 114, 117, 101], [102, 97, 108, 115, 101]] (by decide)) ?_
   refine e_end (by simp only [kA, seval, vint, qC, r0, q0, hg] <;> with_reducible rfl) (by decide) ?_
   repeat refine wS ?_
   refine wC rfl (by simp only [jN, seval, vint, qC, r0, q0, hg] <;> with_reducible rfl) (fun bt23 => ?_) (fun bt23 => ?_)
   ·-- if t23
    rw [ifT bt23] at hm
    refine wL [1] (by simp only [jN, seval, vint, qC, r0, q0, hg] <;> with_reducible rfl) ?_
    repeat refine wS ?_
    refine wR ?_
    refine eT 3 (by simp only [kA, seval, y84, vint, qC, r0, q0, hg] <;> with_reducible rfl) (by decide) ?_
    obtain ⟨s1, e1, hm⟩ := oB hm
    refine oC (by simp only [kC, seval, vint, qC, r0, q0, hg] <;> with_reducible rfl) (by simp only [kC, seval]) (by decide) Tryzgo67 (by exact FC.ap (node_c toks ip 28 70 [.optr ip 0] [] Tryzgo70 (stbL [(0, gO)]) (FG.fc (FN.fg (bump_c toks ip)))) e1 p0 ⟨⟨k0a, n0a⟩, trivial⟩) ?_
    rintro _ H1 ⟨rfl, F1, p1, g1⟩
    have f1 : Fr F0 F1 H0 H1 := f0.step g1
    obtain ⟨st1, r1⟩ := p1.row
    have q1 := getL r1
    obtain ⟨k1a, n1a⟩ := g1.get k0a n0a
    have b1a := getL k1a
    obtain ⟨k1b, n1b⟩ := g1.get k0b n0b
    have b1b := getL k1b
    obtain ⟨k1c, n1c⟩ := g1.get k0c n0c
    have b1c := getL k1c
    refine oN ?_
    refine ⟨.inl rfl, _, rfl, ?_⟩
    injection hm with hm
    subst hm
    exact ⟨rfl, F1, p1, f1⟩
   ·-- else t23
    rw [ifF bt23] at hm
    refine wL [1, 2] (by simp only [jN, seval, vint, qC, r0, q0, hg] <;> with_reducible rfl) ?_
    repeat refine wS ?_
    refine eE (by simp only [kA, seval, y3, y103, vint, qC, r0, q0, hg] <;> with_reducible rfl) (by decide) ?_
    repeat refine wS ?_
    refine wC rfl (by simp only [jN, seval, vint, qC, r0, q0, hg] <;> with_reducible rfl) (fun bt31 => ?_) (fun bt31 => ?_)
    ·-- if t31
     rw [ifT bt31] at hm
     repeat refine wS ?_
     refine wR ?_
     refine eT 1 (by simp only [kA, seval, y84, vint, qC, r0, q0, hg] <;> with_reducible rfl) (by decide) ?_
     obtain ⟨s1, e1, hm⟩ := oB hm
     refine oC (by simp only [kC, seval, vint, qC, r0, q0, hg] <;> with_reducible rfl) (by simp only [kC, seval]) (by decide) Tryzgo133 (by exact FG.ap' (IH (.path false)) e1 p0 ⟨k0a, n0a⟩) ?_
     rintro _ H1 ⟨rfl, F1, p1, g1⟩
     have f1 : Fr F0 F1 H0 H1 := f0.step g1
     obtain ⟨st1, r1⟩ := p1.row
     have q1 := getL r1
     obtain ⟨k1a, n1a⟩ := g1.get k0a n0a
     have b1a := getL k1a
     obtain ⟨k1b, n1b⟩ := g1.get k0b n0b
     have b1b := getL k1b
     obtain ⟨k1c, n1c⟩ := g1.get k0c n0c
     have b1c := getL k1c
     refine oN ?_
     rcases Bool.eq_false_or_eq_true (atT (peekT toks s1.pos) [[33]]) with hd11 | hd11
     ·-- case
      rw [ifT hd11] at hm
      repeat refine wS ?_
      refine wR ?_
      refine eT 2 (by simp only [kA, seval, y9, y84, y56, vint, qC, hg, r1, q1, k1a, b1a, k1b, b1b, k1c, b1c, hd11] <;> with_reducible rfl) (by decide) ?_
      refine oP (by simp only [kC, seval, vint, qC, hg, r1, q1, k1a, b1a, k1b, b1b, k1c, b1c, hd11] <;> with_reducible rfl) (by simp only [kC, seval]) (by decide) Tryzgo63 (at_c r1 hl p1.pos [[33]] (by decide)) ?_
      refine eT 2 (by simp only [kA, seval, y84, vint, qC, hg, r1, q1, k1a, b1a, k1b, b1b, k1c, b1c, hd11] <;> with_reducible rfl) (by decide) ?_
      obtain ⟨sq2, e2, hm⟩ := oB hm
      refine oC (by simp only [kC, seval, vint, qC, hg, r1, q1, k1a, b1a, k1b, b1b, k1c, b1c, hd11] <;> with_reducible rfl) (by simp only [kC, seval]) (by decide) Tryzgo64 (by exact look_c0 e2 p1) ?_
      rintro _ H2 ⟨iq2, Fq2, rfl, pq2_2, g2⟩
      obtain ⟨F2, nf2, p2, f2⟩ := (by exact look_keep0 p1 f1 g2)
      obtain ⟨st2, r2⟩ := p2.row
      have q2 := getL r2
      obtain ⟨k2a, n2a⟩ := (by exact look_get g2 k1a n1a nf2)
      have b2a := getL k2a
      obtain ⟨k2b, n2b⟩ := (by exact look_get g2 k1b n1b nf2)
      have b2b := getL k2b
      obtain ⟨k2c, n2c⟩ := (by exact look_get g2 k1c n1c nf2)
      have b2c := getL k2c
      obtain ⟨stq2_2, rq2_2⟩ := pq2_2.row
      have qq2_2 := getL rq2_2
      refine eT 1 (by simp only [kA, seval, y9, y56, vint, qC, hg, hd11, r2, q2, k2a, b2a, k2b, b2b, k2c, b2c] <;> with_reducible rfl) (by decide) ?_
      refine oP (by simp only [kC, seval, vint, qC, hg, hd11, r2, q2, k2a, b2a, k2b, b2b, k2c, b2c] <;> with_reducible rfl) (by simp only [kC, seval]) (by decide) Tryzgo63 (at_c rq2_2 hl pq2_2.pos [[40]] (by decide)) ?_
      refine e_end (by simp only [kA, seval, vint, qC, hg, hd11, r2, q2, k2a, b2a, k2b, b2b, k2c, b2c] <;> with_reducible rfl) (by decide) ?_
      repeat refine wS ?_
      refine wC rfl (by simp only [jN, seval, vint, qC, hg, hd11, r2, q2, k2a, b2a, k2b, b2b, k2c, b2c] <;> with_reducible rfl) (fun bt45 => ?_) (fun bt45 => ?_)
      ·-- if t45
       rw [ifT bt45] at hm
       refine wL [1] (by simp only [jN, seval, vint, qC, hg, hd11, r2, q2, k2a, b2a, k2b, b2b, k2c, b2c] <;> with_reducible rfl) ?_
       repeat refine wS ?_
       refine wR ?_
       refine eT 2 (by simp only [kA, seval, y84, vint, qC, hg, hd11, r2, q2, k2a, b2a, k2b, b2b, k2c, b2c] <;> with_reducible rfl) (by decide) ?_
       obtain ⟨s3, e3, hm⟩ := oB hm
       refine oC (by simp only [kC, seval, vint, qC, hg, hd11, r2, q2, k2a, b2a, k2b, b2b, k2c, b2c] <;> with_reducible rfl) (by simp only [kC, seval]) (by decide) Tryzgo156 (by exact FC.ap0 (wrap_c toks ip 42 181 [] [.optr (H0.length) 0] Tryzgo181 (stbL [(0, gO), (H0.length, .row [.optr ip 0])]) (m183_w (n := n) IH (H0.length) )) e3 p2 ⟨⟨k2a, n2a⟩, ⟨k2b, n2b⟩, trivial⟩) ?_
       rintro _ H3 ⟨rfl, F3, p3, g3⟩
       have f3 : Fr F0 F3 H0 H3 := f2.trans g3
       obtain ⟨st3, r3⟩ := p3.row
       have q3 := getL r3
       obtain ⟨k3a, n3a⟩ := g3.get k2a n2a
       have b3a := getL k3a
       obtain ⟨k3b, n3b⟩ := g3.get k2b n2b
       have b3b := getL k3b
       obtain ⟨k3c, n3c⟩ := g3.get k2c n2c
       have b3c := getL k3c
       refine oN ?_
       refine ⟨.inl rfl, _, rfl, ?_⟩
       injection hm with hm
       subst hm
       exact ⟨rfl, F3, p3, f3⟩
      ·-- else t45
       rw [ifF bt45] at hm
       repeat refine wS ?_
       refine wK ?_
       refine ⟨.inl rfl, _, rfl, ?_⟩
       injection hm with hm
       subst hm
       exact ⟨rfl, F2, p2, f2⟩
     ·-- case
      rw [ifF hd11] at hm
      repeat refine wS ?_
      refine wR ?_
      refine eT 2 (by simp only [kA, seval, y9, y84, y56, vint, qC, hg, r1, q1, k1a, b1a, k1b, b1b, k1c, b1c, hd11] <;> with_reducible rfl) (by decide) ?_
      refine oP (by simp only [kC, seval, vint, qC, hg, r1, q1, k1a, b1a, k1b, b1b, k1c, b1c, hd11] <;> with_reducible rfl) (by simp only [kC, seval]) (by decide) Tryzgo63 (at_c r1 hl p1.pos [[33]] (by decide)) ?_
      refine e_end (by simp only [kA, seval, y9, y84, y56, vint, qC, hg, r1, q1, k1a, b1a, k1b, b1b, k1c, b1c, hd11] <;> with_reducible rfl) (by decide) ?_
      repeat refine wS ?_
      refine wF rfl (by simp only [jN, seval, vint, qC, hg, r1, q1, k1a, b1a, k1b, b1b, k1c, b1c, hd11] <;> with_reducible rfl) ?_
      repeat refine wS ?_
      refine wK ?_
      refine ⟨.inl rfl, _, rfl, ?_⟩
      injection hm with hm
      subst hm
      exact ⟨rfl, F1, p1, f1⟩
    ·-- else t31
     rw [ifF bt31] at hm
     repeat refine wS ?_
     refine wR ?_
     refine eT 2 (by simp only [kA, seval, y9, y84, y56, vint, qC, r0, q0, hg] <;> with_reducible rfl) (by decide) ?_
     refine oP (by simp only [kC, seval, vint, qC, r0, q0, hg] <;> with_reducible rfl) (by simp only [kC, seval]) (by decide) Tryzgo63 (at_c (by exact q0 _) hl p0.pos [[40]] (by decide)) ?_
     refine e_end (by simp only [kA, seval, vint, qC, r0, q0, hg] <;> with_reducible rfl) (by decide) ?_
     repeat refine wS ?_
     refine wC rfl (by simp only [jN, seval, vint, qC, r0, q0, hg] <;> with_reducible rfl) (fun bt49 => ?_) (fun bt49 => ?_)
     ·-- if t49
      rw [ifT bt49] at hm
      repeat refine wS ?_
      refine wR ?_
      refine eT 2 (by simp only [kA, seval, y84, vint, qC, r0, q0, hg] <;> with_reducible rfl) (by decide) ?_
      obtain ⟨s1, e1, hm⟩ := oB hm
      refine oC (by simp only [kC, seval, vint, qC, r0, q0, hg] <;> with_reducible rfl) (by simp only [kC, seval]) (by decide) Tryzgo67 (by exact FC.ap (node_c toks ip 60 183 [] [.optr (H0.length) 0] Tryzgo183 (stbL [(0, gO), (H0.length, .row [.optr ip 0])]) (m185_w (n := n) IH (H0.length) )) e1 p0 ⟨⟨k0a, n0a⟩, ⟨k0b, n0b⟩, trivial⟩) ?_
      rintro _ H1 ⟨rfl, F1, p1, g1⟩
      have f1 : Fr F0 F1 H0 H1 := f0.step g1
      obtain ⟨st1, r1⟩ := p1.row
      have q1 := getL r1
      obtain ⟨k1a, n1a⟩ := g1.get k0a n0a
      have b1a := getL k1a
      obtain ⟨k1b, n1b⟩ := g1.get k0b n0b
      have b1b := getL k1b
      obtain ⟨k1c, n1c⟩ := g1.get k0c n0c
      have b1c := getL k1c
      refine oN ?_
      refine ⟨.inl rfl, _, rfl, ?_⟩
      injection hm with hm
      subst hm
      exact ⟨rfl, F1, p1, f1⟩
     ·-- else t49
      rw [ifF bt49] at hm
      repeat refine wS ?_
      refine wR ?_
      refine eT 2 (by simp only [kA, seval, y9, y84, y56, vint, qC, r0, q0, hg] <;> with_reducible rfl) (by decide) ?_
      refine oP (by simp only [kC, seval, vint, qC, r0, q0, hg] <;> with_reducible rfl) (by simp only [kC, seval]) (by decide) Tryzgo63 (at_c (by exact q0 _) hl p0.pos [[123]] (by decide)) ?_
      refine e_end (by simp only [kA, seval, vint, qC, r0, q0, hg] <;> with_reducible rfl) (by decide) ?_
      repeat refine wS ?_
      refine wC rfl (by simp only [jN, seval, vint, qC, r0, q0, hg] <;> with_reducible rfl) (fun bt56 => ?_) (fun bt56 => ?_)
      ·-- if t56
       rw [ifT bt56] at hm
       repeat refine wS ?_
       refine wR ?_
       refine eT 1 (by simp only [kA, seval, y84, vint, qC, r0, q0, hg] <;> with_reducible rfl) (by decide) ?_
       obtain ⟨s1, e1, hm⟩ := oB hm
       refine oC (by simp only [kC, seval, vint, qC, r0, q0, hg] <;> with_reducible rfl) (by simp only [kC, seval]) (by decide) Tryzgo121 (by exact FG.ap' (IH .block) e1 p0 ⟨k0a, n0a⟩) ?_
       rintro _ H1 ⟨rfl, F1, p1, g1⟩
       have f1 : Fr F0 F1 H0 H1 := f0.step g1
       obtain ⟨st1, r1⟩ := p1.row
       have q1 := getL r1
       obtain ⟨k1a, n1a⟩ := g1.get k0a n0a
       have b1a := getL k1a
       obtain ⟨k1b, n1b⟩ := g1.get k0b n0b
       have b1b := getL k1b
       obtain ⟨k1c, n1c⟩ := g1.get k0c n0c
       have b1c := getL k1c
       refine oN ?_
       refine ⟨.inl rfl, _, rfl, ?_⟩
       injection hm with hm
       subst hm
       exact ⟨rfl, F1, p1, f1⟩
      ·-- else t56
       rw [ifF bt56] at hm
       repeat refine wS ?_
       refine wR ?_
       refine eT 2 (by simp only [kA, seval, y9, y84, y56, vint, qC, r0, q0, hg] <;> with_reducible rfl) (by decide) ?_
       refine oP (by simp only [kC, seval, vint, qC, r0, q0, hg] <;> with_reducible rfl) (by simp only [kC, seval]) (by decide) Tryzgo63 (at_c (by exact q0 _) hl p0.pos [[105, 102]] (by decide)) ?_
       refine e_end (by simp only [kA, seval, vint, qC, r0, q0, hg] <;> with_reducible rfl) (by decide) ?_
       repeat refine wS ?_
       refine wC rfl (by simp only [jN, seval, vint, qC, r0, q0, hg] <;> with_reducible rfl) (fun bt62 => ?_) (fun bt62 => ?_)
       ·-- if t62
        rw [ifT bt62] at hm
        refine wL [1] (by simp only [jN, seval, vint, qC, r0, q0, hg] <;> with_reducible rfl) ?_
        repeat refine wS ?_
        refine wR ?_
        refine eT 1 (by simp only [kA, seval, y84, vint, qC, r0, q0, hg] <;> with_reducible rfl) (by decide) ?_
        obtain ⟨s1, e1, hm⟩ := oB hm
        refine oC (by simp only [kC, seval, vint, qC, r0, q0, hg] <;> with_reducible rfl) (by simp only [kC, seval]) (by decide) Tryzgo184 (by exact FG.ap' (IH .ifExpr) e1 p0 ⟨k0a, n0a⟩) ?_
        rintro _ H1 ⟨rfl, F1, p1, g1⟩
        have f1 : Fr F0 F1 H0 H1 := f0.step g1
        obtain ⟨st1, r1⟩ := p1.row
        have q1 := getL r1
        obtain ⟨k1a, n1a⟩ := g1.get k0a n0a
        have b1a := getL k1a
        obtain ⟨k1b, n1b⟩ := g1.get k0b n0b
        have b1b := getL k1b
        obtain ⟨k1c, n1c⟩ := g1.get k0c n0c
        have b1c := getL k1c
        refine oN ?_
        refine ⟨.inl rfl, _, rfl, ?_⟩
        injection hm with hm
        subst hm
        exact ⟨rfl, F1, p1, f1⟩
       ·-- else t62
        rw [ifF bt62] at hm
        refine wL [1] (by simp only [jN, seval, vint, qC, r0, q0, hg] <;> with_reducible rfl) ?_
        repeat refine wS ?_
        refine wR ?_
        refine eT 2 (by simp only [kA, seval, y9, y84, y56, vint, qC, r0, q0, hg] <;> with_reducible rfl) (by decide) ?_
        refine oP (by simp only [kC, seval, vint, qC, r0, q0, hg] <;> with_reducible rfl) (by simp only [kC, seval]) (by decide) Tryzgo63 (at_c (by exact q0 _) hl p0.pos [[109, 97, 116, 99, 104]] (by decide)) ?_
        refine e_end (by simp only [kA, seval, vint, qC, r0, q0, hg] <;> with_reducible rfl) (by decide) ?_
        repeat refine wS ?_
        refine wC rfl (by simp only [jN, seval, vint, qC, r0, q0, hg] <;> with_reducible rfl) (fun bt68 => ?_) (fun bt68 => ?_)
        ·-- if t68
         rw [ifT bt68] at hm
         repeat refine wS ?_
         refine wR ?_
         refine eT 3 (by simp only [kA, seval, y84, vint, qC, r0, q0, hg] <;> with_reducible rfl) (by decide) ?_
         obtain ⟨s1, e1, hm⟩ := oB hm
         refine oC (by simp only [kC, seval, vint, qC, r0, q0, hg] <;> with_reducible rfl) (by simp only [kC, seval]) (by decide) Tryzgo67 (by exact FC.ap (node_c toks ip 35 185 [.optr ip 0] [] Tryzgo185 (stbL [(0, gO)]) (FG.fc (IH .matchE))) e1 p0 ⟨⟨k0a, n0a⟩, trivial⟩) ?_
         rintro _ H1 ⟨rfl, F1, p1, g1⟩
         have f1 : Fr F0 F1 H0 H1 := f0.step g1
         obtain ⟨st1, r1⟩ := p1.row
         have q1 := getL r1
         obtain ⟨k1a, n1a⟩ := g1.get k0a n0a
         have b1a := getL k1a
         obtain ⟨k1b, n1b⟩ := g1.get k0b n0b
         have b1b := getL k1b
         obtain ⟨k1c, n1c⟩ := g1.get k0c n0c
         have b1c := getL k1c
         refine oN ?_
         refine ⟨.inl rfl, _, rfl, ?_⟩
         injection hm with hm
         subst hm
         exact ⟨rfl, F1, p1, f1⟩
        ·-- else t68
         rw [ifF bt68] at hm
         repeat refine wS ?_
         refine wR ?_
         refine eT 2 (by simp only [kA, seval, y9, y84, y56, vint, qC, r0, q0, hg] <;> with_reducible rfl) (by decide) ?_
         refine oP (by simp only [kC, seval, vint, qC, r0, q0, hg] <;> with_reducible rfl) (by simp only [kC, seval]) (by decide) Tryzgo63 (at_c (by exact q0 _) hl p0.pos [[110, 101, 119]] (by decide)) ?_
         refine e_end (by simp only [kA, seval, vint, qC, r0, q0, hg] <;> with_reducible rfl) (by decide) ?_
         repeat refine wS ?_
         refine wC rfl (by simp only [jN, seval, vint, qC, r0, q0, hg] <;> with_reducible rfl) (fun bt76 => ?_) (fun bt76 => ?_)
         ·-- if t76
          rw [ifT bt76] at hm
          repeat refine wS ?_
          refine wR ?_
          refine eT 3 (by simp only [kA, seval, y84, vint, qC, r0, q0, hg] <;> with_reducible rfl) (by decide) ?_
          obtain ⟨s1, e1, hm⟩ := oB hm
          refine oC (by simp only [kC, seval, vint, qC, r0, q0, hg] <;> with_reducible rfl) (by simp only [kC, seval]) (by decide) Tryzgo67 (by exact FC.ap (node_c toks ip 33 186 [.optr ip 0] [] Tryzgo186 (stbL [(0, gO)]) (FG.fc (IH .structLit))) e1 p0 ⟨⟨k0a, n0a⟩, trivial⟩) ?_
          rintro _ H1 ⟨rfl, F1, p1, g1⟩
          have f1 : Fr F0 F1 H0 H1 := f0.step g1
          obtain ⟨st1, r1⟩ := p1.row
          have q1 := getL r1
          obtain ⟨k1a, n1a⟩ := g1.get k0a n0a
          have b1a := getL k1a
          obtain ⟨k1b, n1b⟩ := g1.get k0b n0b
          have b1b := getL k1b
          obtain ⟨k1c, n1c⟩ := g1.get k0c n0c
          have b1c := getL k1c
          refine oN ?_
          refine ⟨.inl rfl, _, rfl, ?_⟩
          injection hm with hm
          subst hm
          exact ⟨rfl, F1, p1, f1⟩
         ·-- else t76
          rw [ifF bt76] at hm
          repeat refine wS ?_
          refine wR ?_
          refine eT 2 (by simp only [kA, seval, y9, y84, y56, vint, qC, r0, q0, hg] <;> with_reducible rfl) (by decide) ?_
          refine oP (by simp only [kC, seval, vint, qC, r0, q0, hg] <;> with_reducible rfl) (by simp only [kC, seval]) (by decide) Tryzgo63 (at_c (by exact q0 _) hl p0.pos [[124], [124, 124]] (by decide)) ?_
          refine e_end (by simp only [kA, seval, vint, qC, r0, q0, hg] <;> with_reducible rfl) (by decide) ?_
          repeat refine wS ?_
          refine wC rfl (by simp only [jN, seval, vint, qC, r0, q0, hg] <;> with_reducible rfl) (fun bt84 => ?_) (fun bt84 => ?_)
          ·-- if t84
           rw [ifT bt84] at hm
           repeat refine wS ?_
           refine wR ?_
           refine eT 3 (by simp only [kA, seval, y84, vint, qC, r0, q0, hg] <;> with_reducible rfl) (by decide) ?_
           obtain ⟨s1, e1, hm⟩ := oB hm
           refine oC (by simp only [kC, seval, vint, qC, r0, q0, hg] <;> with_reducible rfl) (by simp only [kC, seval]) (by decide) Tryzgo67 (by exact FC.ap (node_c toks ip 38 187 [.optr ip 0] [] Tryzgo187 (stbL [(0, gO)]) (FG.fc (IH .lambda))) e1 p0 ⟨⟨k0a, n0a⟩, trivial⟩) ?_
           rintro _ H1 ⟨rfl, F1, p1, g1⟩
           have f1 : Fr F0 F1 H0 H1 := f0.step g1
           obtain ⟨st1, r1⟩ := p1.row
           have q1 := getL r1
           obtain ⟨k1a, n1a⟩ := g1.get k0a n0a
           have b1a := getL k1a
           obtain ⟨k1b, n1b⟩ := g1.get k0b n0b
           have b1b := getL k1b
           obtain ⟨k1c, n1c⟩ := g1.get k0c n0c
           have b1c := getL k1c
           refine oN ?_
           refine ⟨.inl rfl, _, rfl, ?_⟩
           injection hm with hm
           subst hm
           exact ⟨rfl, F1, p1, f1⟩
          ·-- else t84
           rw [ifF bt84] at hm
           repeat refine wS ?_
           refine wR ?_
           refine eT 1 (by simp only [kA, seval, y84, vint, qC, r0, q0, hg] <;> with_reducible rfl) (by decide) ?_
           obtain ⟨s1, e1, hm⟩ := oB hm
           refine oC (by simp only [kC, seval, vint, qC, r0, q0, hg] <;> with_reducible rfl) (by simp only [kC, seval]) (by decide) Tryzgo134 (by exact FN.ap (missingNode_c toks ip) e1 p0 _) ?_
           rintro _ H1 ⟨rfl, F1, p1, g1⟩
           have f1 : Fr F0 F1 H0 H1 := f0.step g1
           obtain ⟨st1, r1⟩ := p1.row
           have q1 := getL r1
           obtain ⟨k1a, n1a⟩ := g1.get k0a n0a
           have b1a := getL k1a
           obtain ⟨k1b, n1b⟩ := g1.get k0b n0b
           have b1b := getL k1b
           obtain ⟨k1c, n1c⟩ := g1.get k0c n0c
           have b1c := getL k1c
           refine oN ?_
           refine ⟨.inl rfl, _, rfl, ?_⟩
           injection hm with hm
           subst hm
           exact ⟨rfl, F1, p1, f1⟩
def m177 (toks : List Tk) (n : Nat) (R : Rec) (s0 : PS) : Option PS := (loopM (fun s1 => atT (peekT toks s1.pos) [[40], [46]]) (fun s1 => if atT (peekT toks s1.pos) [[40]] = true then (((wrapM 30 (R .arguments)) s1).bind fun s2 => some s2) else ((lookM toks s1).bind fun sq2 => if decide ((peekT toks sq2.pos).kind = 103) = true then ((lookM toks sq2).bind fun sq3 => if atT (peekT toks sq3.pos) [[40]] = true then (((wrapM 31 (m191 toks n R )) s1).bind fun s4 => some s4) else (((wrapM 32 (m192 toks n R )) s1).bind fun s4 => some s4)) else (((wrapM 32 (m192 toks n R )) s1).bind fun s3 => some s3))) n s0).bind fun s1 => some s1
theorem m177_w {toks : List Tk} {ip n : Nat} {R : Rec} (IH : IHs toks ip R) : FG toks ip 175 [.optr ip 0] (m177 toks n R ) (frv .postfx) := by
 intro s0 s' F0 H0 hm p0 i0
 obtain ⟨⟨hg, n0a⟩, _⟩ := i0
 obtain ⟨st0, r0⟩ := p0.row
 have q0 := getL r0
 have hl := lim_le p0.len
 have f0 := Fr.refl F0 H0
 have k0a := getL hg [.row [.optr ip 0]]
 have b0a := getL k0a
 have k0b : (H0 ++ [.row [.optr ip 0]])[H0.length]? = some (.row [.optr ip 0]) := by simp
 have n0b := p0.new0
 have b0b := getL k0b
 unfold m177 at hm
 refine aF (N := 29) Tryz.func175 rfl rfl (by simp) fun hb' => ?_
 repeat refine wS ?_
 refine eE (by simp only [kA, seval, y84, vint, qC, r0, q0, hg] <;> with_reducible rfl) (by decide) ?_
 repeat refine wS ?_
 obtain ⟨sL1, eL1, hm⟩ := oB hm
 have hmo1 := hm
 clear hm
 refine awp_block ?_
 refine awp_loopX (σ := Nat × PS × List Nat) (fun (z : Nat × PS × List Nat) => [(0, .optr ip 0), (1, .optr (H0.length) 0)]) (fun (z : Nat × PS × List Nat) =>  fun H1 => loopM (fun s1 => atT (peekT toks s1.pos) [[40], [46]]) (fun s1 => if atT (peekT toks s1.pos) [[40]] = true then (((wrapM 30 (R .arguments)) s1).bind fun s2 => some s2) else ((lookM toks s1).bind fun sq2 => if decide ((peekT toks sq2.pos).kind = 103) = true then ((lookM toks sq2).bind fun sq3 => if atT (peekT toks sq3.pos) [[40]] = true then (((wrapM 31 (m191 toks n R )) s1).bind fun s4 => some s4) else (((wrapM 32 (m192 toks n R )) s1).bind fun s4 => some s4)) else (((wrapM 32 (m192 toks n R )) s1).bind fun s3 => some s3))) z.1 z.2.1 = some sL1 ∧ PSt toks ip z.2.1 z.2.2 H1 ∧ Fr F0 z.2.2 H0 H1 ∧ (H1[0]? = some (gO) ∧ (0) ∉ z.2.2) ∧ (H1[H0.length]? = some (.row [.optr ip 0]) ∧ (H0.length) ∉ z.2.2)) (fun (z : Nat × PS × List Nat) => z.1) ((n, s0, F0)) ⟨(by first | rfl | (simp only [jN, seval, vint, qC, r0, q0, hg] <;> first | done | with_reducible rfl)), (by first | rfl | (simp only [jN, seval, vint, qC, r0, q0, hg] <;> first | done | with_reducible rfl)), trivial⟩ (⟨eL1, (p0.app _), (f0.app _), ⟨k0a, n0a⟩, ⟨k0b, n0b⟩⟩) ?_
 intro z H1 hg
 obtain ⟨k1, s1, F1⟩ := z
 obtain ⟨hk1, p1, f1, ⟨k1a, n1a⟩, ⟨k1b, n1b⟩⟩ := hg
 simp only at hk1 p1 f1 k1a n1a k1b n1b
 obtain ⟨st1, r1⟩ := p1.row
 have q1 := getL r1
 have b1a := getL k1a
 have b1b := getL k1b
 cases k1 with
 | zero => cases hk1
 | succ k1 => ?_
 repeat refine wS ?_
 refine wR ?_
 refine eT 2 (by simp only [kA, seval, y9, y84, y56, vint, qC, hg, r1, q1, k1a, b1a, k1b, b1b] <;> with_reducible rfl) (by decide) ?_
 refine oP (by simp only [kC, seval, vint, qC, hg, r1, q1, k1a, b1a, k1b, b1b] <;> with_reducible rfl) (by simp only [kC, seval]) (by decide) Tryzgo63 (at_c r1 hl p1.pos [[40], [46]] (by decide)) ?_
 refine oN ?_
 repeat refine wS ?_
 refine wC rfl (by simp only [jN, seval, vint, qC, hg, r1, q1, k1a, b1a, k1b, b1b] <;> with_reducible rfl) (fun bt5 => ?_) (fun bt5 => ?_)
 ·-- if t5
  unfold loopM at hk1
  rw [ifT bt5] at hk1
  obtain ⟨sB1, hm, hk1⟩ := oB hk1
  repeat refine wS ?_
  refine wK ?_
  repeat refine wS ?_
  refine awp_block ?_
  repeat refine wS ?_
  refine wR ?_
  refine eT 2 (by simp only [kA, seval, y9, y84, y56, vint, qC, hg, r1, q1, k1a, b1a, k1b, b1b] <;> with_reducible rfl) (by decide) ?_
  refine oP (by simp only [kC, seval, vint, qC, hg, r1, q1, k1a, b1a, k1b, b1b] <;> with_reducible rfl) (by simp only [kC, seval]) (by decide) Tryzgo63 (at_c r1 hl p1.pos [[40]] (by decide)) ?_
  refine oN ?_
  repeat refine wS ?_
  refine wC rfl (by simp only [jN, seval, vint, qC, hg, r1, q1, k1a, b1a, k1b, b1b] <;> with_reducible rfl) (fun bt8 => ?_) (fun bt8 => ?_)
  ·-- if t8
   rw [ifT bt8] at hm
   repeat refine wS ?_
   refine wR ?_
   refine eT 3 (by simp only [kA, seval, y84, vint, qC, hg, r1, q1, k1a, b1a, k1b, b1b] <;> with_reducible rfl) (by decide) ?_
   obtain ⟨s2, e2, hm⟩ := oB hm
   refine oC (by simp only [kC, seval, vint, qC, hg, r1, q1, k1a, b1a, k1b, b1b] <;> with_reducible rfl) (by simp only [kC, seval]) (by decide) Tryzgo156 (by exact FC.ap0 (wrap_c toks ip 30 182 [.optr ip 0] [] Tryzgo182 (stbL [(0, gO)]) (FG.fc (IH .arguments))) e2 p1 ⟨⟨k1a, n1a⟩, trivial⟩) ?_
   rintro _ H2 ⟨rfl, F2, p2, g2⟩
   have f2 : Fr F0 F2 H0 H2 := f1.trans g2
   obtain ⟨st2, r2⟩ := p2.row
   have q2 := getL r2
   obtain ⟨k2a, n2a⟩ := g2.get k1a n1a
   have b2a := getL k2a
   obtain ⟨k2b, n2b⟩ := g2.get k1b n1b
   have b2b := getL k2b
   refine oN ?_
   repeat refine wS ?_
   refine awp_exit ?_
   simp only [thenQ, blockQ, reduceIte, Nat.reduceEqDiff, Nat.succ_ne_self, if_true, if_false]
   try simp only [thenQ, blockQ]
   injection hm with hm
   subst hm
   exact ⟨(k1, _, F2), Nat.lt_succ_self _, ⟨rfl, rfl, trivial⟩, hk1, p2, f2, ⟨k2a, n2a⟩, ⟨k2b, n2b⟩⟩
  ·-- else t8
   rw [ifF bt8] at hm
   repeat refine wS ?_
   refine wK ?_
   repeat refine wS ?_
   refine wR ?_
   refine eT 1 (by simp only [kA, seval, y84, vint, qC, hg, r1, q1, k1a, b1a, k1b, b1b] <;> with_reducible rfl) (by decide) ?_
   obtain ⟨sq2, e2, hm⟩ := oB hm
   refine oC (by simp only [kC, seval, vint, qC, hg, r1, q1, k1a, b1a, k1b, b1b] <;> with_reducible rfl) (by simp only [kC, seval]) (by decide) Tryzgo64 (by exact look_c0 e2 p1) ?_
   rintro _ H2 ⟨iq2, Fq2, rfl, pq2_2, g2⟩
   obtain ⟨F2, nf2, p2, f2⟩ := (by exact look_keep0 p1 f1 g2)
   obtain ⟨st2, r2⟩ := p2.row
   have q2 := getL r2
   obtain ⟨k2a, n2a⟩ := (by exact look_get g2 k1a n1a nf2)
   have b2a := getL k2a
   obtain ⟨k2b, n2b⟩ := (by exact look_get g2 k1b n1b nf2)
   have b2b := getL k2b
   obtain ⟨stq2_2, rq2_2⟩ := pq2_2.row
   have qq2_2 := getL rq2_2
   refine e_end (by simp only [kA, seval, vint, qC, hg, r2, q2, k2a, b2a, k2b, b2b] <;> with_reducible rfl) (by decide) ?_
   rcases Bool.eq_false_or_eq_true (decide ((peekT toks sq2.pos).kind = 103)) with hd5 | hd5
   ·-- case
    rw [ifT hd5] at hm
    repeat refine wS ?_
    refine wR ?_
    refine eT 1 (by simp only [kA, seval, vint, qC, hg, r2, q2, k2a, b2a, k2b, b2b, hd5] <;> with_reducible rfl) (by decide) ?_
    refine oP (by simp only [kC, seval, vint, qC, hg, r2, q2, k2a, b2a, k2b, b2b, hd5] <;> with_reducible rfl) (by simp only [kC, seval]) (by decide) Tryzgo124 (atIdent_c rq2_2 hl pq2_2.pos) ?_
    refine eT 2 (by simp only [kA, seval, vint, qC, hg, r2, q2, k2a, b2a, k2b, b2b, hd5] <;> with_reducible rfl) (by decide) ?_
    obtain ⟨sq3, e3, hm⟩ := oB hm
    refine oC (by simp only [kC, seval, vint, qC, hg, r2, q2, k2a, b2a, k2b, b2b, hd5] <;> with_reducible rfl) (by simp only [kC, seval]) (by decide) Tryzgo64 (by exact look_c0 e3 pq2_2) ?_
    rintro _ H3 ⟨iq3, Fq3, rfl, pq3_3, g3⟩
    obtain ⟨F3, nf3, p3, f3⟩ := (by exact look_keep0 p2 f2 g3)
    obtain ⟨st3, r3⟩ := p3.row
    have q3 := getL r3
    obtain ⟨k3a, n3a⟩ := (by exact look_get g3 k2a n2a nf3)
    have b3a := getL k3a
    obtain ⟨k3b, n3b⟩ := (by exact look_get g3 k2b n2b nf3)
    have b3b := getL k3b
    have pq2_3 := (by exact look_keepq0 pq2_2 g3)
    obtain ⟨stq2_3, rq2_3⟩ := pq2_3.row
    have qq2_3 := getL rq2_3
    obtain ⟨stq3_3, rq3_3⟩ := pq3_3.row
    have qq3_3 := getL rq3_3
    refine eT 1 (by simp only [kA, seval, y9, y56, vint, qC, hg, hd5, r3, q3, k3a, b3a, k3b, b3b] <;> with_reducible rfl) (by decide) ?_
    refine oP (by simp only [kC, seval, vint, qC, hg, hd5, r3, q3, k3a, b3a, k3b, b3b] <;> with_reducible rfl) (by simp only [kC, seval]) (by decide) Tryzgo63 (at_c rq3_3 hl pq3_3.pos [[40]] (by decide)) ?_
    refine e_end (by simp only [kA, seval, vint, qC, hg, hd5, r3, q3, k3a, b3a, k3b, b3b] <;> with_reducible rfl) (by decide) ?_
    repeat refine wS ?_
    refine wC rfl (by simp only [jN, seval, vint, qC, hg, hd5, r3, q3, k3a, b3a, k3b, b3b] <;> with_reducible rfl) (fun bt22 => ?_) (fun bt22 => ?_)
    ·-- if t22
     rw [ifT bt22] at hm
     refine wL [0, 1] (by simp only [jN, seval, vint, qC, hg, hd5, r3, q3, k3a, b3a, k3b, b3b] <;> with_reducible rfl) ?_
     repeat refine wS ?_
     refine wR ?_
     refine eT 2 (by simp only [kA, seval, y84, vint, qC, hg, hd5, r3, q3, k3a, b3a, k3b, b3b] <;> with_reducible rfl) (by decide) ?_
     obtain ⟨s4, e4, hm⟩ := oB hm
     refine oC (by simp only [kC, seval, vint, qC, hg, hd5, r3, q3, k3a, b3a, k3b, b3b] <;> with_reducible rfl) (by simp only [kC, seval]) (by decide) Tryzgo156 (by exact FC.ap0 (wrap_c toks ip 31 189 [] [.optr (H0.length) 0] Tryzgo189 (stbL [(0, gO), (H0.length, .row [.optr ip 0])]) (m191_w (n := n) IH (H0.length) )) e4 p3 ⟨⟨k3a, n3a⟩, ⟨k3b, n3b⟩, trivial⟩) ?_
     rintro _ H4 ⟨rfl, F4, p4, g4⟩
     have f4 : Fr F0 F4 H0 H4 := f3.trans g4
     obtain ⟨st4, r4⟩ := p4.row
     have q4 := getL r4
     obtain ⟨k4a, n4a⟩ := g4.get k3a n3a
     have b4a := getL k4a
     obtain ⟨k4b, n4b⟩ := g4.get k3b n3b
     have b4b := getL k4b
     refine oN ?_
     repeat refine wS ?_
     refine awp_exit ?_
     simp only [thenQ, blockQ, reduceIte, Nat.reduceEqDiff, Nat.succ_ne_self, if_true, if_false]
     try simp only [thenQ, blockQ]
     injection hm with hm
     subst hm
     exact ⟨(k1, _, F4), Nat.lt_succ_self _, ⟨rfl, rfl, trivial⟩, hk1, p4, f4, ⟨k4a, n4a⟩, ⟨k4b, n4b⟩⟩
    ·-- else t22
     rw [ifF bt22] at hm
     repeat refine wS ?_
     refine wK ?_
     refine wL [0, 1] (by simp only [jN, seval, vint, qC, hg, hd5, r3, q3, k3a, b3a, k3b, b3b] <;> with_reducible rfl) ?_
     repeat refine wS ?_
     refine wR ?_
     refine eT 2 (by simp only [kA, seval, y84, vint, qC, hg, hd5, r3, q3, k3a, b3a, k3b, b3b] <;> with_reducible rfl) (by decide) ?_
     obtain ⟨s4, e4, hm⟩ := oB hm
     refine oC (by simp only [kC, seval, vint, qC, hg, hd5, r3, q3, k3a, b3a, k3b, b3b] <;> with_reducible rfl) (by simp only [kC, seval]) (by decide) Tryzgo156 (by exact FC.ap0 (wrap_c toks ip 32 190 [] [.optr (H0.length) 0] Tryzgo190 (stbL [(0, gO), (H0.length, .row [.optr ip 0])]) (m192_w (n := n) IH (H0.length) )) e4 p3 ⟨⟨k3a, n3a⟩, ⟨k3b, n3b⟩, trivial⟩) ?_
     rintro _ H4 ⟨rfl, F4, p4, g4⟩
     have f4 : Fr F0 F4 H0 H4 := f3.trans g4
     obtain ⟨st4, r4⟩ := p4.row
     have q4 := getL r4
     obtain ⟨k4a, n4a⟩ := g4.get k3a n3a
     have b4a := getL k4a
     obtain ⟨k4b, n4b⟩ := g4.get k3b n3b
     have b4b := getL k4b
     refine oN ?_
     try simp only [thenQ, blockQ]
     injection hm with hm
     subst hm
     exact ⟨(k1, _, F4), Nat.lt_succ_self _, ⟨rfl, rfl, trivial⟩, hk1, p4, f4, ⟨k4a, n4a⟩, ⟨k4b, n4b⟩⟩
   ·-- case
    rw [ifF hd5] at hm
    repeat refine wS ?_
    refine wR ?_
    refine eT 1 (by simp only [kA, seval, vint, qC, hg, r2, q2, k2a, b2a, k2b, b2b, hd5] <;> with_reducible rfl) (by decide) ?_
    refine oP (by simp only [kC, seval, vint, qC, hg, r2, q2, k2a, b2a, k2b, b2b, hd5] <;> with_reducible rfl) (by simp only [kC, seval]) (by decide) Tryzgo124 (atIdent_c rq2_2 hl pq2_2.pos) ?_
    refine e_end (by simp only [kA, seval, y9, y56, vint, qC, hg, r2, q2, k2a, b2a, k2b, b2b, hd5] <;> with_reducible rfl) (by decide) ?_
    repeat refine wS ?_
    refine wF rfl (by simp only [jN, seval, vint, qC, hg, r2, q2, k2a, b2a, k2b, b2b, hd5] <;> with_reducible rfl) ?_
    repeat refine wS ?_
    refine wK ?_
    refine wL [0, 1] (by simp only [jN, seval, vint, qC, hg, r2, q2, k2a, b2a, k2b, b2b, hd5] <;> with_reducible rfl) ?_
    repeat refine wS ?_
    refine wR ?_
    refine eT 2 (by simp only [kA, seval, y84, vint, qC, hg, r2, q2, k2a, b2a, k2b, b2b, hd5] <;> with_reducible rfl) (by decide) ?_
    obtain ⟨s3, e3, hm⟩ := oB hm
    refine oC (by simp only [kC, seval, vint, qC, hg, r2, q2, k2a, b2a, k2b, b2b, hd5] <;> with_reducible rfl) (by simp only [kC, seval]) (by decide) Tryzgo156 (by exact FC.ap0 (wrap_c toks ip 32 190 [] [.optr (H0.length) 0] Tryzgo190 (stbL [(0, gO), (H0.length, .row [.optr ip 0])]) (m192_w (n := n) IH (H0.length) )) e3 p2 ⟨⟨k2a, n2a⟩, ⟨k2b, n2b⟩, trivial⟩) ?_
    rintro _ H3 ⟨rfl, F3, p3, g3⟩
    have f3 : Fr F0 F3 H0 H3 := f2.trans g3
    obtain ⟨st3, r3⟩ := p3.row
    have q3 := getL r3
    obtain ⟨k3a, n3a⟩ := g3.get k2a n2a
    have b3a := getL k3a
    obtain ⟨k3b, n3b⟩ := g3.get k2b n2b
    have b3b := getL k3b
    refine oN ?_
    try simp only [thenQ, blockQ]
    injection hm with hm
    subst hm
    exact ⟨(k1, _, F3), Nat.lt_succ_self _, ⟨rfl, rfl, trivial⟩, hk1, p3, f3, ⟨k3a, n3a⟩, ⟨k3b, n3b⟩⟩
 ·-- else t5
  unfold loopM at hk1
  rw [ifF bt5] at hk1
  injection hk1 with hk1
  subst hk1
  have hm := hmo1
  repeat refine wS ?_
  refine awp_exit ?_
  simp only [thenQ, blockQ, reduceIte, Nat.reduceEqDiff, Nat.succ_ne_self, if_true, if_false]
  refine ⟨.inl trivial, _, rfl, ?_⟩
  injection hm with hm
  subst hm
  exact ⟨rfl, F1, p1, f1⟩
end Go.Abs
namespace Go.Abs
open Go.Proofs
def m157 (toks : List Tk) (n : Nat) (R : Rec) (l : Nat) (s0 : PS) : Option PS := if l < 5 then ((bumpM toks) s0).bind fun s1 => ((R (.binary (l + 1))) s1).bind fun s2 => some s2 else none
theorem m157_w {toks : List Tk} {ip n : Nat} {R : Rec} (IH : IHs toks ip R) (b0 b1 : Nat) (l : Nat) : FC Tryz.prog toks ip 157 [.optr b0 0, .optr b1 0] (m157 toks n R l) unitR (EnvL [(0, gO), (b0, .row [.optr ip 0]), (b1, .row [.int .i64 ((l : Nat) : Int)])]) := by
 refine fc_of fun s0 s' F0 H0 hm p0 i0 => ?_
 obtain ⟨⟨k0a, n0a⟩, ⟨k0b, n0b⟩, ⟨k0c, n0c⟩, _⟩ := i0
 have b0a := getL k0a
 have b0b := getL k0b
 have b0c := getL k0c
 obtain ⟨st0, r0⟩ := p0.row
 have q0 := getL r0
 have hl := lim_le p0.len
 have f0 := Fr.refl F0 H0
 unfold m157 at hm
 split at hm
 case isFalse => cases hm
 rename_i hl5
 have gw : IntKind.i64.wrap (((l : Nat) : Int) + 1) = ((l + 1 : Nat) : Int) := by rw [wrap_id (by omega) (by omega)]; omega
 refine aF (N := 8) Tryz.func157 rfl rfl (by simp) fun hb' => ?_
 repeat refine wS ?_
 refine wR ?_
 refine eT 1 (by simp only [kA, seval, y84, vint, qC, gw, r0, q0, k0a, b0a, k0b, b0b, k0c, b0c] <;> with_reducible rfl) (by decide) ?_
 obtain ⟨s1, e1, hm⟩ := oB hm
 refine oC (by simp only [kC, seval, vint, qC, gw, r0, q0, k0a, b0a, k0b, b0b, k0c, b0c] <;> with_reducible rfl) (by simp only [kC, seval]) (by decide) Tryzgo70 (by exact FN.ap0 (bump_c toks ip) e1 p0) ?_
 rintro _ H1 ⟨rfl, F1, p1, g1⟩
 have f1 : Fr F0 F1 H0 H1 := f0.trans g1
 obtain ⟨st1, r1⟩ := p1.row
 have q1 := getL r1
 obtain ⟨k1a, n1a⟩ := g1.get k0a n0a
 have b1a := getL k1a
 obtain ⟨k1b, n1b⟩ := g1.get k0b n0b
 have b1b := getL k1b
 obtain ⟨k1c, n1c⟩ := g1.get k0c n0c
 have b1c := getL k1c
 refine oN ?_
 repeat refine wS ?_
 refine wR ?_
 refine eT 3 (by simp only [kA, seval, y3, y84, vint, qC, gw, r1, q1, k1a, b1a, k1b, b1b, k1c, b1c] <;> with_reducible rfl) (by decide) ?_
 obtain ⟨s2, e2, hm⟩ := oB hm
 refine oC (by simp only [kC, seval, vint, qC, gw, r1, q1, k1a, b1a, k1b, b1b, k1c, b1c] <;> with_reducible rfl) (by simp only [kC, seval]) (by decide) Tryzgo135 (by exact FG.ap0 (IH (.binary (l + 1))) e2 p1 ⟨k1a, n1a⟩) ?_
 rintro _ H2 ⟨rfl, F2, p2, g2⟩
 have f2 : Fr F0 F2 H0 H2 := f1.trans g2
 obtain ⟨st2, r2⟩ := p2.row
 have q2 := getL r2
 obtain ⟨k2a, n2a⟩ := g2.get k1a n1a
 have b2a := getL k2a
 obtain ⟨k2b, n2b⟩ := g2.get k1b n1b
 have b2b := getL k2b
 obtain ⟨k2c, n2c⟩ := g2.get k1c n1c
 have b2c := getL k2c
 refine oN ?_
 refine ⟨.inl rfl, _, rfl, ?_⟩
 injection hm with hm
 subst hm
 exact ⟨rfl, F2, p2, f2⟩
def m135 (toks : List Tk) (n : Nat) (R : Rec) (l : Nat) (s0 : PS) : Option PS := if l = 5 then ((R .unary) s0).bind fun s1 => some s1 else if l < 5 then ((R (.binary (l + 1))) s0).bind fun s1 => if l = 2 then (if atT (peekT toks s1.pos) (opsL l) = true then ((wrapM 39 (m157 toks n R (l))) s1).bind fun s3 => some s3 else some s1) else loopM (fun s2 => atT (peekT toks s2.pos) (opsL l)) (fun s2 => ((wrapM 39 (m157 toks n R (l))) s2).bind fun s3 => some s3) n s1 else none
theorem m135_w {toks : List Tk} {ip n : Nat} {R : Rec} (IH : IHs toks ip R) (l : Nat) : FG toks ip 135 [.optr ip 0, .int .i64 ((l : Nat) : Int)] (m135 toks n R l) (frv (.binary l)) := by
 intro s0 s' F0 H0 hm p0 i0
 obtain ⟨⟨hg, n0a⟩, _⟩ := i0
 obtain ⟨st0, r0⟩ := p0.row
 have q0 := getL r0
 have hl := lim_le p0.len
 have f0 := Fr.refl F0 H0
 have k0a := getL hg [.row [.optr ip 0], .row [.int .i64 ((l : Nat) : Int)]]
 have b0a := getL k0a
 have k0b : (H0 ++ [.row [.optr ip 0], .row [.int .i64 ((l : Nat) : Int)]])[H0.length]? = some (.row [.optr ip 0]) := by simp
 have n0b := p0.new0
 have b0b := getL k0b
 have k0c : (H0 ++ [.row [.optr ip 0], .row [.int .i64 ((l : Nat) : Int)]])[H0.length + 1]? = some (.row [.int .i64 ((l : Nat) : Int)]) := by simp
 have n0c := p0.new 1
 have b0c := getL k0c
 unfold m135 at hm
 have hcs : l = 5 ∨ (l ≠ 5 ∧ l < 5) := by
  by_cases h1 : l = 5
  ·exact .inl h1
  by_cases h2 : l < 5
  ·exact .inr ⟨h1, h2⟩
  rw [if_neg h1, if_neg h2] at hm; cases hm
 refine aF (N := 21) Tryz.func135 rfl rfl (by simp) fun hb' => ?_
 repeat refine wS ?_
 refine eE (by simp only [kA, seval, y3, y84, vint, qC, r0, q0, hg] <;> with_reducible rfl) (by decide) ?_
 rcases hcs with h5 | ⟨h5, hlv⟩
 ·-- case
  rw [if_pos h5] at hm
  have g5 : decide (((l : Nat) : Int) = 5) = true := decide_eq_true (by omega)
  repeat refine wS ?_
  refine eE (by simp only [kA, seval, y3, vint, qC, r0, q0, hg, g5] <;> with_reducible rfl) (by decide) ?_
  repeat refine wS ?_
  refine awp_cond_true rfl (by simp only [jN, seval, vint, qC, r0, q0, hg, g5] <;> with_reducible rfl) ?_
  repeat refine wS ?_
  refine wR ?_
  refine eT 1 (by simp only [kA, seval, y84, vint, qC, r0, q0, hg, g5] <;> with_reducible rfl) (by decide) ?_
  obtain ⟨s1, e1, hm⟩ := oB hm
  refine oC (by simp only [kC, seval, vint, qC, r0, q0, hg, g5] <;> with_reducible rfl) (by simp only [kC, seval]) (by decide) Tryzgo154 (by exact FG.ap' (IH .unary) e1 p0 ⟨k0a, n0a⟩) ?_
  rintro _ H1 ⟨rfl, F1, p1, g1⟩
  have f1 : Fr F0 F1 H0 H1 := f0.step g1
  obtain ⟨st1, r1⟩ := p1.row
  have q1 := getL r1
  obtain ⟨k1a, n1a⟩ := g1.get k0a n0a
  have b1a := getL k1a
  obtain ⟨k1b, n1b⟩ := g1.get k0b n0b
  have b1b := getL k1b
  obtain ⟨k1c, n1c⟩ := g1.get k0c n0c
  have b1c := getL k1c
  refine oN ?_
  repeat refine wS ?_
  refine wT ⟨.inr rfl, _, rfl, ?_⟩
  injection hm with hm
  subst hm
  exact ⟨rfl, F1, p1, f1⟩
 ·-- case
  rw [if_neg h5, if_pos hlv] at hm
  have g5 : decide (((l : Nat) : Int) = 5) = false := decide_eq_false (by omega)
  have gw : IntKind.i64.wrap (((l : Nat) : Int) + 1) = ((l + 1 : Nat) : Int) := by rw [wrap_id (by omega) (by omega)]; omega
  repeat refine wS ?_
  refine eE (by simp only [kA, seval, y3, vint, qC, r0, q0, hg, g5, gw] <;> with_reducible rfl) (by decide) ?_
  repeat refine wS ?_
  refine wF rfl (by simp only [jN, seval, vint, qC, r0, q0, hg, g5, gw] <;> with_reducible rfl) ?_
  repeat refine wS ?_
  refine wK ?_
  repeat refine wS ?_
  refine wR ?_
  refine eT 3 (by simp only [kA, seval, y3, y84, vint, qC, r0, q0, hg, g5, gw] <;> with_reducible rfl) (by decide) ?_
  obtain ⟨s1, e1, hm⟩ := oB hm
  refine oC (by simp only [kC, seval, vint, qC, r0, q0, hg, g5, gw] <;> with_reducible rfl) (by simp only [kC, seval]) (by decide) Tryzgo135 (by exact FG.ap' (IH (.binary (l + 1))) e1 p0 ⟨k0a, n0a⟩) ?_
  rintro _ H1 ⟨rfl, F1, p1, g1⟩
  have f1 : Fr F0 F1 H0 H1 := f0.step g1
  obtain ⟨st1, r1⟩ := p1.row
  have q1 := getL r1
  obtain ⟨k1a, n1a⟩ := g1.get k0a n0a
  have b1a := getL k1a
  obtain ⟨k1b, n1b⟩ := g1.get k0b n0b
  have b1b := getL k1b
  obtain ⟨k1c, n1c⟩ := g1.get k0c n0c
  have b1c := getL k1c
  refine oN ?_
  repeat refine wS ?_
  have hL : (l = 2 ∧ (if atT (peekT toks s1.pos) (opsL l) = true then ((wrapM 39 (m157 toks n R (l))) s1).bind fun s3 => some s3 else some s1) = some s') ∨ (l ≠ 2 ∧ loopM (fun s2 => atT (peekT toks s2.pos) (opsL l)) (fun s2 => ((wrapM 39 (m157 toks n R (l))) s2).bind fun s3 => some s3) n s1 = some s') := by
   by_cases h2 : l = 2
   ·rw [if_pos h2] at hm; exact .inl ⟨h2, hm⟩
   ·rw [if_neg h2] at hm; exact .inr ⟨h2, hm⟩
  refine awp_block ?_
  refine awp_loopX (σ := Nat × PS × List Nat) (fun (z : Nat × PS × List Nat) => [(2, .optr H0.length 0), (3, .optr (H0.length + 1) 0)]) (fun (z : Nat × PS × List Nat) =>  fun H2 => ((l = 2 ∧ (if atT (peekT toks z.2.1.pos) (opsL l) = true then ((wrapM 39 (m157 toks n R (l))) z.2.1).bind fun s3 => some s3 else some z.2.1) = some s') ∨ (l ≠ 2 ∧ loopM (fun s2 => atT (peekT toks s2.pos) (opsL l)) (fun s2 => ((wrapM 39 (m157 toks n R (l))) s2).bind fun s3 => some s3) z.1 z.2.1 = some s')) ∧ PSt toks ip z.2.1 z.2.2 H2 ∧ Fr F0 z.2.2 H0 H2 ∧ (H2[0]? = some (gO) ∧ (0) ∉ z.2.2) ∧ (H2[H0.length]? = some (.row [.optr ip 0]) ∧ (H0.length) ∉ z.2.2) ∧ (H2[H0.length + 1]? = some (.row [.int .i64 ((l : Nat) : Int)]) ∧ (H0.length + 1) ∉ z.2.2)) (fun (z : Nat × PS × List Nat) => z.1) ((n, s1, F1)) ⟨(by first | rfl | (simp only [jN, seval, vint, qC, hg, g5, gw, r1, q1, k1a, b1a, k1b, b1b, k1c, b1c] <;> first | done | with_reducible rfl)), (by first | rfl | (simp only [jN, seval, vint, qC, hg, g5, gw, r1, q1, k1a, b1a, k1b, b1b, k1c, b1c] <;> first | done | with_reducible rfl)), trivial⟩ (⟨hL, p1, f1, ⟨k1a, n1a⟩, ⟨k1b, n1b⟩, ⟨k1c, n1c⟩⟩) ?_
  intro z H2 hg
  obtain ⟨k2, s2, F2⟩ := z
  obtain ⟨hk2, p2, f2, ⟨k2a, n2a⟩, ⟨k2b, n2b⟩, ⟨k2c, n2c⟩⟩ := hg
  simp only at hk2 p2 f2 k2a n2a k2b n2b k2c n2c
  obtain ⟨st2, r2⟩ := p2.row
  have q2 := getL r2
  have b2a := getL k2a
  have b2b := getL k2b
  have b2c := getL k2c
  rcases hk2 with ⟨h2, hm⟩ | ⟨h2, hk2⟩
  ·-- case
   have g2 : decide (((l : Nat) : Int) = 2) = true := decide_eq_true (by omega)
   repeat refine wS ?_
   refine dp_draw (by kernel_rfl) ?_
   refine dp_take 2 (by simp only [jP, jO, jN, seval, y3, y84, vint, qC, hg, g5, gw, r2, q2, k2a, b2a, k2b, b2b, k2c, b2c, g2] <;> with_reducible rfl) (by decide) ?_
   refine dp_keep (by simp only [kE, seval, vint, qC, hg, g5, gw, r2, q2, k2a, b2a, k2b, b2b, k2c, b2c, g2] <;> with_reducible rfl) (by simp only [kE, seval, vint, qC, hg, g5, gw, r2, q2, k2a, b2a, k2b, b2b, k2c, b2c, g2] <;> with_reducible rfl) (by simp only [kE, seval, vint, qC, hg, g5, gw, r2, q2, k2a, b2a, k2b, b2b, k2c, b2c, g2]) (by decide) Tryzgo155 (fun hc => binops_c l hlv) ?_
   refine dp_keep (by simp only [kE, seval, vint, qC, hg, g5, gw, r2, q2, k2a, b2a, k2b, b2b, k2c, b2c, g2] <;> with_reducible rfl) (by simp only [kE, seval, vint, qC, hg, g5, gw, r2, q2, k2a, b2a, k2b, b2b, k2c, b2c, g2] <;> with_reducible rfl) (by simp only [kE, seval, vint, qC, hg, g5, gw, r2, q2, k2a, b2a, k2b, b2b, k2c, b2c, g2]) (by decide) Tryzgo63 (fun hc => at_c r2 hl p2.pos (opsL l) (opsL_le _)) ?_
   refine dp_end (by simp only [jP, jO, jN, seval, vint, qC, hg, g5, gw, r2, q2, k2a, b2a, k2b, b2b, k2c, b2c, g2] <;> with_reducible rfl) (by decide) (by repeat (first | exact Fin.base _ | with_reducible apply Fin.keep | apply Fin.drop)) ?_
   repeat refine wS ?_
   refine wC rfl (by simp only [jN, seval, vint, qC, hg, g5, gw, r2, q2, k2a, b2a, k2b, b2b, k2c, b2c, g2] <;> with_reducible rfl) (fun bt15 => ?_) (fun bt15 => ?_)
   ·-- if t15
    rw [ifT bt15] at hm
    repeat refine wS ?_
    refine wK ?_
    repeat refine wS ?_
    refine awp_block ?_
    repeat refine wS ?_
    refine wR ?_
    refine eT 2 (by simp only [kA, seval, y84, vint, qC, hg, g5, gw, r2, q2, k2a, b2a, k2b, b2b, k2c, b2c, g2] <;> with_reducible rfl) (by decide) ?_
    obtain ⟨s3, e3, hm⟩ := oB hm
    refine oC (by simp only [kC, seval, vint, qC, hg, g5, gw, r2, q2, k2a, b2a, k2b, b2b, k2c, b2c, g2] <;> with_reducible rfl) (by simp only [kC, seval]) (by decide) Tryzgo156 (by exact FC.ap0 (wrap_c toks ip 39 157 [] [.optr (H0.length) 0, .optr (H0.length + 1) 0] Tryzgo157 (stbL [(0, gO), (H0.length, .row [.optr ip 0]), (H0.length + 1, .row [.int .i64 ((l : Nat) : Int)])]) (m157_w (n := n) IH (H0.length) (H0.length + 1) (l))) e3 p2 ⟨⟨k2a, n2a⟩, ⟨k2b, n2b⟩, ⟨k2c, n2c⟩, trivial⟩) ?_
    rintro _ H3 ⟨rfl, F3, p3, g3⟩
    have f3 : Fr F0 F3 H0 H3 := f2.trans g3
    obtain ⟨st3, r3⟩ := p3.row
    have q3 := getL r3
    obtain ⟨k3a, n3a⟩ := g3.get k2a n2a
    have b3a := getL k3a
    obtain ⟨k3b, n3b⟩ := g3.get k2b n2b
    have b3b := getL k3b
    obtain ⟨k3c, n3c⟩ := g3.get k2c n2c
    have b3c := getL k3c
    refine oN ?_
    repeat refine wS ?_
    refine eE (by simp only [kA, seval, y3, vint, qC, hg, g5, gw, g2, r3, q3, k3a, b3a, k3b, b3b, k3c, b3c] <;> with_reducible rfl) (by decide) ?_
    repeat refine wS ?_
    refine awp_cond_true rfl (by simp only [jN, seval, vint, qC, hg, g5, gw, g2, r3, q3, k3a, b3a, k3b, b3b, k3c, b3c] <;> with_reducible rfl) ?_
    repeat refine wS ?_
    refine wT ⟨.inr rfl, _, rfl, ?_⟩
    injection hm with hm
    subst hm
    exact ⟨rfl, F3, p3, f3⟩
   ·-- else t15
    rw [ifF bt15] at hm
    repeat refine wS ?_
    refine awp_exit ?_
    simp only [thenQ, blockQ, reduceIte, Nat.reduceEqDiff, Nat.succ_ne_self, if_true, if_false]
    refine ⟨.inl trivial, _, rfl, ?_⟩
    injection hm with hm
    subst hm
    exact ⟨rfl, F2, p2, f2⟩
  ·-- case
   have g2 : decide (((l : Nat) : Int) = 2) = false := decide_eq_false (by omega)
   cases k2 with
   | zero => cases hk2
   | succ k2 => ?_
   unfold loopM at hk2
   repeat refine wS ?_
   refine dp_draw (by kernel_rfl) ?_
   refine dp_take 2 (by simp only [jP, jO, jN, seval, y3, y84, vint, qC, hg, g5, gw, r2, q2, k2a, b2a, k2b, b2b, k2c, b2c, g2] <;> with_reducible rfl) (by decide) ?_
   refine dp_keep (by simp only [kE, seval, vint, qC, hg, g5, gw, r2, q2, k2a, b2a, k2b, b2b, k2c, b2c, g2] <;> with_reducible rfl) (by simp only [kE, seval, vint, qC, hg, g5, gw, r2, q2, k2a, b2a, k2b, b2b, k2c, b2c, g2] <;> with_reducible rfl) (by simp only [kE, seval, vint, qC, hg, g5, gw, r2, q2, k2a, b2a, k2b, b2b, k2c, b2c, g2]) (by decide) Tryzgo155 (fun hc => binops_c l hlv) ?_
   refine dp_keep (by simp only [kE, seval, vint, qC, hg, g5, gw, r2, q2, k2a, b2a, k2b, b2b, k2c, b2c, g2] <;> with_reducible rfl) (by simp only [kE, seval, vint, qC, hg, g5, gw, r2, q2, k2a, b2a, k2b, b2b, k2c, b2c, g2] <;> with_reducible rfl) (by simp only [kE, seval, vint, qC, hg, g5, gw, r2, q2, k2a, b2a, k2b, b2b, k2c, b2c, g2]) (by decide) Tryzgo63 (fun hc => at_c r2 hl p2.pos (opsL l) (opsL_le _)) ?_
   refine dp_end (by simp only [jP, jO, jN, seval, vint, qC, hg, g5, gw, r2, q2, k2a, b2a, k2b, b2b, k2c, b2c, g2] <;> with_reducible rfl) (by decide) (by repeat (first | exact Fin.base _ | with_reducible apply Fin.keep | apply Fin.drop)) ?_
   repeat refine wS ?_
   refine wC rfl (by simp only [jN, seval, vint, qC, hg, g5, gw, r2, q2, k2a, b2a, k2b, b2b, k2c, b2c, g2] <;> with_reducible rfl) (fun bt15 => ?_) (fun bt15 => ?_)
   ·-- if t15
    rw [ifT bt15] at hk2
    obtain ⟨sB, hm, hk2⟩ := oB hk2
    repeat refine wS ?_
    refine wK ?_
    repeat refine wS ?_
    refine awp_block ?_
    repeat refine wS ?_
    refine wR ?_
    refine eT 2 (by simp only [kA, seval, y84, vint, qC, hg, g5, gw, r2, q2, k2a, b2a, k2b, b2b, k2c, b2c, g2] <;> with_reducible rfl) (by decide) ?_
    obtain ⟨s3, e3, hm⟩ := oB hm
    refine oC (by simp only [kC, seval, vint, qC, hg, g5, gw, r2, q2, k2a, b2a, k2b, b2b, k2c, b2c, g2] <;> with_reducible rfl) (by simp only [kC, seval]) (by decide) Tryzgo156 (by exact FC.ap0 (wrap_c toks ip 39 157 [] [.optr (H0.length) 0, .optr (H0.length + 1) 0] Tryzgo157 (stbL [(0, gO), (H0.length, .row [.optr ip 0]), (H0.length + 1, .row [.int .i64 ((l : Nat) : Int)])]) (m157_w (n := n) IH (H0.length) (H0.length + 1) (l))) e3 p2 ⟨⟨k2a, n2a⟩, ⟨k2b, n2b⟩, ⟨k2c, n2c⟩, trivial⟩) ?_
    rintro _ H3 ⟨rfl, F3, p3, g3⟩
    have f3 : Fr F0 F3 H0 H3 := f2.trans g3
    obtain ⟨st3, r3⟩ := p3.row
    have q3 := getL r3
    obtain ⟨k3a, n3a⟩ := g3.get k2a n2a
    have b3a := getL k3a
    obtain ⟨k3b, n3b⟩ := g3.get k2b n2b
    have b3b := getL k3b
    obtain ⟨k3c, n3c⟩ := g3.get k2c n2c
    have b3c := getL k3c
    refine oN ?_
    repeat refine wS ?_
    refine eE (by simp only [kA, seval, y3, vint, qC, hg, g5, gw, g2, r3, q3, k3a, b3a, k3b, b3b, k3c, b3c] <;> with_reducible rfl) (by decide) ?_
    repeat refine wS ?_
    refine wF rfl (by simp only [jN, seval, vint, qC, hg, g5, gw, g2, r3, q3, k3a, b3a, k3b, b3b, k3c, b3c] <;> with_reducible rfl) ?_
    repeat refine wS ?_
    refine wK ?_
    try simp only [thenQ, blockQ]
    injection hm with hm
    subst hm
    exact ⟨(k2, _, F3), Nat.lt_succ_self _, ⟨rfl, rfl, trivial⟩, .inr ⟨h2, hk2⟩, p3, f3, ⟨k3a, n3a⟩, ⟨k3b, n3b⟩, ⟨k3c, n3c⟩⟩
   ·-- else t15
    rw [ifF bt15] at hk2
    have hm := hk2
    repeat refine wS ?_
    refine awp_exit ?_
    simp only [thenQ, blockQ, reduceIte, Nat.reduceEqDiff, Nat.succ_ne_self, if_true, if_false]
    refine ⟨.inl trivial, _, rfl, ?_⟩
    injection hm with hm
    subst hm
    exact ⟨rfl, F2, p2, f2⟩
end Go.Abs
namespace Go.Abs
theorem frv_st (a b : PS) : frv .statement a b = .bool b.flag := rfl
def dropM (s : PS) : Option PS := match s.stack with
  | [] => none
  | f :: fs => match f.kids.getLast? with
    | none => none
    | some _ => some { s with stack := ⟨f.kind, f.kids.dropLast⟩ :: fs }
theorem dropM_inv {s s1 : PS} (h : dropM s = some s1) : ∃ (f : Frm) (gs : List Frm) (ks : List St) (x : St), s.stack = f :: gs ∧ f.kids = ks ++ [x] ∧ s1 = ⟨s.pos, ⟨f.kind, ks⟩ :: gs, s.flag⟩ := by
  unfold dropM at h
  split at h
  · cases h
  · rename_i f gs hs
    split at h
    · cases h
    · rename_i x hx
      cases h
      have hne : f.kids ≠ [] := by intro e; rw [e] at hx; cases hx
      refine ⟨f, gs, f.kids.dropLast, x, hs, ?_, rfl⟩
      rw [List.getLast?_eq_some_getLast hne] at hx
      injection hx with hx
      rw [← hx]; exact (List.dropLast_concat_getLast hne).symm
section
variable {P : Program} {toks : List Tk} {ip : Nat} {f : FuncId} {args : List PV} {m : PS → Option PS} {rv : PS → PS → PV} {I : PS → List Nat → Heap → Prop} {s s' : PS} {F : List Nat} {H : Heap}
end
def implM : PS → Option PS := fun _ => none
theorem fg_none {toks : List Tk} {ip : Nat} {f : FuncId} {args : List PV} {rv : PS → PS → PV} : FG toks ip f args implM rv := FG.none fun _ => rfl
end Go.Abs
namespace Go.Abs
open Go.Proofs
def m146 (toks : List Tk) (n : Nat) (R : Rec) (s0 : PS) : Option PS := ((expectM toks [123]) s0).bind fun s1 => (loopM (fun s2 => (((!s2.flag && !atT (peekT toks s2.pos) [[125]]) && !decide ((peekT toks s2.pos).kind = 100)) && !atT (peekT toks s2.pos) kwsL)) (fun s2 => ((R .statement) s2).bind fun s3 => some s3) n ({ s1 with flag := false })).bind fun s2 => if (!s2.flag) = true then (((missM 0) s2).bind fun s3 => ((expectM toks [125]) s3).bind fun s4 => some s4) else (((expectM toks [125]) s2).bind fun s3 => some s3)
theorem m146_w {toks : List Tk} {ip n : Nat} {R : Rec} (IH : IHs toks ip R) (b0 : Nat) : FC Tryz.prog toks ip 146 [.optr b0 0] (m146 toks n R ) unitR (EnvL [(0, gO), (b0, .row [.optr ip 0])]) := by
 refine fc_of fun s0 s' F0 H0 hm p0 i0 => ?_
 obtain ⟨⟨k0a, n0a⟩, ⟨k0b, n0b⟩, _⟩ := i0
 have b0a := getL k0a
 have b0b := getL k0b
 obtain ⟨st0, r0⟩ := p0.row
 have q0 := getL r0
 have hl := lim_le p0.len
 have f0 := Fr.refl F0 H0
 unfold m146 at hm
 refine aF (N := 31) Tryz.func146 rfl rfl (by simp) fun hb' => ?_
 repeat refine wS ?_
 refine wR ?_
 refine eT 1 (by simp only [kA, seval, y84, vint, qC, frv_st, r0, q0, k0a, b0a, k0b, b0b] <;> with_reducible rfl) (by decide) ?_
 obtain ⟨s1, e1, hm⟩ := oB hm
 refine oC (by simp only [kC, seval, vint, qC, frv_st, r0, q0, k0a, b0a, k0b, b0b] <;> with_reducible rfl) (by simp only [kC, seval]) (by decide) Tryzgo101 (by exact FN.ap0 (expect_c toks ip [123]) e1 p0) ?_
 rintro _ H1 ⟨rfl, F1, p1, g1⟩
 have f1 : Fr F0 F1 H0 H1 := f0.trans g1
 obtain ⟨st1, r1⟩ := p1.row
 have q1 := getL r1
 obtain ⟨k1a, n1a⟩ := g1.get k0a n0a
 have b1a := getL k1a
 obtain ⟨k1b, n1b⟩ := g1.get k0b n0b
 have b1b := getL k1b
 refine oN ?_
 repeat refine wS ?_
 refine eE (by simp only [kA, seval, vint, qC, frv_st, r1, q1, k1a, b1a, k1b, b1b] <;> with_reducible rfl) (by decide) ?_
 repeat refine wS ?_
 obtain ⟨sL2, eL2, hm⟩ := oB hm
 have hmo2 := hm
 clear hm
 refine awp_block ?_
 refine awp_loopX (σ := Nat × PS × List Nat) (fun (z : Nat × PS × List Nat) => [(0, .optr (b0) 0), (1, .bool z.2.1.flag), (2, .optr ip 0)]) (fun (z : Nat × PS × List Nat) =>  fun H2 => loopM (fun s2 => (((!s2.flag && !atT (peekT toks s2.pos) [[125]]) && !decide ((peekT toks s2.pos).kind = 100)) && !atT (peekT toks s2.pos) kwsL)) (fun s2 => ((R .statement) s2).bind fun s3 => some s3) z.1 z.2.1 = some sL2 ∧ PSt toks ip z.2.1 z.2.2 H2 ∧ Fr F0 z.2.2 H0 H2 ∧ (H2[0]? = some (gO) ∧ (0) ∉ z.2.2) ∧ (H2[b0]? = some (.row [.optr ip 0]) ∧ (b0) ∉ z.2.2)) (fun (z : Nat × PS × List Nat) => z.1) ((n, { s1 with flag := false }, F1)) ⟨(by first | rfl | (simp only [jN, seval, vint, qC, frv_st, r1, q1, k1a, b1a, k1b, b1b] <;> first | done | with_reducible rfl)), (by first | rfl | (simp only [jN, seval, vint, qC, frv_st, r1, q1, k1a, b1a, k1b, b1b] <;> first | done | with_reducible rfl)), (by first | rfl | (simp only [jN, seval, vint, qC, frv_st, r1, q1, k1a, b1a, k1b, b1b] <;> first | done | with_reducible rfl)), trivial⟩ (⟨eL2, p1, f1, ⟨k1a, n1a⟩, ⟨k1b, n1b⟩⟩) ?_
 intro z H2 hg
 obtain ⟨k2, s2, F2⟩ := z
 obtain ⟨hk2, p2, f2, ⟨k2a, n2a⟩, ⟨k2b, n2b⟩⟩ := hg
 simp only at hk2 p2 f2 k2a n2a k2b n2b
 obtain ⟨st2, r2⟩ := p2.row
 have q2 := getL r2
 have b2a := getL k2a
 have b2b := getL k2b
 cases k2 with
 | zero => cases hk2
 | succ k2 => ?_
 repeat refine wS ?_
 refine dp_draw (by kernel_rfl) ?_
 refine dp_take 5 (by simp only [jP, jO, jN, seval, y9, y84, y56, vint, qC, frv_st, r2, q2, k2a, b2a, k2b, b2b] <;> with_reducible rfl) (by decide) ?_
 refine dp_keep (by simp only [kE, seval, vint, qC, frv_st, r2, q2, k2a, b2a, k2b, b2b] <;> with_reducible rfl) (by simp only [kE, seval, vint, qC, frv_st, r2, q2, k2a, b2a, k2b, b2b] <;> with_reducible rfl) (by simp only [kE, seval, vint, qC, frv_st, r2, q2, k2a, b2a, k2b, b2b]) (by decide) Tryzgo63 (fun hc => at_c r2 hl p2.pos [[125]] (by decide)) ?_
 refine dp_take 4 (by simp only [jP, jO, jN, seval, y84, vint, qC, frv_st, r2, q2, k2a, b2a, k2b, b2b] <;> with_reducible rfl) (by decide) ?_
 refine dp_keep (by simp only [kE, seval, vint, qC, frv_st, r2, q2, k2a, b2a, k2b, b2b] <;> with_reducible rfl) (by simp only [kE, seval, vint, qC, frv_st, r2, q2, k2a, b2a, k2b, b2b] <;> with_reducible rfl) (by simp only [kE, seval, vint, qC, frv_st, r2, q2, k2a, b2a, k2b, b2b]) (by decide) Tryzgo48 (fun hc => atEOF_c r2 hl p2.pos) ?_
 refine dp_take 4 (by simp only [jP, jO, jN, seval, y84, vint, qC, frv_st, r2, q2, k2a, b2a, k2b, b2b] <;> with_reducible rfl) (by decide) ?_
 refine dp_keep (by simp only [kE, seval, vint, qC, frv_st, r2, q2, k2a, b2a, k2b, b2b] <;> with_reducible rfl) (by simp only [kE, seval, vint, qC, frv_st, r2, q2, k2a, b2a, k2b, b2b] <;> with_reducible rfl) (by simp only [kE, seval, vint, qC, frv_st, r2, q2, k2a, b2a, k2b, b2b]) (by decide) Tryzgo93 (fun hc => itemKeywords_c k2a) ?_
 refine dp_keep (by simp only [kE, seval, vint, qC, frv_st, r2, q2, k2a, b2a, k2b, b2b] <;> with_reducible rfl) (by simp only [kE, seval, vint, qC, frv_st, r2, q2, k2a, b2a, k2b, b2b] <;> with_reducible rfl) (by simp only [kE, seval, vint, qC, frv_st, r2, q2, k2a, b2a, k2b, b2b]) (by decide) Tryzgo63 (fun hc => at_c r2 hl p2.pos (kwsL) (by decide)) ?_
 refine dp_end (by simp only [jP, jO, jN, seval, vint, qC, frv_st, r2, q2, k2a, b2a, k2b, b2b] <;> with_reducible rfl) (by decide) (by repeat (first | exact Fin.base _ | with_reducible apply Fin.keep | apply Fin.drop)) ?_
 repeat refine wS ?_
 refine wC rfl (by simp only [jN, seval, vint, qC, frv_st, r2, q2, k2a, b2a, k2b, b2b] <;> with_reducible rfl) (fun bt22 => ?_) (fun bt22 => ?_)
 ·-- if t22
  unfold loopM at hk2
  rw [ifT bt22] at hk2
  obtain ⟨sB2, hm, hk2⟩ := oB hk2
  repeat refine wS ?_
  refine wK ?_
  repeat refine wS ?_
  refine awp_block ?_
  refine wL [0, 1, 2] (by simp only [jN, seval, vint, qC, frv_st, r2, q2, k2a, b2a, k2b, b2b] <;> with_reducible rfl) ?_
  repeat refine wS ?_
  refine wR ?_
  refine eT 1 (by simp only [kA, seval, y84, vint, qC, frv_st, r2, q2, k2a, b2a, k2b, b2b] <;> with_reducible rfl) (by decide) ?_
  obtain ⟨s3, e3, hm⟩ := oB hm
  refine oC (by simp only [kC, seval, vint, qC, frv_st, r2, q2, k2a, b2a, k2b, b2b] <;> with_reducible rfl) (by simp only [kC, seval]) (by decide) Tryzgo147 (by exact FG.ap0 (IH .statement) e3 p2 ⟨k2a, n2a⟩) ?_
  rintro _ H3 ⟨rfl, F3, p3, g3⟩
  have f3 : Fr F0 F3 H0 H3 := f2.trans g3
  obtain ⟨st3, r3⟩ := p3.row
  have q3 := getL r3
  obtain ⟨k3a, n3a⟩ := g3.get k2a n2a
  have b3a := getL k3a
  obtain ⟨k3b, n3b⟩ := g3.get k2b n2b
  have b3b := getL k3b
  refine e_end (by simp only [kA, seval, vint, qC, frv_st, r3, q3, k3a, b3a, k3b, b3b] <;> with_reducible rfl) (by decide) ?_
  try simp only [thenQ, blockQ]
  injection hm with hm
  subst hm
  exact ⟨(k2, _, F3), Nat.lt_succ_self _, ⟨rfl, rfl, rfl, trivial⟩, hk2, p3, f3, ⟨k3a, n3a⟩, ⟨k3b, n3b⟩⟩
 ·-- else t22
  unfold loopM at hk2
  rw [ifF bt22] at hk2
  injection hk2 with hk2
  subst hk2
  have hm := hmo2
  repeat refine wS ?_
  refine awp_exit ?_
  simp only [thenQ, blockQ, reduceIte, Nat.reduceEqDiff, Nat.succ_ne_self, if_true, if_false]
  refine wL [0, 1, 2] (by simp only [jN, seval, vint, qC, frv_st, r2, q2, k2a, b2a, k2b, b2b] <;> with_reducible rfl) ?_
  repeat refine wS ?_
  refine eE (by simp only [kA, seval, vint, qC, frv_st, r2, q2, k2a, b2a, k2b, b2b] <;> with_reducible rfl) (by decide) ?_
  repeat refine wS ?_
  refine wC rfl (by simp only [jN, seval, vint, qC, frv_st, r2, q2, k2a, b2a, k2b, b2b] <;> with_reducible rfl) (fun bt26 => ?_) (fun bt26 => ?_)
  ·-- if t26
   rw [ifT bt26] at hm
   repeat refine wS ?_
   refine wR ?_
   refine eT 1 (by simp only [kA, seval, y84, vint, qC, frv_st, r2, q2, k2a, b2a, k2b, b2b] <;> with_reducible rfl) (by decide) ?_
   obtain ⟨s3, e3, hm⟩ := oB hm
   refine oC (by simp only [kC, seval, vint, qC, frv_st, r2, q2, k2a, b2a, k2b, b2b] <;> with_reducible rfl) (by simp only [kC, seval]) (by decide) Tryzgo120 (by exact FN.ap0 (absent_c toks ip) e3 p2) ?_
   rintro _ H3 ⟨rfl, F3, p3, g3⟩
   have f3 : Fr F0 F3 H0 H3 := f2.trans g3
   obtain ⟨st3, r3⟩ := p3.row
   have q3 := getL r3
   obtain ⟨k3a, n3a⟩ := g3.get k2a n2a
   have b3a := getL k3a
   obtain ⟨k3b, n3b⟩ := g3.get k2b n2b
   have b3b := getL k3b
   refine oN ?_
   repeat refine wS ?_
   refine wR ?_
   refine eT 1 (by simp only [kA, seval, y84, vint, qC, frv_st, r3, q3, k3a, b3a, k3b, b3b] <;> with_reducible rfl) (by decide) ?_
   obtain ⟨s4, e4, hm⟩ := oB hm
   refine oC (by simp only [kC, seval, vint, qC, frv_st, r3, q3, k3a, b3a, k3b, b3b] <;> with_reducible rfl) (by simp only [kC, seval]) (by decide) Tryzgo101 (by exact FN.ap0 (expect_c toks ip [125]) e4 p3) ?_
   rintro _ H4 ⟨rfl, F4, p4, g4⟩
   have f4 : Fr F0 F4 H0 H4 := f3.trans g4
   obtain ⟨st4, r4⟩ := p4.row
   have q4 := getL r4
   obtain ⟨k4a, n4a⟩ := g4.get k3a n3a
   have b4a := getL k4a
   obtain ⟨k4b, n4b⟩ := g4.get k3b n3b
   have b4b := getL k4b
   refine oN ?_
   refine ⟨.inl rfl, _, rfl, ?_⟩
   injection hm with hm
   subst hm
   exact ⟨rfl, F4, p4, f4⟩
  ·-- else t26
   rw [ifF bt26] at hm
   repeat refine wS ?_
   refine wK ?_
   repeat refine wS ?_
   refine wR ?_
   refine eT 1 (by simp only [kA, seval, y84, vint, qC, frv_st, r2, q2, k2a, b2a, k2b, b2b] <;> with_reducible rfl) (by decide) ?_
   obtain ⟨s3, e3, hm⟩ := oB hm
   refine oC (by simp only [kC, seval, vint, qC, frv_st, r2, q2, k2a, b2a, k2b, b2b] <;> with_reducible rfl) (by simp only [kC, seval]) (by decide) Tryzgo101 (by exact FN.ap0 (expect_c toks ip [125]) e3 p2) ?_
   rintro _ H3 ⟨rfl, F3, p3, g3⟩
   have f3 : Fr F0 F3 H0 H3 := f2.trans g3
   obtain ⟨st3, r3⟩ := p3.row
   have q3 := getL r3
   obtain ⟨k3a, n3a⟩ := g3.get k2a n2a
   have b3a := getL k3a
   obtain ⟨k3b, n3b⟩ := g3.get k2b n2b
   have b3b := getL k3b
   refine oN ?_
   refine ⟨.inl rfl, _, rfl, ?_⟩
   injection hm with hm
   subst hm
   exact ⟨rfl, F3, p3, f3⟩
def m121 (toks : List Tk) (n : Nat) (R : Rec) (s0 : PS) : Option PS := ((nodeM 21 (m146 toks n R )) s0).bind fun s1 => some s1
theorem m121_w {toks : List Tk} {ip n : Nat} {R : Rec} (IH : IHs toks ip R) : FG toks ip 121 [.optr ip 0] (m121 toks n R ) (frv .block) := by
 intro s0 s' F0 H0 hm p0 i0
 obtain ⟨⟨hg, n0a⟩, _⟩ := i0
 obtain ⟨st0, r0⟩ := p0.row
 have q0 := getL r0
 have hl := lim_le p0.len
 have f0 := Fr.refl F0 H0
 have k0a := getL hg [.row [.optr ip 0]]
 have b0a := getL k0a
 have k0b : (H0 ++ [.row [.optr ip 0]])[H0.length]? = some (.row [.optr ip 0]) := by simp
 have n0b := p0.new0
 have b0b := getL k0b
 unfold m121 at hm
 refine aF (N := 5) Tryz.func121 rfl rfl (by simp) fun hb' => ?_
 repeat refine wS ?_
 refine eE (by simp only [kA, seval, y84, vint, qC, r0, q0, hg] <;> with_reducible rfl) (by decide) ?_
 repeat refine wS ?_
 refine wR ?_
 refine eT 2 (by simp only [kA, seval, y84, vint, qC, r0, q0, hg] <;> with_reducible rfl) (by decide) ?_
 obtain ⟨s1, e1, hm⟩ := oB hm
 refine oC (by simp only [kC, seval, vint, qC, r0, q0, hg] <;> with_reducible rfl) (by simp only [kC, seval]) (by decide) Tryzgo67 (by exact FC.ap (node_c toks ip 21 146 [] [.optr (H0.length) 0] Tryzgo146 (stbL [(0, gO), (H0.length, .row [.optr ip 0])]) (m146_w (n := n) IH (H0.length) )) e1 p0 ⟨⟨k0a, n0a⟩, ⟨k0b, n0b⟩, trivial⟩) ?_
 rintro _ H1 ⟨rfl, F1, p1, g1⟩
 have f1 : Fr F0 F1 H0 H1 := f0.step g1
 obtain ⟨st1, r1⟩ := p1.row
 have q1 := getL r1
 obtain ⟨k1a, n1a⟩ := g1.get k0a n0a
 have b1a := getL k1a
 obtain ⟨k1b, n1b⟩ := g1.get k0b n0b
 have b1b := getL k1b
 refine oN ?_
 refine ⟨.inl rfl, _, rfl, ?_⟩
 injection hm with hm
 subst hm
 exact ⟨rfl, F1, p1, f1⟩
def m173 (toks : List Tk) (n : Nat) (R : Rec) (b : Bool) (s0 : PS) : Option PS := if atT (peekT toks s0.pos) [[59]] = true then (((acceptM toks [[59]]) s0).bind fun s1 => some s1) else (((acceptM toks [[59]]) s0).bind fun s1 => if (!b) = true then (((missM 108) s1).bind fun s2 => some s2) else (some s1))
theorem m173_w {toks : List Tk} {ip n : Nat} {R : Rec} (IH : IHs toks ip R) (b0 b1 : Nat) (b : Bool) : FC Tryz.prog toks ip 171 [.optr b0 0, .optr b1 0] (m173 toks n R b) unitR (EnvL [(0, gO), (b0, .row [.optr ip 0]), (b1, .row [.bool b])]) := by
 refine fc_of fun s0 s' F0 H0 hm p0 i0 => ?_
 obtain ⟨⟨k0a, n0a⟩, ⟨k0b, n0b⟩, ⟨k0c, n0c⟩, _⟩ := i0
 have b0a := getL k0a
 have b0b := getL k0b
 have b0c := getL k0c
 obtain ⟨st0, r0⟩ := p0.row
 have q0 := getL r0
 have hl := lim_le p0.len
 have f0 := Fr.refl F0 H0
 unfold m173 at hm
 refine aF (N := 12) Tryz.func171 rfl rfl (by simp) fun hb' => ?_
 rcases Bool.eq_false_or_eq_true (atT (peekT toks s0.pos) [[59]]) with hd0 | hd0
 ·-- case
  rw [ifT hd0] at hm
  repeat refine wS ?_
  refine wR ?_
  refine eT 2 (by simp only [kA, seval, y9, y84, y56, vint, qC, r0, q0, k0a, b0a, k0b, b0b, k0c, b0c, hd0] <;> with_reducible rfl) (by decide) ?_
  obtain ⟨s1, e1, hm⟩ := oB hm
  refine oC (by simp only [kC, seval, vint, qC, r0, q0, k0a, b0a, k0b, b0b, k0c, b0c, hd0] <;> with_reducible rfl) (by simp only [kC, seval]) (by decide) Tryzgo69 (by exact FN.ap0 (accept_c toks ip [[59]] (by decide)) e1 p0) ?_
  rintro _ H1 ⟨rfl, F1, p1, g1⟩
  have f1 : Fr F0 F1 H0 H1 := f0.trans g1
  obtain ⟨st1, r1⟩ := p1.row
  have q1 := getL r1
  obtain ⟨k1a, n1a⟩ := g1.get k0a n0a
  have b1a := getL k1a
  obtain ⟨k1b, n1b⟩ := g1.get k0b n0b
  have b1b := getL k1b
  obtain ⟨k1c, n1c⟩ := g1.get k0c n0c
  have b1c := getL k1c
  refine e_end (by simp only [kA, seval, y4, vint, qC, hd0, r1, q1, k1a, b1a, k1b, b1b, k1c, b1c] <;> with_reducible rfl) (by decide) ?_
  repeat refine wS ?_
  refine wF rfl (by simp only [jN, seval, vint, qC, hd0, r1, q1, k1a, b1a, k1b, b1b, k1c, b1c] <;> with_reducible rfl) ?_
  repeat refine wS ?_
  refine wK ?_
  refine ⟨.inl rfl, _, rfl, ?_⟩
  injection hm with hm
  subst hm
  exact ⟨rfl, F1, p1, f1⟩
 ·-- case
  rw [ifF hd0] at hm
  repeat refine wS ?_
  refine wR ?_
  refine eT 2 (by simp only [kA, seval, y9, y84, y56, vint, qC, r0, q0, k0a, b0a, k0b, b0b, k0c, b0c, hd0] <;> with_reducible rfl) (by decide) ?_
  obtain ⟨s1, e1, hm⟩ := oB hm
  refine oC (by simp only [kC, seval, vint, qC, r0, q0, k0a, b0a, k0b, b0b, k0c, b0c, hd0] <;> with_reducible rfl) (by simp only [kC, seval]) (by decide) Tryzgo69 (by exact FN.ap0 (accept_c toks ip [[59]] (by decide)) e1 p0) ?_
  rintro _ H1 ⟨rfl, F1, p1, g1⟩
  have f1 : Fr F0 F1 H0 H1 := f0.trans g1
  obtain ⟨st1, r1⟩ := p1.row
  have q1 := getL r1
  obtain ⟨k1a, n1a⟩ := g1.get k0a n0a
  have b1a := getL k1a
  obtain ⟨k1b, n1b⟩ := g1.get k0b n0b
  have b1b := getL k1b
  obtain ⟨k1c, n1c⟩ := g1.get k0c n0c
  have b1c := getL k1c
  refine e_end (by simp only [kA, seval, y4, vint, qC, hd0, r1, q1, k1a, b1a, k1b, b1b, k1c, b1c] <;> with_reducible rfl) (by decide) ?_
  repeat refine wS ?_
  refine wC rfl (by simp only [jN, seval, vint, qC, hd0, r1, q1, k1a, b1a, k1b, b1b, k1c, b1c] <;> with_reducible rfl) (fun bt9 => ?_) (fun bt9 => ?_)
  ·-- if t9
   rw [ifT bt9] at hm
   repeat refine wS ?_
   refine wR ?_
   refine eT 1 (by simp only [kA, seval, y84, vint, qC, hd0, r1, q1, k1a, b1a, k1b, b1b, k1c, b1c] <;> with_reducible rfl) (by decide) ?_
   obtain ⟨s2, e2, hm⟩ := oB hm
   refine oC (by simp only [kC, seval, vint, qC, hd0, r1, q1, k1a, b1a, k1b, b1b, k1c, b1c] <;> with_reducible rfl) (by simp only [kC, seval]) (by decide) Tryzgo127 (by exact FN.ap0 (missingToken_c toks ip) e2 p1) ?_
   rintro _ H2 ⟨rfl, F2, p2, g2⟩
   have f2 : Fr F0 F2 H0 H2 := f1.trans g2
   obtain ⟨st2, r2⟩ := p2.row
   have q2 := getL r2
   obtain ⟨k2a, n2a⟩ := g2.get k1a n1a
   have b2a := getL k2a
   obtain ⟨k2b, n2b⟩ := g2.get k1b n1b
   have b2b := getL k2b
   obtain ⟨k2c, n2c⟩ := g2.get k1c n1c
   have b2c := getL k2c
   refine oN ?_
   refine ⟨.inl rfl, _, rfl, ?_⟩
   injection hm with hm
   subst hm
   exact ⟨rfl, F2, p2, f2⟩
  ·-- else t9
   rw [ifF bt9] at hm
   repeat refine wS ?_
   refine wK ?_
   refine ⟨.inl rfl, _, rfl, ?_⟩
   injection hm with hm
   subst hm
   exact ⟨rfl, F1, p1, f1⟩
def m147 (toks : List Tk) (n : Nat) (R : Rec) (s0 : PS) : Option PS := if atT (peekT toks s0.pos) [[108, 101, 116]] = true then (((nodeM 22 (R .letS)) s0).bind fun s1 => some { s1 with flag := false }) else (if atT (peekT toks s0.pos) [[119, 104, 105, 108, 101]] = true then (((nodeM 24 (m169 toks n R )) s0).bind fun s1 => some { s1 with flag := false }) else (if atT (peekT toks s0.pos) [[114, 101, 116, 117, 114, 110]] = true then (((nodeM 25 (R .returnStmt)) s0).bind fun s1 => some { s1 with flag := false }) else (if atT (peekT toks s0.pos) [[105, 102], [109, 97, 116, 99, 104], [123]] = true then (((R .primary) s0).bind fun s1 => if decide (((s1.pos : Nat) : Int) = ((s0.pos : Nat) : Int)) = true then ((dropM s1).bind fun s2 => ((unexpectedM toks) s2).bind fun s3 => some { s3 with flag := false }) else (if atT (peekT toks s1.pos) [[125]] = true then (some { s1 with flag := true }) else (if atT (peekT toks s1.pos) [[61]] = true then (((wrapM 23 (m172 toks n R )) s1).bind fun s2 => some { s2 with flag := false }) else (((wrapM 26 (m173 toks n R (atT (peekT toks s0.pos) [[105, 102], [109, 97, 116, 99, 104], [123]]))) s1).bind fun s2 => some { s2 with flag := false })))) else (((R .expr) s0).bind fun s1 => if decide (((s1.pos : Nat) : Int) = ((s0.pos : Nat) : Int)) = true then ((dropM s1).bind fun s2 => ((unexpectedM toks) s2).bind fun s3 => some { s3 with flag := false }) else (if atT (peekT toks s1.pos) [[125]] = true then (some { s1 with flag := true }) else (if atT (peekT toks s1.pos) [[61]] = true then (((wrapM 23 (m172 toks n R )) s1).bind fun s2 => some { s2 with flag := false }) else (((wrapM 26 (m173 toks n R (atT (peekT toks s0.pos) [[105, 102], [109, 97, 116, 99, 104], [123]]))) s1).bind fun s2 => some { s2 with flag := false })))))))
theorem m147_w {toks : List Tk} {ip n : Nat} {R : Rec} (IH : IHs toks ip R) : FG toks ip 147 [.optr ip 0] (m147 toks n R ) (frv .statement) := by
 intro s0 s' F0 H0 hm p0 i0
 obtain ⟨⟨hg, n0a⟩, _⟩ := i0
 obtain ⟨st0, r0⟩ := p0.row
 have q0 := getL r0
 have hl := lim_le p0.len
 have f0 := Fr.refl F0 H0
 have k0a := getL hg [.row [.optr ip 0], .row [.bool (atT (peekT toks s0.pos) [[105, 102], [109, 97, 116, 99, 104], [123]])]]
 have b0a := getL k0a
 have k0b : (H0 ++ [.row [.optr ip 0], .row [.bool (atT (peekT toks s0.pos) [[105, 102], [109, 97, 116, 99, 104], [123]])]])[H0.length]? = some (.row [.optr ip 0]) := by simp
 have n0b := p0.new0
 have b0b := getL k0b
 have k0c : (H0 ++ [.row [.optr ip 0], .row [.bool (atT (peekT toks s0.pos) [[105, 102], [109, 97, 116, 99, 104], [123]])]])[H0.length + 1]? = some (.row [.bool (atT (peekT toks s0.pos) [[105, 102], [109, 97, 116, 99, 104], [123]])]) := by simp
 have n0c := p0.new 1
 have b0c := getL k0c
 unfold m147 at hm
 refine aF (N := 89) Tryz.func147 rfl rfl (by simp) fun hb' => ?_
 repeat refine wS ?_
 refine eE (by simp only [kA, seval, y84, vint, qC, frv_st, r0, q0, hg] <;> with_reducible rfl) (by decide) ?_
 repeat refine wS ?_
 refine awp_block ?_
 repeat refine wS ?_
 refine wR ?_
 refine eT 2 (by simp only [kA, seval, y9, y84, y56, vint, qC, frv_st, r0, q0, hg] <;> with_reducible rfl) (by decide) ?_
 refine oP (by simp only [kC, seval, vint, qC, frv_st, r0, q0, hg] <;> with_reducible rfl) (by simp only [kC, seval]) (by decide) Tryzgo63 (at_c (by exact q0 _) hl p0.pos [[108, 101, 116]] (by decide)) ?_
 refine e_end (by simp only [kA, seval, vint, qC, frv_st, r0, q0, hg] <;> with_reducible rfl) (by decide) ?_
 repeat refine wS ?_
 refine wC rfl (by simp only [jN, seval, vint, qC, frv_st, r0, q0, hg] <;> with_reducible rfl) (fun bt6 => ?_) (fun bt6 => ?_)
 ·-- if t6
  rw [ifT bt6] at hm
  repeat refine wS ?_
  have k0a := getL hg [.row [.optr ip 0]]
  have b0a := getL k0a
  have k0b : (H0 ++ [.row [.optr ip 0]])[H0.length]? = some (.row [.optr ip 0]) := by simp
  have b0b := getL k0b
  refine wR ?_
  refine eT 3 (by simp only [kA, seval, y84, vint, qC, frv_st, r0, q0, hg] <;> with_reducible rfl) (by decide) ?_
  obtain ⟨s1, e1, hm⟩ := oB hm
  refine oC (by simp only [kC, seval, vint, qC, frv_st, r0, q0, hg] <;> with_reducible rfl) (by simp only [kC, seval]) (by decide) Tryzgo67 (by exact FC.ap (node_c toks ip 22 166 [.optr ip 0] [] Tryzgo166 (stbL [(0, gO)]) (FG.fc (IH .letS))) e1 p0 ⟨⟨k0a, n0a⟩, trivial⟩) ?_
  rintro _ H1 ⟨rfl, F1, p1, g1⟩
  have f1 : Fr F0 F1 H0 H1 := f0.step g1
  obtain ⟨st1, r1⟩ := p1.row
  have q1 := getL r1
  obtain ⟨k1a, n1a⟩ := g1.get k0a n0a
  have b1a := getL k1a
  obtain ⟨k1b, n1b⟩ := g1.get k0b n0b
  have b1b := getL k1b
  refine oN ?_
  repeat refine wS ?_
  refine eE (by simp only [kA, seval, vint, qC, frv_st, hg, r1, q1, k1a, b1a, k1b, b1b] <;> with_reducible rfl) (by decide) ?_
  repeat refine wS ?_
  refine wT ⟨.inr rfl, _, rfl, ?_⟩
  injection hm with hm
  subst hm
  exact ⟨rfl, F1, (p1.flg _), f1⟩
 ·-- else t6
  rw [ifF bt6] at hm
  repeat refine wS ?_
  refine wR ?_
  refine eT 2 (by simp only [kA, seval, y9, y84, y56, vint, qC, frv_st, r0, q0, hg] <;> with_reducible rfl) (by decide) ?_
  refine oP (by simp only [kC, seval, vint, qC, frv_st, r0, q0, hg] <;> with_reducible rfl) (by simp only [kC, seval]) (by decide) Tryzgo63 (at_c (by exact q0 _) hl p0.pos [[119, 104, 105, 108, 101]] (by decide)) ?_
  refine e_end (by simp only [kA, seval, vint, qC, frv_st, r0, q0, hg] <;> with_reducible rfl) (by decide) ?_
  repeat refine wS ?_
  refine wC rfl (by simp only [jN, seval, vint, qC, frv_st, r0, q0, hg] <;> with_reducible rfl) (fun bt14 => ?_) (fun bt14 => ?_)
  ·-- if t14
   rw [ifT bt14] at hm
   repeat refine wS ?_
   have k0a := getL hg [.row [.optr ip 0]]
   have b0a := getL k0a
   have k0b : (H0 ++ [.row [.optr ip 0]])[H0.length]? = some (.row [.optr ip 0]) := by simp
   have b0b := getL k0b
   refine wR ?_
   refine eT 2 (by simp only [kA, seval, y84, vint, qC, frv_st, r0, q0, hg] <;> with_reducible rfl) (by decide) ?_
   obtain ⟨s1, e1, hm⟩ := oB hm
   refine oC (by simp only [kC, seval, vint, qC, frv_st, r0, q0, hg] <;> with_reducible rfl) (by simp only [kC, seval]) (by decide) Tryzgo67 (by exact FC.ap (node_c toks ip 24 167 [] [.optr (H0.length) 0] Tryzgo167 (stbL [(0, gO), (H0.length, .row [.optr ip 0])]) (m169_w (n := n) IH (H0.length) )) e1 p0 ⟨⟨k0a, n0a⟩, ⟨k0b, n0b⟩, trivial⟩) ?_
   rintro _ H1 ⟨rfl, F1, p1, g1⟩
   have f1 : Fr F0 F1 H0 H1 := f0.step g1
   obtain ⟨st1, r1⟩ := p1.row
   have q1 := getL r1
   obtain ⟨k1a, n1a⟩ := g1.get k0a n0a
   have b1a := getL k1a
   obtain ⟨k1b, n1b⟩ := g1.get k0b n0b
   have b1b := getL k1b
   refine oN ?_
   repeat refine wS ?_
   refine eE (by simp only [kA, seval, vint, qC, frv_st, hg, r1, q1, k1a, b1a, k1b, b1b] <;> with_reducible rfl) (by decide) ?_
   repeat refine wS ?_
   refine wT ⟨.inr rfl, _, rfl, ?_⟩
   injection hm with hm
   subst hm
   exact ⟨rfl, F1, (p1.flg _), f1⟩
  ·-- else t14
   rw [ifF bt14] at hm
   repeat refine wS ?_
   refine wR ?_
   refine eT 2 (by simp only [kA, seval, y9, y84, y56, vint, qC, frv_st, r0, q0, hg] <;> with_reducible rfl) (by decide) ?_
   refine oP (by simp only [kC, seval, vint, qC, frv_st, r0, q0, hg] <;> with_reducible rfl) (by simp only [kC, seval]) (by decide) Tryzgo63 (at_c (by exact q0 _) hl p0.pos [[114, 101, 116, 117, 114, 110]] (by decide)) ?_
   refine e_end (by simp only [kA, seval, vint, qC, frv_st, r0, q0, hg] <;> with_reducible rfl) (by decide) ?_
   repeat refine wS ?_
   refine wC rfl (by simp only [jN, seval, vint, qC, frv_st, r0, q0, hg] <;> with_reducible rfl) (fun bt21 => ?_) (fun bt21 => ?_)
   ·-- if t21
    rw [ifT bt21] at hm
    repeat refine wS ?_
    have k0a := getL hg [.row [.optr ip 0]]
    have b0a := getL k0a
    have k0b : (H0 ++ [.row [.optr ip 0]])[H0.length]? = some (.row [.optr ip 0]) := by simp
    have b0b := getL k0b
    refine wR ?_
    refine eT 3 (by simp only [kA, seval, y84, vint, qC, frv_st, r0, q0, hg] <;> with_reducible rfl) (by decide) ?_
    obtain ⟨s1, e1, hm⟩ := oB hm
    refine oC (by simp only [kC, seval, vint, qC, frv_st, r0, q0, hg] <;> with_reducible rfl) (by simp only [kC, seval]) (by decide) Tryzgo67 (by exact FC.ap (node_c toks ip 25 168 [.optr ip 0] [] Tryzgo168 (stbL [(0, gO)]) (FG.fc (IH .returnStmt))) e1 p0 ⟨⟨k0a, n0a⟩, trivial⟩) ?_
    rintro _ H1 ⟨rfl, F1, p1, g1⟩
    have f1 : Fr F0 F1 H0 H1 := f0.step g1
    obtain ⟨st1, r1⟩ := p1.row
    have q1 := getL r1
    obtain ⟨k1a, n1a⟩ := g1.get k0a n0a
    have b1a := getL k1a
    obtain ⟨k1b, n1b⟩ := g1.get k0b n0b
    have b1b := getL k1b
    refine oN ?_
    refine wL [] (by simp only [jN, seval, vint, qC, frv_st, hg, r1, q1, k1a, b1a, k1b, b1b] <;> with_reducible rfl) ?_
    repeat refine wS ?_
    refine eE (by simp only [kA, seval, vint, qC, frv_st, hg, r1, q1, k1a, b1a, k1b, b1b] <;> with_reducible rfl) (by decide) ?_
    repeat refine wS ?_
    refine wT ⟨.inr rfl, _, rfl, ?_⟩
    injection hm with hm
    subst hm
    exact ⟨rfl, F1, (p1.flg _), f1⟩
   ·-- else t21
    rw [ifF bt21] at hm
    repeat refine wS ?_
    refine wK ?_
    repeat refine wS ?_
    refine eE (by simp only [kA, seval, y3, y84, y86, vint, qC, frv_st, r0, q0, hg] <;> with_reducible rfl) (by decide) ?_
    refine wL [1, 3] (by simp only [jN, seval, vint, qC, frv_st, r0, q0, hg] <;> with_reducible rfl) ?_
    repeat refine wS ?_
    refine wR ?_
    refine eT 2 (by simp only [kA, seval, y9, y84, y56, vint, qC, frv_st, r0, q0, hg] <;> with_reducible rfl) (by decide) ?_
    refine oP (by simp only [kC, seval, vint, qC, frv_st, r0, q0, hg] <;> with_reducible rfl) (by simp only [kC, seval]) (by decide) Tryzgo63 (at_c (by exact q0 _) hl p0.pos [[105, 102], [109, 97, 116, 99, 104], [123]] (by decide)) ?_
    refine e_end (by simp only [kA, seval, y4, vint, qC, frv_st, r0, q0, hg] <;> with_reducible rfl) (by decide) ?_
    repeat refine wS ?_
    refine eE (by simp only [kA, seval, y4, vint, qC, frv_st, r0, q0, hg] <;> with_reducible rfl) (by decide) ?_
    repeat refine wS ?_
    refine wC rfl (by simp only [jN, seval, vint, qC, frv_st, r0, q0, hg] <;> with_reducible rfl) (fun bt36 => ?_) (fun bt36 => ?_)
    ·-- if t36
     rw [ifT bt36] at hm
     repeat refine wS ?_
     refine wR ?_
     refine eT 1 (by simp only [kA, seval, y84, vint, qC, frv_st, r0, q0, hg] <;> with_reducible rfl) (by decide) ?_
     obtain ⟨s1, e1, hm⟩ := oB hm
     refine oC (by simp only [kC, seval, vint, qC, frv_st, r0, q0, hg] <;> with_reducible rfl) (by simp only [kC, seval]) (by decide) Tryzgo169 (by exact FG.ap' (IH .primary) e1 p0 ⟨k0a, n0a⟩) ?_
     rintro _ H1 ⟨rfl, F1, p1, g1⟩
     have f1 : Fr F0 F1 H0 H1 := f0.step g1
     obtain ⟨st1, r1⟩ := p1.row
     have q1 := getL r1
     obtain ⟨k1a, n1a⟩ := g1.get k0a n0a
     have b1a := getL k1a
     obtain ⟨k1b, n1b⟩ := g1.get k0b n0b
     have b1b := getL k1b
     obtain ⟨k1c, n1c⟩ := g1.get k0c n0c
     have b1c := getL k1c
     refine oN ?_
     repeat refine wS ?_
     refine awp_block ?_
     repeat refine wS ?_
     refine eE (by simp only [kA, seval, y3, y84, y86, vint, qC, frv_st, hg, r1, q1, k1a, b1a, k1b, b1b, k1c, b1c] <;> with_reducible rfl) (by decide) ?_
     repeat refine wS ?_
     refine wC rfl (by simp only [jN, seval, vint, qC, frv_st, hg, r1, q1, k1a, b1a, k1b, b1b, k1c, b1c] <;> with_reducible rfl) (fun bt44 => ?_) (fun bt44 => ?_)
     ·-- if t44
      rw [ifT bt44] at hm
      repeat refine wS ?_
      obtain ⟨s2, e2, hm⟩ := oB hm
      obtain ⟨ft, gs, ks, xl, hs, hkids, hsm⟩ := dropM_inv e2
      obtain ⟨is0, c0, R0, ids0, cid0, cv0, cells00, rest0, sp⟩ := p1.split hs
      have h1 := sp.h1
      have h2 := sp.h2
      have h3 := sp.h3
      have h4 := sp.h4
      have h5 := sp.h5
      have hch := sp.ch
      rw [hkids] at hch
      obtain ⟨ic, cc, crest, hcv, hcid, hic, hcc, hccm⟩ := hch.msl_inv
      have hmx : maxLen = 9223372036854775807 := by decide
      have hip := lG h1
      have his := lG h2
      have hicl := lG hic
      have gw : IntKind.i64.wrap (((gs.length + 1 : Nat) : Int) - 1) = ((gs.length : Nat) : Int) := by rw [wrap_id (by omega) (by omega)]; omega
      have gi := ix_nat (n := gs.length + 1) (i := gs.length) (by omega)
      have gw2 : IntKind.i64.wrap (((ks.length + 1 : Nat) : Int) - 1) = ((ks.length : Nat) : Int) := by rw [wrap_id (by omega) (by omega)]; omega
      obtain ⟨RC, hRC⟩ : ∃ RC, RC = flatE (ks.map St.enc) ++ (xl.enc.cells ++ crest) := ⟨_, rfl⟩
      rw [← hRC] at hic
      have gR2 : R0[gs.length * 3 + 2]? = some (.msl ic 0 (ks.length + 1) cc) := by
       have := congrArg (fun z => z[2]?) sp.top
       simp only [List.getElem?_take, List.getElem?_drop] at this
       rw [← hcv]; simpa using this
      have bR2 : (gs.length * 3 + 2 + 1 ≤ R0.length) = True := by simp; omega
      have nic : ic ≠ is0 := fun e => sp.hi2 (by rw [hcid]; simp [e])
      have nis : ∀ k, (is0 = H1.length + k) = False := fun k => by simp; omega
      have hst : st1 = .msl is0 0 (gs.length + 1) c0 := by
       have h := r1
       rw [h1] at h
       simp only [Option.some.injEq, AObj.row.injEq, List.cons.injEq, and_true, true_and] at h
       exact h.symm
      refine dp_draw (by kernel_rfl) ?_
      refine dp_end (by simp only [jP, jO, jN, seval, y3, y64, y66, y84, y86, vint, qC, frv_st, hg, r1, q1, k1a, b1a, k1b, b1b, k1c, b1c, hst, nis, h2, hic, gw, gi, gw2, tN, gR2, bR2] <;> with_reducible rfl) (by decide) (by repeat (first | exact Fin.base _ | with_reducible apply Fin.keep | apply Fin.drop)) ?_
      refine wL [1, 5] (by simp only [jN, seval, vint, qC, frv_st, hg, r1, q1, k1a, b1a, k1b, b1b, k1c, b1c] <;> with_reducible rfl) ?_
      repeat refine wS ?_
      refine awp_draw 0 (by kernel_rfl) ?_
      refine d_take (bm := [0, 0, 2, 6, 14, 0, 32, 96, 224, 480, 992, 2046, 4095, 8191, 16383]) 11 (fresh := H1.length + 7) (by kernel_rfl) (by simp only [jD, jO, jN, seval, y3, y64, y66, vint, qC, frv_st, hst, nis, h2, hic, gw, gi, gw2, tN, gR2, bR2] <;> with_reducible rfl) (by decide) (by decide) ?_
      refine dops_sliceM (id := ic) (n := ks.length + 1) (c := cc) (kk := .i64) (k := ks.length) (by simp only [kC, seval, vint, qC, frv_st, hst, nis, h2, hic, gw, gi, gw2, tN, gR2, bR2]) rfl (by decide) (by decide) Tryzte64 (by simp only [kC, seval, vint, qC, frv_st, hst, nis, h2, hic, gw, gi, gw2, tN, gR2, bR2] <;> first | done | rfl) (by simp only [kC, seval, vint, qC, frv_st, hst, nis, h2, hic, gw, gi, gw2, tN, gR2, bR2] <;> first | done | rfl) (by omega) ?_
      refine d_end (bm := [0, 0, 2, 6, 14, 0, 32, 96, 224, 480, 992, 2046, 4095, 8191, 16383]) (fresh := H1.length + 7) (by kernel_rfl) (by simp only [jD, jO, jN, seval, y64, y66, vint, qC, frv_st, hst, nis, h2, hic, gw, gi, gw2, tN, gR2, bR2] <;> with_reducible rfl) (by decide) ?_
      refine awp_abs (fun H2 => ∃ F2, PSt toks ip s2 F2 H2 ∧ Fr F0 F2 H0 H2 ∧ (H2[0]? = some (gO) ∧ (0) ∉ F2) ∧ (H2[H0.length]? = some (.row [.optr ip 0]) ∧ (H0.length) ∉ F2) ∧ (H2[H0.length + 1]? = some (.row [.bool (atT (peekT toks s0.pos) [[105, 102], [109, 97, 116, 99, 104], [123]])]) ∧ (H0.length + 1) ∉ F2)) ?_ ?_
      ·obtain ⟨k1, k2⟩ := sp.retop (H3 := H1.set is0 (.row (R0.set (gs.length * 3 + 2) (.msl ic 0 ks.length cc)))) (kids' := ks) (cid' := [ic]) (by simp) (List.getElem?_set_self his) (fun j hj hn _ => List.getElem?_set_ne (Ne.symm hn)) (.of (rest := xl.enc.cells ++ crest) rfl (by rw [List.getElem?_set_ne (Ne.symm nic), hic, hRC]) (by simp [St.enc_cells]; omega) hccm) (fun i hi => .inl (by rw [hcid]; exact hi))
       exact ⟨_, by rw [hsm]; exact k1, f1.trans k2, k2.get k1a n1a, k2.get k1b n1b, k2.get k1c n1c⟩
      rintro H2 ⟨F2, p2, f2, ⟨k2a, n2a⟩, ⟨k2b, n2b⟩, ⟨k2c, n2c⟩⟩
      obtain ⟨st2, r2⟩ := p2.row
      have q2 := getL r2
      have b2a := getL k2a
      have b2b := getL k2b
      have b2c := getL k2c
      repeat refine wS ?_
      refine wR ?_
      refine eT 1 (by simp only [kA, seval, y84, vint, qC, frv_st, hg, r2, q2, k2a, b2a, k2b, b2b, k2c, b2c] <;> with_reducible rfl) (by decide) ?_
      obtain ⟨s3, e3, hm⟩ := oB hm
      refine oC (by simp only [kC, seval, vint, qC, frv_st, hg, r2, q2, k2a, b2a, k2b, b2b, k2c, b2c] <;> with_reducible rfl) (by simp only [kC, seval]) (by decide) Tryzgo149 (by exact FN.ap0 (unexpected_c toks ip) e3 p2) ?_
      rintro _ H3 ⟨rfl, F3, p3, g3⟩
      have f3 : Fr F0 F3 H0 H3 := f2.trans g3
      obtain ⟨st3, r3⟩ := p3.row
      have q3 := getL r3
      obtain ⟨k3a, n3a⟩ := g3.get k2a n2a
      have b3a := getL k3a
      obtain ⟨k3b, n3b⟩ := g3.get k2b n2b
      have b3b := getL k3b
      obtain ⟨k3c, n3c⟩ := g3.get k2c n2c
      have b3c := getL k3c
      refine oN ?_
      refine wL [] (by simp only [jN, seval, vint, qC, frv_st, hg, r3, q3, k3a, b3a, k3b, b3b, k3c, b3c] <;> with_reducible rfl) ?_
      repeat refine wS ?_
      refine eE (by simp only [kA, seval, vint, qC, frv_st, hg, r3, q3, k3a, b3a, k3b, b3b, k3c, b3c] <;> with_reducible rfl) (by decide) ?_
      repeat refine wS ?_
      refine wT ⟨.inr rfl, _, rfl, ?_⟩
      injection hm with hm
      subst hm
      exact ⟨rfl, F3, (p3.flg _), f3⟩
     ·-- else t44
      rw [ifF bt44] at hm
      repeat refine wS ?_
      refine wR ?_
      refine eT 2 (by simp only [kA, seval, y9, y84, y56, vint, qC, frv_st, hg, r1, q1, k1a, b1a, k1b, b1b, k1c, b1c] <;> with_reducible rfl) (by decide) ?_
      refine oP (by simp only [kC, seval, vint, qC, frv_st, hg, r1, q1, k1a, b1a, k1b, b1b, k1c, b1c] <;> with_reducible rfl) (by simp only [kC, seval]) (by decide) Tryzgo63 (at_c r1 hl p1.pos [[125]] (by decide)) ?_
      refine e_end (by simp only [kA, seval, vint, qC, frv_st, hg, r1, q1, k1a, b1a, k1b, b1b, k1c, b1c] <;> with_reducible rfl) (by decide) ?_
      repeat refine wS ?_
      refine wC rfl (by simp only [jN, seval, vint, qC, frv_st, hg, r1, q1, k1a, b1a, k1b, b1b, k1c, b1c] <;> with_reducible rfl) (fun bt78 => ?_) (fun bt78 => ?_)
      ·-- if t78
       rw [ifT bt78] at hm
       refine wL [] (by simp only [jN, seval, vint, qC, frv_st, hg, r1, q1, k1a, b1a, k1b, b1b, k1c, b1c] <;> with_reducible rfl) ?_
       repeat refine wS ?_
       refine eE (by simp only [kA, seval, vint, qC, frv_st, hg, r1, q1, k1a, b1a, k1b, b1b, k1c, b1c] <;> with_reducible rfl) (by decide) ?_
       repeat refine wS ?_
       refine wT ⟨.inr rfl, _, rfl, ?_⟩
       injection hm with hm
       subst hm
       exact ⟨rfl, F1, (p1.flg _), f1⟩
      ·-- else t78
       rw [ifF bt78] at hm
       refine wL [1, 4] (by simp only [jN, seval, vint, qC, frv_st, hg, r1, q1, k1a, b1a, k1b, b1b, k1c, b1c] <;> with_reducible rfl) ?_
       repeat refine wS ?_
       refine wR ?_
       refine eT 2 (by simp only [kA, seval, y9, y84, y56, vint, qC, frv_st, hg, r1, q1, k1a, b1a, k1b, b1b, k1c, b1c] <;> with_reducible rfl) (by decide) ?_
       refine oP (by simp only [kC, seval, vint, qC, frv_st, hg, r1, q1, k1a, b1a, k1b, b1b, k1c, b1c] <;> with_reducible rfl) (by simp only [kC, seval]) (by decide) Tryzgo63 (at_c r1 hl p1.pos [[61]] (by decide)) ?_
       refine e_end (by simp only [kA, seval, vint, qC, frv_st, hg, r1, q1, k1a, b1a, k1b, b1b, k1c, b1c] <;> with_reducible rfl) (by decide) ?_
       repeat refine wS ?_
       refine wC rfl (by simp only [jN, seval, vint, qC, frv_st, hg, r1, q1, k1a, b1a, k1b, b1b, k1c, b1c] <;> with_reducible rfl) (fun bt82 => ?_) (fun bt82 => ?_)
       ·-- if t82
        rw [ifT bt82] at hm
        repeat refine wS ?_
        refine wR ?_
        refine eT 2 (by simp only [kA, seval, y84, vint, qC, frv_st, hg, r1, q1, k1a, b1a, k1b, b1b, k1c, b1c] <;> with_reducible rfl) (by decide) ?_
        obtain ⟨s2, e2, hm⟩ := oB hm
        refine oC (by simp only [kC, seval, vint, qC, frv_st, hg, r1, q1, k1a, b1a, k1b, b1b, k1c, b1c] <;> with_reducible rfl) (by simp only [kC, seval]) (by decide) Tryzgo156 (by exact FC.ap0 (wrap_c toks ip 23 170 [] [.optr (H0.length) 0] Tryzgo170 (stbL [(0, gO), (H0.length, .row [.optr ip 0])]) (m172_w (n := n) IH (H0.length) )) e2 p1 ⟨⟨k1a, n1a⟩, ⟨k1b, n1b⟩, trivial⟩) ?_
        rintro _ H2 ⟨rfl, F2, p2, g2⟩
        have f2 : Fr F0 F2 H0 H2 := f1.trans g2
        obtain ⟨st2, r2⟩ := p2.row
        have q2 := getL r2
        obtain ⟨k2a, n2a⟩ := g2.get k1a n1a
        have b2a := getL k2a
        obtain ⟨k2b, n2b⟩ := g2.get k1b n1b
        have b2b := getL k2b
        obtain ⟨k2c, n2c⟩ := g2.get k1c n1c
        have b2c := getL k2c
        refine oN ?_
        repeat refine wS ?_
        refine eE (by simp only [kA, seval, vint, qC, frv_st, hg, r2, q2, k2a, b2a, k2b, b2b, k2c, b2c] <;> with_reducible rfl) (by decide) ?_
        repeat refine wS ?_
        refine wT ⟨.inr rfl, _, rfl, ?_⟩
        injection hm with hm
        subst hm
        exact ⟨rfl, F2, (p2.flg _), f2⟩
       ·-- else t82
        rw [ifF bt82] at hm
        repeat refine wS ?_
        refine wR ?_
        refine eT 2 (by simp only [kA, seval, y84, vint, qC, frv_st, hg, r1, q1, k1a, b1a, k1b, b1b, k1c, b1c] <;> with_reducible rfl) (by decide) ?_
        obtain ⟨s2, e2, hm⟩ := oB hm
        refine oC (by simp only [kC, seval, vint, qC, frv_st, hg, r1, q1, k1a, b1a, k1b, b1b, k1c, b1c] <;> with_reducible rfl) (by simp only [kC, seval]) (by decide) Tryzgo156 (by exact FC.ap0 (wrap_c toks ip 26 171 [] [.optr (H0.length) 0, .optr (H0.length + 1) 0] Tryzgo171 (stbL [(0, gO), (H0.length, .row [.optr ip 0]), (H0.length + 1, .row [.bool (atT (peekT toks s0.pos) [[105, 102], [109, 97, 116, 99, 104], [123]])])]) (m173_w (n := n) IH (H0.length) (H0.length + 1) (atT (peekT toks s0.pos) [[105, 102], [109, 97, 116, 99, 104], [123]]))) e2 p1 ⟨⟨k1a, n1a⟩, ⟨k1b, n1b⟩, ⟨k1c, n1c⟩, trivial⟩) ?_
        rintro _ H2 ⟨rfl, F2, p2, g2⟩
        have f2 : Fr F0 F2 H0 H2 := f1.trans g2
        obtain ⟨st2, r2⟩ := p2.row
        have q2 := getL r2
        obtain ⟨k2a, n2a⟩ := g2.get k1a n1a
        have b2a := getL k2a
        obtain ⟨k2b, n2b⟩ := g2.get k1b n1b
        have b2b := getL k2b
        obtain ⟨k2c, n2c⟩ := g2.get k1c n1c
        have b2c := getL k2c
        refine oN ?_
        repeat refine wS ?_
        refine eE (by simp only [kA, seval, vint, qC, frv_st, hg, r2, q2, k2a, b2a, k2b, b2b, k2c, b2c] <;> with_reducible rfl) (by decide) ?_
        repeat refine wS ?_
        refine wT ⟨.inr rfl, _, rfl, ?_⟩
        injection hm with hm
        subst hm
        exact ⟨rfl, F2, (p2.flg _), f2⟩
    ·-- else t36
     rw [ifF bt36] at hm
     repeat refine wS ?_
     refine wR ?_
     refine eT 1 (by simp only [kA, seval, y84, vint, qC, frv_st, r0, q0, hg] <;> with_reducible rfl) (by decide) ?_
     obtain ⟨s1, e1, hm⟩ := oB hm
     refine oC (by simp only [kC, seval, vint, qC, frv_st, r0, q0, hg] <;> with_reducible rfl) (by simp only [kC, seval]) (by decide) Tryzgo103 (by exact FG.ap' (IH .expr) e1 p0 ⟨k0a, n0a⟩) ?_
     rintro _ H1 ⟨rfl, F1, p1, g1⟩
     have f1 : Fr F0 F1 H0 H1 := f0.step g1
     obtain ⟨st1, r1⟩ := p1.row
     have q1 := getL r1
     obtain ⟨k1a, n1a⟩ := g1.get k0a n0a
     have b1a := getL k1a
     obtain ⟨k1b, n1b⟩ := g1.get k0b n0b
     have b1b := getL k1b
     obtain ⟨k1c, n1c⟩ := g1.get k0c n0c
     have b1c := getL k1c
     refine oN ?_
     repeat refine wS ?_
     refine awp_block ?_
     repeat refine wS ?_
     refine eE (by simp only [kA, seval, y3, y84, y86, vint, qC, frv_st, hg, r1, q1, k1a, b1a, k1b, b1b, k1c, b1c] <;> with_reducible rfl) (by decide) ?_
     repeat refine wS ?_
     refine wC rfl (by simp only [jN, seval, vint, qC, frv_st, hg, r1, q1, k1a, b1a, k1b, b1b, k1c, b1c] <;> with_reducible rfl) (fun bt44 => ?_) (fun bt44 => ?_)
     ·-- if t44
      rw [ifT bt44] at hm
      repeat refine wS ?_
      obtain ⟨s2, e2, hm⟩ := oB hm
      obtain ⟨ft, gs, ks, xl, hs, hkids, hsm⟩ := dropM_inv e2
      obtain ⟨is0, c0, R0, ids0, cid0, cv0, cells00, rest0, sp⟩ := p1.split hs
      have h1 := sp.h1
      have h2 := sp.h2
      have h3 := sp.h3
      have h4 := sp.h4
      have h5 := sp.h5
      have hch := sp.ch
      rw [hkids] at hch
      obtain ⟨ic, cc, crest, hcv, hcid, hic, hcc, hccm⟩ := hch.msl_inv
      have hmx : maxLen = 9223372036854775807 := by decide
      have hip := lG h1
      have his := lG h2
      have hicl := lG hic
      have gw : IntKind.i64.wrap (((gs.length + 1 : Nat) : Int) - 1) = ((gs.length : Nat) : Int) := by rw [wrap_id (by omega) (by omega)]; omega
      have gi := ix_nat (n := gs.length + 1) (i := gs.length) (by omega)
      have gw2 : IntKind.i64.wrap (((ks.length + 1 : Nat) : Int) - 1) = ((ks.length : Nat) : Int) := by rw [wrap_id (by omega) (by omega)]; omega
      obtain ⟨RC, hRC⟩ : ∃ RC, RC = flatE (ks.map St.enc) ++ (xl.enc.cells ++ crest) := ⟨_, rfl⟩
      rw [← hRC] at hic
      have gR2 : R0[gs.length * 3 + 2]? = some (.msl ic 0 (ks.length + 1) cc) := by
       have := congrArg (fun z => z[2]?) sp.top
       simp only [List.getElem?_take, List.getElem?_drop] at this
       rw [← hcv]; simpa using this
      have bR2 : (gs.length * 3 + 2 + 1 ≤ R0.length) = True := by simp; omega
      have nic : ic ≠ is0 := fun e => sp.hi2 (by rw [hcid]; simp [e])
      have nis : ∀ k, (is0 = H1.length + k) = False := fun k => by simp; omega
      have hst : st1 = .msl is0 0 (gs.length + 1) c0 := by
       have h := r1
       rw [h1] at h
       simp only [Option.some.injEq, AObj.row.injEq, List.cons.injEq, and_true, true_and] at h
       exact h.symm
      refine dp_draw (by kernel_rfl) ?_
      refine dp_end (by simp only [jP, jO, jN, seval, y3, y64, y66, y84, y86, vint, qC, frv_st, hg, r1, q1, k1a, b1a, k1b, b1b, k1c, b1c, hst, nis, h2, hic, gw, gi, gw2, tN, gR2, bR2] <;> with_reducible rfl) (by decide) (by repeat (first | exact Fin.base _ | with_reducible apply Fin.keep | apply Fin.drop)) ?_
      refine wL [1, 5] (by simp only [jN, seval, vint, qC, frv_st, hg, r1, q1, k1a, b1a, k1b, b1b, k1c, b1c] <;> with_reducible rfl) ?_
      repeat refine wS ?_
      refine awp_draw 0 (by kernel_rfl) ?_
      refine d_take (bm := [0, 0, 2, 6, 14, 0, 32, 96, 224, 480, 992, 2046, 4095, 8191, 16383]) 11 (fresh := H1.length + 7) (by kernel_rfl) (by simp only [jD, jO, jN, seval, y3, y64, y66, vint, qC, frv_st, hst, nis, h2, hic, gw, gi, gw2, tN, gR2, bR2] <;> with_reducible rfl) (by decide) (by decide) ?_
      refine dops_sliceM (id := ic) (n := ks.length + 1) (c := cc) (kk := .i64) (k := ks.length) (by simp only [kC, seval, vint, qC, frv_st, hst, nis, h2, hic, gw, gi, gw2, tN, gR2, bR2]) rfl (by decide) (by decide) Tryzte64 (by simp only [kC, seval, vint, qC, frv_st, hst, nis, h2, hic, gw, gi, gw2, tN, gR2, bR2] <;> first | done | rfl) (by simp only [kC, seval, vint, qC, frv_st, hst, nis, h2, hic, gw, gi, gw2, tN, gR2, bR2] <;> first | done | rfl) (by omega) ?_
      refine d_end (bm := [0, 0, 2, 6, 14, 0, 32, 96, 224, 480, 992, 2046, 4095, 8191, 16383]) (fresh := H1.length + 7) (by kernel_rfl) (by simp only [jD, jO, jN, seval, y64, y66, vint, qC, frv_st, hst, nis, h2, hic, gw, gi, gw2, tN, gR2, bR2] <;> with_reducible rfl) (by decide) ?_
      refine awp_abs (fun H2 => ∃ F2, PSt toks ip s2 F2 H2 ∧ Fr F0 F2 H0 H2 ∧ (H2[0]? = some (gO) ∧ (0) ∉ F2) ∧ (H2[H0.length]? = some (.row [.optr ip 0]) ∧ (H0.length) ∉ F2) ∧ (H2[H0.length + 1]? = some (.row [.bool (atT (peekT toks s0.pos) [[105, 102], [109, 97, 116, 99, 104], [123]])]) ∧ (H0.length + 1) ∉ F2)) ?_ ?_
      ·obtain ⟨k1, k2⟩ := sp.retop (H3 := H1.set is0 (.row (R0.set (gs.length * 3 + 2) (.msl ic 0 ks.length cc)))) (kids' := ks) (cid' := [ic]) (by simp) (List.getElem?_set_self his) (fun j hj hn _ => List.getElem?_set_ne (Ne.symm hn)) (.of (rest := xl.enc.cells ++ crest) rfl (by rw [List.getElem?_set_ne (Ne.symm nic), hic, hRC]) (by simp [St.enc_cells]; omega) hccm) (fun i hi => .inl (by rw [hcid]; exact hi))
       exact ⟨_, by rw [hsm]; exact k1, f1.trans k2, k2.get k1a n1a, k2.get k1b n1b, k2.get k1c n1c⟩
      rintro H2 ⟨F2, p2, f2, ⟨k2a, n2a⟩, ⟨k2b, n2b⟩, ⟨k2c, n2c⟩⟩
      obtain ⟨st2, r2⟩ := p2.row
      have q2 := getL r2
      have b2a := getL k2a
      have b2b := getL k2b
      have b2c := getL k2c
      repeat refine wS ?_
      refine wR ?_
      refine eT 1 (by simp only [kA, seval, y84, vint, qC, frv_st, hg, r2, q2, k2a, b2a, k2b, b2b, k2c, b2c] <;> with_reducible rfl) (by decide) ?_
      obtain ⟨s3, e3, hm⟩ := oB hm
      refine oC (by simp only [kC, seval, vint, qC, frv_st, hg, r2, q2, k2a, b2a, k2b, b2b, k2c, b2c] <;> with_reducible rfl) (by simp only [kC, seval]) (by decide) Tryzgo149 (by exact FN.ap0 (unexpected_c toks ip) e3 p2) ?_
      rintro _ H3 ⟨rfl, F3, p3, g3⟩
      have f3 : Fr F0 F3 H0 H3 := f2.trans g3
      obtain ⟨st3, r3⟩ := p3.row
      have q3 := getL r3
      obtain ⟨k3a, n3a⟩ := g3.get k2a n2a
      have b3a := getL k3a
      obtain ⟨k3b, n3b⟩ := g3.get k2b n2b
      have b3b := getL k3b
      obtain ⟨k3c, n3c⟩ := g3.get k2c n2c
      have b3c := getL k3c
      refine oN ?_
      refine wL [] (by simp only [jN, seval, vint, qC, frv_st, hg, r3, q3, k3a, b3a, k3b, b3b, k3c, b3c] <;> with_reducible rfl) ?_
      repeat refine wS ?_
      refine eE (by simp only [kA, seval, vint, qC, frv_st, hg, r3, q3, k3a, b3a, k3b, b3b, k3c, b3c] <;> with_reducible rfl) (by decide) ?_
      repeat refine wS ?_
      refine wT ⟨.inr rfl, _, rfl, ?_⟩
      injection hm with hm
      subst hm
      exact ⟨rfl, F3, (p3.flg _), f3⟩
     ·-- else t44
      rw [ifF bt44] at hm
      repeat refine wS ?_
      refine wR ?_
      refine eT 2 (by simp only [kA, seval, y9, y84, y56, vint, qC, frv_st, hg, r1, q1, k1a, b1a, k1b, b1b, k1c, b1c] <;> with_reducible rfl) (by decide) ?_
      refine oP (by simp only [kC, seval, vint, qC, frv_st, hg, r1, q1, k1a, b1a, k1b, b1b, k1c, b1c] <;> with_reducible rfl) (by simp only [kC, seval]) (by decide) Tryzgo63 (at_c r1 hl p1.pos [[125]] (by decide)) ?_
      refine e_end (by simp only [kA, seval, vint, qC, frv_st, hg, r1, q1, k1a, b1a, k1b, b1b, k1c, b1c] <;> with_reducible rfl) (by decide) ?_
      repeat refine wS ?_
      refine wC rfl (by simp only [jN, seval, vint, qC, frv_st, hg, r1, q1, k1a, b1a, k1b, b1b, k1c, b1c] <;> with_reducible rfl) (fun bt78 => ?_) (fun bt78 => ?_)
      ·-- if t78
       rw [ifT bt78] at hm
       refine wL [] (by simp only [jN, seval, vint, qC, frv_st, hg, r1, q1, k1a, b1a, k1b, b1b, k1c, b1c] <;> with_reducible rfl) ?_
       repeat refine wS ?_
       refine eE (by simp only [kA, seval, vint, qC, frv_st, hg, r1, q1, k1a, b1a, k1b, b1b, k1c, b1c] <;> with_reducible rfl) (by decide) ?_
       repeat refine wS ?_
       refine wT ⟨.inr rfl, _, rfl, ?_⟩
       injection hm with hm
       subst hm
       exact ⟨rfl, F1, (p1.flg _), f1⟩
      ·-- else t78
       rw [ifF bt78] at hm
       refine wL [1, 4] (by simp only [jN, seval, vint, qC, frv_st, hg, r1, q1, k1a, b1a, k1b, b1b, k1c, b1c] <;> with_reducible rfl) ?_
       repeat refine wS ?_
       refine wR ?_
       refine eT 2 (by simp only [kA, seval, y9, y84, y56, vint, qC, frv_st, hg, r1, q1, k1a, b1a, k1b, b1b, k1c, b1c] <;> with_reducible rfl) (by decide) ?_
       refine oP (by simp only [kC, seval, vint, qC, frv_st, hg, r1, q1, k1a, b1a, k1b, b1b, k1c, b1c] <;> with_reducible rfl) (by simp only [kC, seval]) (by decide) Tryzgo63 (at_c r1 hl p1.pos [[61]] (by decide)) ?_
       refine e_end (by simp only [kA, seval, vint, qC, frv_st, hg, r1, q1, k1a, b1a, k1b, b1b, k1c, b1c] <;> with_reducible rfl) (by decide) ?_
       repeat refine wS ?_
       refine wC rfl (by simp only [jN, seval, vint, qC, frv_st, hg, r1, q1, k1a, b1a, k1b, b1b, k1c, b1c] <;> with_reducible rfl) (fun bt82 => ?_) (fun bt82 => ?_)
       ·-- if t82
        rw [ifT bt82] at hm
        repeat refine wS ?_
        refine wR ?_
        refine eT 2 (by simp only [kA, seval, y84, vint, qC, frv_st, hg, r1, q1, k1a, b1a, k1b, b1b, k1c, b1c] <;> with_reducible rfl) (by decide) ?_
        obtain ⟨s2, e2, hm⟩ := oB hm
        refine oC (by simp only [kC, seval, vint, qC, frv_st, hg, r1, q1, k1a, b1a, k1b, b1b, k1c, b1c] <;> with_reducible rfl) (by simp only [kC, seval]) (by decide) Tryzgo156 (by exact FC.ap0 (wrap_c toks ip 23 170 [] [.optr (H0.length) 0] Tryzgo170 (stbL [(0, gO), (H0.length, .row [.optr ip 0])]) (m172_w (n := n) IH (H0.length) )) e2 p1 ⟨⟨k1a, n1a⟩, ⟨k1b, n1b⟩, trivial⟩) ?_
        rintro _ H2 ⟨rfl, F2, p2, g2⟩
        have f2 : Fr F0 F2 H0 H2 := f1.trans g2
        obtain ⟨st2, r2⟩ := p2.row
        have q2 := getL r2
        obtain ⟨k2a, n2a⟩ := g2.get k1a n1a
        have b2a := getL k2a
        obtain ⟨k2b, n2b⟩ := g2.get k1b n1b
        have b2b := getL k2b
        obtain ⟨k2c, n2c⟩ := g2.get k1c n1c
        have b2c := getL k2c
        refine oN ?_
        repeat refine wS ?_
        refine eE (by simp only [kA, seval, vint, qC, frv_st, hg, r2, q2, k2a, b2a, k2b, b2b, k2c, b2c] <;> with_reducible rfl) (by decide) ?_
        repeat refine wS ?_
        refine wT ⟨.inr rfl, _, rfl, ?_⟩
        injection hm with hm
        subst hm
        exact ⟨rfl, F2, (p2.flg _), f2⟩
       ·-- else t82
        rw [ifF bt82] at hm
        repeat refine wS ?_
        refine wR ?_
        refine eT 2 (by simp only [kA, seval, y84, vint, qC, frv_st, hg, r1, q1, k1a, b1a, k1b, b1b, k1c, b1c] <;> with_reducible rfl) (by decide) ?_
        obtain ⟨s2, e2, hm⟩ := oB hm
        refine oC (by simp only [kC, seval, vint, qC, frv_st, hg, r1, q1, k1a, b1a, k1b, b1b, k1c, b1c] <;> with_reducible rfl) (by simp only [kC, seval]) (by decide) Tryzgo156 (by exact FC.ap0 (wrap_c toks ip 26 171 [] [.optr (H0.length) 0, .optr (H0.length + 1) 0] Tryzgo171 (stbL [(0, gO), (H0.length, .row [.optr ip 0]), (H0.length + 1, .row [.bool (atT (peekT toks s0.pos) [[105, 102], [109, 97, 116, 99, 104], [123]])])]) (m173_w (n := n) IH (H0.length) (H0.length + 1) (atT (peekT toks s0.pos) [[105, 102], [109, 97, 116, 99, 104], [123]]))) e2 p1 ⟨⟨k1a, n1a⟩, ⟨k1b, n1b⟩, ⟨k1c, n1c⟩, trivial⟩) ?_
        rintro _ H2 ⟨rfl, F2, p2, g2⟩
        have f2 : Fr F0 F2 H0 H2 := f1.trans g2
        obtain ⟨st2, r2⟩ := p2.row
        have q2 := getL r2
        obtain ⟨k2a, n2a⟩ := g2.get k1a n1a
        have b2a := getL k2a
        obtain ⟨k2b, n2b⟩ := g2.get k1b n1b
        have b2b := getL k2b
        obtain ⟨k2c, n2c⟩ := g2.get k1c n1c
        have b2c := getL k2c
        refine oN ?_
        repeat refine wS ?_
        refine eE (by simp only [kA, seval, vint, qC, frv_st, hg, r2, q2, k2a, b2a, k2b, b2b, k2c, b2c] <;> with_reducible rfl) (by decide) ?_
        repeat refine wS ?_
        refine wT ⟨.inr rfl, _, rfl, ?_⟩
        injection hm with hm
        subst hm
        exact ⟨rfl, F2, (p2.flg _), f2⟩
end Go.Abs
namespace Go.Abs
open Go.Proofs
def m96 (toks : List Tk) (n : Nat) (R : Rec) (s0 : PS) : Option PS := ((bumpM toks) s0).bind fun s1 => (loopM (fun s2 => (!decide ((peekT toks s2.pos).kind = 100) && !atT (peekT toks s2.pos) kwsL)) (fun s2 => ((bumpM toks) s2).bind fun s3 => some s3) n s1).bind fun s2 => some s2
theorem m96_w {toks : List Tk} {ip n : Nat} {R : Rec} (IH : IHs toks ip R) (b0 : Nat) : FC Tryz.prog toks ip 92 [.optr b0 0] (m96 toks n R ) unitR (EnvL [(0, gO), (b0, .row [.optr ip 0])]) := by
 refine fc_of fun s0 s' F0 H0 hm p0 i0 => ?_
 obtain ⟨⟨k0a, n0a⟩, ⟨k0b, n0b⟩, _⟩ := i0
 have b0a := getL k0a
 have b0b := getL k0b
 obtain ⟨st0, r0⟩ := p0.row
 have q0 := getL r0
 have hl := lim_le p0.len
 have f0 := Fr.refl F0 H0
 unfold m96 at hm
 refine aF (N := 14) Tryz.func92 rfl rfl (by simp) fun hb' => ?_
 repeat refine wS ?_
 refine wR ?_
 refine eT 1 (by simp only [kA, seval, y84, vint, qC, r0, q0, k0a, b0a, k0b, b0b] <;> with_reducible rfl) (by decide) ?_
 obtain ⟨s1, e1, hm⟩ := oB hm
 refine oC (by simp only [kC, seval, vint, qC, r0, q0, k0a, b0a, k0b, b0b] <;> with_reducible rfl) (by simp only [kC, seval]) (by decide) Tryzgo70 (by exact FN.ap0 (bump_c toks ip) e1 p0) ?_
 rintro _ H1 ⟨rfl, F1, p1, g1⟩
 have f1 : Fr F0 F1 H0 H1 := f0.trans g1
 obtain ⟨st1, r1⟩ := p1.row
 have q1 := getL r1
 obtain ⟨k1a, n1a⟩ := g1.get k0a n0a
 have b1a := getL k1a
 obtain ⟨k1b, n1b⟩ := g1.get k0b n0b
 have b1b := getL k1b
 refine oN ?_
 repeat refine wS ?_
 obtain ⟨sL2, eL2, hm⟩ := oB hm
 have hmo2 := hm
 clear hm
 refine awp_block ?_
 refine awp_loopX (σ := Nat × PS × List Nat) (fun (z : Nat × PS × List Nat) => [(0, .optr (b0) 0), (1, .optr ip 0)]) (fun (z : Nat × PS × List Nat) =>  fun H2 => loopM (fun s2 => (!decide ((peekT toks s2.pos).kind = 100) && !atT (peekT toks s2.pos) kwsL)) (fun s2 => ((bumpM toks) s2).bind fun s3 => some s3) z.1 z.2.1 = some sL2 ∧ PSt toks ip z.2.1 z.2.2 H2 ∧ Fr F0 z.2.2 H0 H2 ∧ (H2[0]? = some (gO) ∧ (0) ∉ z.2.2) ∧ (H2[b0]? = some (.row [.optr ip 0]) ∧ (b0) ∉ z.2.2)) (fun (z : Nat × PS × List Nat) => z.1) ((n, s1, F1)) ⟨(by first | rfl | (simp only [jN, seval, vint, qC, r1, q1, k1a, b1a, k1b, b1b] <;> first | done | with_reducible rfl)), (by first | rfl | (simp only [jN, seval, vint, qC, r1, q1, k1a, b1a, k1b, b1b] <;> first | done | with_reducible rfl)), trivial⟩ (⟨eL2, p1, f1, ⟨k1a, n1a⟩, ⟨k1b, n1b⟩⟩) ?_
 intro z H2 hg
 obtain ⟨k2, s2, F2⟩ := z
 obtain ⟨hk2, p2, f2, ⟨k2a, n2a⟩, ⟨k2b, n2b⟩⟩ := hg
 simp only at hk2 p2 f2 k2a n2a k2b n2b
 obtain ⟨st2, r2⟩ := p2.row
 have q2 := getL r2
 have b2a := getL k2a
 have b2b := getL k2b
 cases k2 with
 | zero => cases hk2
 | succ k2 => ?_
 repeat refine wS ?_
 refine dp_draw (by kernel_rfl) ?_
 refine dp_take 1 (by simp only [jP, jO, jN, seval, y84, vint, qC, r2, q2, k2a, b2a, k2b, b2b] <;> with_reducible rfl) (by decide) ?_
 refine dp_keep (by simp only [kE, seval, vint, qC, r2, q2, k2a, b2a, k2b, b2b] <;> with_reducible rfl) (by simp only [kE, seval, vint, qC, r2, q2, k2a, b2a, k2b, b2b] <;> with_reducible rfl) (by simp only [kE, seval, vint, qC, r2, q2, k2a, b2a, k2b, b2b]) (by decide) Tryzgo48 (fun hc => atEOF_c r2 hl p2.pos) ?_
 refine dp_take 3 (by simp only [jP, jO, jN, seval, y84, vint, qC, r2, q2, k2a, b2a, k2b, b2b] <;> with_reducible rfl) (by decide) ?_
 refine dp_keep (by simp only [kE, seval, vint, qC, r2, q2, k2a, b2a, k2b, b2b] <;> with_reducible rfl) (by simp only [kE, seval, vint, qC, r2, q2, k2a, b2a, k2b, b2b] <;> with_reducible rfl) (by simp only [kE, seval, vint, qC, r2, q2, k2a, b2a, k2b, b2b]) (by decide) Tryzgo93 (fun hc => itemKeywords_c k2a) ?_
 refine dp_keep (by simp only [kE, seval, vint, qC, r2, q2, k2a, b2a, k2b, b2b] <;> with_reducible rfl) (by simp only [kE, seval, vint, qC, r2, q2, k2a, b2a, k2b, b2b] <;> with_reducible rfl) (by simp only [kE, seval, vint, qC, r2, q2, k2a, b2a, k2b, b2b]) (by decide) Tryzgo63 (fun hc => at_c r2 hl p2.pos (kwsL) (by decide)) ?_
 refine dp_end (by simp only [jP, jO, jN, seval, vint, qC, r2, q2, k2a, b2a, k2b, b2b] <;> with_reducible rfl) (by decide) (by repeat (first | exact Fin.base _ | with_reducible apply Fin.keep | apply Fin.drop)) ?_
 repeat refine wS ?_
 refine wC rfl (by simp only [jN, seval, vint, qC, r2, q2, k2a, b2a, k2b, b2b] <;> with_reducible rfl) (fun bt11 => ?_) (fun bt11 => ?_)
 ·-- if t11
  unfold loopM at hk2
  rw [ifT bt11] at hk2
  obtain ⟨sB2, hm, hk2⟩ := oB hk2
  repeat refine wS ?_
  refine wK ?_
  repeat refine wS ?_
  refine awp_block ?_
  repeat refine wS ?_
  refine wR ?_
  refine eT 1 (by simp only [kA, seval, y84, vint, qC, r2, q2, k2a, b2a, k2b, b2b] <;> with_reducible rfl) (by decide) ?_
  obtain ⟨s3, e3, hm⟩ := oB hm
  refine oC (by simp only [kC, seval, vint, qC, r2, q2, k2a, b2a, k2b, b2b] <;> with_reducible rfl) (by simp only [kC, seval]) (by decide) Tryzgo70 (by exact FN.ap0 (bump_c toks ip) e3 p2) ?_
  rintro _ H3 ⟨rfl, F3, p3, g3⟩
  have f3 : Fr F0 F3 H0 H3 := f2.trans g3
  obtain ⟨st3, r3⟩ := p3.row
  have q3 := getL r3
  obtain ⟨k3a, n3a⟩ := g3.get k2a n2a
  have b3a := getL k3a
  obtain ⟨k3b, n3b⟩ := g3.get k2b n2b
  have b3b := getL k3b
  refine oN ?_
  try simp only [thenQ, blockQ]
  injection hm with hm
  subst hm
  exact ⟨(k2, _, F3), Nat.lt_succ_self _, ⟨rfl, rfl, trivial⟩, hk2, p3, f3, ⟨k3a, n3a⟩, ⟨k3b, n3b⟩⟩
 ·-- else t11
  unfold loopM at hk2
  rw [ifF bt11] at hk2
  injection hk2 with hk2
  subst hk2
  have hm := hmo2
  repeat refine wS ?_
  refine awp_exit ?_
  simp only [thenQ, blockQ, reduceIte, Nat.reduceEqDiff, Nat.succ_ne_self, if_true, if_false]
  refine ⟨.inl trivial, _, rfl, ?_⟩
  injection hm with hm
  subst hm
  exact ⟨rfl, F2, p2, f2⟩
def m77 (toks : List Tk) (n : Nat) (R : Rec) (s0 : PS) : Option PS := ((nodeM 46 (m96 toks n R )) s0).bind fun s1 => some s1
theorem m77_w {toks : List Tk} {ip n : Nat} {R : Rec} (IH : IHs toks ip R) : FG toks ip 66 [.optr ip 0] (m77 toks n R ) unitR := by
 intro s0 s' F0 H0 hm p0 i0
 obtain ⟨⟨hg, n0a⟩, _⟩ := i0
 obtain ⟨st0, r0⟩ := p0.row
 have q0 := getL r0
 have hl := lim_le p0.len
 have f0 := Fr.refl F0 H0
 have k0a := getL hg [.row [.optr ip 0]]
 have b0a := getL k0a
 have k0b : (H0 ++ [.row [.optr ip 0]])[H0.length]? = some (.row [.optr ip 0]) := by simp
 have n0b := p0.new0
 have b0b := getL k0b
 unfold m77 at hm
 refine aF (N := 5) Tryz.func66 rfl rfl (by simp) fun hb' => ?_
 repeat refine wS ?_
 refine eE (by simp only [kA, seval, y84, vint, qC, r0, q0, hg] <;> with_reducible rfl) (by decide) ?_
 repeat refine wS ?_
 refine wR ?_
 refine eT 2 (by simp only [kA, seval, y84, vint, qC, r0, q0, hg] <;> with_reducible rfl) (by decide) ?_
 obtain ⟨s1, e1, hm⟩ := oB hm
 refine oC (by simp only [kC, seval, vint, qC, r0, q0, hg] <;> with_reducible rfl) (by simp only [kC, seval]) (by decide) Tryzgo67 (by exact FC.ap (node_c toks ip 46 92 [] [.optr (H0.length) 0] Tryzgo92 (stbL [(0, gO), (H0.length, .row [.optr ip 0])]) (m96_w (n := n) IH (H0.length) )) e1 p0 ⟨⟨k0a, n0a⟩, ⟨k0b, n0b⟩, trivial⟩) ?_
 rintro _ H1 ⟨rfl, F1, p1, g1⟩
 have f1 : Fr F0 F1 H0 H1 := f0.step g1
 obtain ⟨st1, r1⟩ := p1.row
 have q1 := getL r1
 obtain ⟨k1a, n1a⟩ := g1.get k0a n0a
 have b1a := getL k1a
 obtain ⟨k1b, n1b⟩ := g1.get k0b n0b
 have b1b := getL k1b
 refine oN ?_
 refine ⟨.inl rfl, _, rfl, ?_⟩
 injection hm with hm
 subst hm
 exact ⟨rfl, F1, p1, f1⟩
def m82 (toks : List Tk) (n : Nat) (R : Rec) (k : Int) (s0 : PS) : Option PS := if decide (k = 2) = true then (((implM ) s0).bind fun s1 => some s1) else (if decide (k = 3) = true then (((R (.function true)) s0).bind fun s1 => some s1) else (if decide (k = 4) = true then (if decide (k = 4) = true then (((m101 toks n R (k)) s0).bind fun s1 => some s1) else (if decide (k = 6) = true then (((expectIdentM toks) s0).bind fun s1 => ((m103 toks n R ) s1).bind fun s2 => some s2) else (if decide (k = 7) = true then (((implM ) s0).bind fun s1 => some s1) else (if decide (k = 8) = true then (((expectIdentM toks) s0).bind fun s1 => ((expectM toks [58]) s1).bind fun s2 => ((R .typeExpr) s2).bind fun s3 => ((expectM toks [61]) s3).bind fun s4 => ((R .expr) s4).bind fun s5 => ((expectM toks [59]) s5).bind fun s6 => some s6) else (if decide (k = 9) = true then (((expectIdentM toks) s0).bind fun s1 => ((expectM toks [40]) s1).bind fun s2 => ((R (.params ([41]))) s2).bind fun s3 => ((expectM toks [61]) s3).bind fun s4 => ((R .expr) s4).bind fun s5 => ((expectM toks [59]) s5).bind fun s6 => some s6) else (some s0)))))) else (if decide (k = 5) = true then (((m101 toks n R (k)) s0).bind fun s1 => some s1) else (if decide (k = 6) = true then (((expectIdentM toks) s0).bind fun s1 => ((m103 toks n R ) s1).bind fun s2 => some s2) else (if decide (k = 7) = true then (((implM ) s0).bind fun s1 => some s1) else (if decide (k = 8) = true then (((expectIdentM toks) s0).bind fun s1 => ((expectM toks [58]) s1).bind fun s2 => ((R .typeExpr) s2).bind fun s3 => ((expectM toks [61]) s3).bind fun s4 => ((R .expr) s4).bind fun s5 => ((expectM toks [59]) s5).bind fun s6 => some s6) else (if decide (k = 9) = true then (((expectIdentM toks) s0).bind fun s1 => ((expectM toks [40]) s1).bind fun s2 => ((R (.params ([41]))) s2).bind fun s3 => ((expectM toks [61]) s3).bind fun s4 => ((R .expr) s4).bind fun s5 => ((expectM toks [59]) s5).bind fun s6 => some s6) else (some s0))))))))
theorem m82_w {toks : List Tk} {ip n : Nat} {R : Rec} (IH : IHs toks ip R) (k : Int) : FG toks ip 71 [.optr ip 0, .int .i64 k] (m82 toks n R k) (frv (.itemBody k)) := by
 intro s0 s' F0 H0 hm p0 i0
 obtain ⟨⟨hg, n0a⟩, _⟩ := i0
 obtain ⟨st0, r0⟩ := p0.row
 have q0 := getL r0
 have hl := lim_le p0.len
 have f0 := Fr.refl F0 H0
 have k0a := hg
 have b0a := getL k0a
 unfold m82 at hm
 refine aF (N := 57) Tryz.func71 rfl rfl (by simp) fun hb' => ?_
 repeat refine wS ?_
 refine eE (by simp only [kA, seval, vint, qC, r0, q0, k0a, b0a] <;> with_reducible rfl) (by decide) ?_
 repeat refine wS ?_
 refine awp_block ?_
 repeat refine wS ?_
 refine eE (by simp only [kA, seval, y3, vint, qC, r0, q0, k0a, b0a] <;> with_reducible rfl) (by decide) ?_
 repeat refine wS ?_
 refine wC rfl (by simp only [jN, seval, vint, qC, r0, q0, k0a, b0a] <;> with_reducible rfl) (fun bt5 => ?_) (fun bt5 => ?_)
 ·-- if t5
  rw [ifT bt5] at hm
  repeat refine wS ?_
  refine wR ?_
  refine eT 1 (by simp only [kA, seval, vint, qC, r0, q0, k0a, b0a] <;> with_reducible rfl) (by decide) ?_
  obtain ⟨s1, e1, hm⟩ := oB hm
  refine oC (by simp only [kC, seval, vint, qC, r0, q0, k0a, b0a] <;> with_reducible rfl) (by simp only [kC, seval]) (by decide) Tryzgo95 (by exact FG.ap0 (fg_none (toks := toks) (ip := ip) (f := 95) (args := [.optr ip 0]) (rv := unitR) ) e1 p0 ⟨k0a, n0a⟩) ?_
  rintro _ H1 ⟨rfl, F1, p1, g1⟩
  have f1 : Fr F0 F1 H0 H1 := f0.trans g1
  obtain ⟨st1, r1⟩ := p1.row
  have q1 := getL r1
  obtain ⟨k1a, n1a⟩ := g1.get k0a n0a
  have b1a := getL k1a
  refine oN ?_
  refine ⟨.inl rfl, _, rfl, ?_⟩
  injection hm with hm
  subst hm
  exact ⟨rfl, F1, p1, f1⟩
 ·-- else t5
  rw [ifF bt5] at hm
  repeat refine wS ?_
  refine eE (by simp only [kA, seval, y3, vint, qC, r0, q0, k0a, b0a] <;> with_reducible rfl) (by decide) ?_
  repeat refine wS ?_
  refine wC rfl (by simp only [jN, seval, vint, qC, r0, q0, k0a, b0a] <;> with_reducible rfl) (fun bt9 => ?_) (fun bt9 => ?_)
  ·-- if t9
   rw [ifT bt9] at hm
   repeat refine wS ?_
   refine wR ?_
   refine eT 1 (by simp only [kA, seval, vint, qC, r0, q0, k0a, b0a] <;> with_reducible rfl) (by decide) ?_
   obtain ⟨s1, e1, hm⟩ := oB hm
   refine oC (by simp only [kC, seval, vint, qC, r0, q0, k0a, b0a] <;> with_reducible rfl) (by simp only [kC, seval]) (by decide) Tryzgo96 (by exact FG.ap0 (IH (.function true)) e1 p0 ⟨k0a, n0a⟩) ?_
   rintro _ H1 ⟨rfl, F1, p1, g1⟩
   have f1 : Fr F0 F1 H0 H1 := f0.trans g1
   obtain ⟨st1, r1⟩ := p1.row
   have q1 := getL r1
   obtain ⟨k1a, n1a⟩ := g1.get k0a n0a
   have b1a := getL k1a
   refine oN ?_
   refine ⟨.inl rfl, _, rfl, ?_⟩
   injection hm with hm
   subst hm
   exact ⟨rfl, F1, p1, f1⟩
  ·-- else t9
   rw [ifF bt9] at hm
   repeat refine wS ?_
   refine eE (by simp only [kA, seval, y3, vint, qC, r0, q0, k0a, b0a] <;> with_reducible rfl) (by decide) ?_
   repeat refine wS ?_
   refine wC rfl (by simp only [jN, seval, vint, qC, r0, q0, k0a, b0a] <;> with_reducible rfl) (fun bt13 => ?_) (fun bt13 => ?_)
   ·-- if t13
    rw [ifT bt13] at hm
    repeat refine wS ?_
    refine wK ?_
    repeat refine wS ?_
    refine wC rfl (by simp only [jN, seval, vint, qC, r0, q0, k0a, b0a] <;> with_reducible rfl) (fun bt13 => ?_) (fun bt13 => ?_)
    ·-- if t13
     rw [ifT bt13] at hm
     repeat refine wS ?_
     refine wR ?_
     refine eT 2 (by simp only [kA, seval, vint, qC, r0, q0, k0a, b0a] <;> with_reducible rfl) (by decide) ?_
     obtain ⟨s1, e1, hm⟩ := oB hm
     refine oC (by simp only [kC, seval, vint, qC, r0, q0, k0a, b0a] <;> with_reducible rfl) (by simp only [kC, seval]) (by decide) Tryzgo97 (by exact FG.ap0 (m101_w (n := n) IH (k)) e1 p0 ⟨k0a, n0a⟩) ?_
     rintro _ H1 ⟨rfl, F1, p1, g1⟩
     have f1 : Fr F0 F1 H0 H1 := f0.trans g1
     obtain ⟨st1, r1⟩ := p1.row
     have q1 := getL r1
     obtain ⟨k1a, n1a⟩ := g1.get k0a n0a
     have b1a := getL k1a
     refine oN ?_
     refine ⟨.inl rfl, _, rfl, ?_⟩
     injection hm with hm
     subst hm
     exact ⟨rfl, F1, p1, f1⟩
    ·-- else t13
     rw [ifF bt13] at hm
     repeat refine wS ?_
     refine eE (by simp only [kA, seval, y3, vint, qC, r0, q0, k0a, b0a] <;> with_reducible rfl) (by decide) ?_
     repeat refine wS ?_
     refine wC rfl (by simp only [jN, seval, vint, qC, r0, q0, k0a, b0a] <;> with_reducible rfl) (fun bt19 => ?_) (fun bt19 => ?_)
     ·-- if t19
      rw [ifT bt19] at hm
      repeat refine wS ?_
      refine wR ?_
      refine eT 1 (by simp only [kA, seval, vint, qC, r0, q0, k0a, b0a] <;> with_reducible rfl) (by decide) ?_
      obtain ⟨s1, e1, hm⟩ := oB hm
      refine oC (by simp only [kC, seval, vint, qC, r0, q0, k0a, b0a] <;> with_reducible rfl) (by simp only [kC, seval]) (by decide) Tryzgo98 (by exact FN.ap0 (expectIdent_c toks ip) e1 p0) ?_
      rintro _ H1 ⟨rfl, F1, p1, g1⟩
      have f1 : Fr F0 F1 H0 H1 := f0.trans g1
      obtain ⟨st1, r1⟩ := p1.row
      have q1 := getL r1
      obtain ⟨k1a, n1a⟩ := g1.get k0a n0a
      have b1a := getL k1a
      refine oN ?_
      repeat refine wS ?_
      refine wR ?_
      refine eT 1 (by simp only [kA, seval, vint, qC, r1, q1, k1a, b1a] <;> with_reducible rfl) (by decide) ?_
      obtain ⟨s2, e2, hm⟩ := oB hm
      refine oC (by simp only [kC, seval, vint, qC, r1, q1, k1a, b1a] <;> with_reducible rfl) (by simp only [kC, seval]) (by decide) Tryzgo99 (by exact FG.ap0 (m103_w (n := n) IH ) e2 p1 ⟨k1a, n1a⟩) ?_
      rintro _ H2 ⟨rfl, F2, p2, g2⟩
      have f2 : Fr F0 F2 H0 H2 := f1.trans g2
      obtain ⟨st2, r2⟩ := p2.row
      have q2 := getL r2
      obtain ⟨k2a, n2a⟩ := g2.get k1a n1a
      have b2a := getL k2a
      refine oN ?_
      refine ⟨.inl rfl, _, rfl, ?_⟩
      injection hm with hm
      subst hm
      exact ⟨rfl, F2, p2, f2⟩
     ·-- else t19
      rw [ifF bt19] at hm
      repeat refine wS ?_
      refine eE (by simp only [kA, seval, y3, vint, qC, r0, q0, k0a, b0a] <;> with_reducible rfl) (by decide) ?_
      repeat refine wS ?_
      refine wC rfl (by simp only [jN, seval, vint, qC, r0, q0, k0a, b0a] <;> with_reducible rfl) (fun bt25 => ?_) (fun bt25 => ?_)
      ·-- if t25
       rw [ifT bt25] at hm
       repeat refine wS ?_
       refine wR ?_
       refine eT 1 (by simp only [kA, seval, vint, qC, r0, q0, k0a, b0a] <;> with_reducible rfl) (by decide) ?_
       obtain ⟨s1, e1, hm⟩ := oB hm
       refine oC (by simp only [kC, seval, vint, qC, r0, q0, k0a, b0a] <;> with_reducible rfl) (by simp only [kC, seval]) (by decide) Tryzgo100 (by exact FG.ap0 (fg_none (toks := toks) (ip := ip) (f := 100) (args := [.optr ip 0]) (rv := unitR) ) e1 p0 ⟨k0a, n0a⟩) ?_
       rintro _ H1 ⟨rfl, F1, p1, g1⟩
       have f1 : Fr F0 F1 H0 H1 := f0.trans g1
       obtain ⟨st1, r1⟩ := p1.row
       have q1 := getL r1
       obtain ⟨k1a, n1a⟩ := g1.get k0a n0a
       have b1a := getL k1a
       refine oN ?_
       refine ⟨.inl rfl, _, rfl, ?_⟩
       injection hm with hm
       subst hm
       exact ⟨rfl, F1, p1, f1⟩
      ·-- else t25
       rw [ifF bt25] at hm
       repeat refine wS ?_
       refine eE (by simp only [kA, seval, y3, vint, qC, r0, q0, k0a, b0a] <;> with_reducible rfl) (by decide) ?_
       repeat refine wS ?_
       refine wC rfl (by simp only [jN, seval, vint, qC, r0, q0, k0a, b0a] <;> with_reducible rfl) (fun bt29 => ?_) (fun bt29 => ?_)
       ·-- if t29
        rw [ifT bt29] at hm
        repeat refine wS ?_
        refine wR ?_
        refine eT 1 (by simp only [kA, seval, vint, qC, r0, q0, k0a, b0a] <;> with_reducible rfl) (by decide) ?_
        obtain ⟨s1, e1, hm⟩ := oB hm
        refine oC (by simp only [kC, seval, vint, qC, r0, q0, k0a, b0a] <;> with_reducible rfl) (by simp only [kC, seval]) (by decide) Tryzgo98 (by exact FN.ap0 (expectIdent_c toks ip) e1 p0) ?_
        rintro _ H1 ⟨rfl, F1, p1, g1⟩
        have f1 : Fr F0 F1 H0 H1 := f0.trans g1
        obtain ⟨st1, r1⟩ := p1.row
        have q1 := getL r1
        obtain ⟨k1a, n1a⟩ := g1.get k0a n0a
        have b1a := getL k1a
        refine oN ?_
        refine wL [0] (by simp only [jN, seval, vint, qC, r1, q1, k1a, b1a] <;> with_reducible rfl) ?_
        repeat refine wS ?_
        refine wR ?_
        refine eT 1 (by simp only [kA, seval, vint, qC, r1, q1, k1a, b1a] <;> with_reducible rfl) (by decide) ?_
        obtain ⟨s2, e2, hm⟩ := oB hm
        refine oC (by simp only [kC, seval, vint, qC, r1, q1, k1a, b1a] <;> with_reducible rfl) (by simp only [kC, seval]) (by decide) Tryzgo101 (by exact FN.ap0 (expect_c toks ip [58]) e2 p1) ?_
        rintro _ H2 ⟨rfl, F2, p2, g2⟩
        have f2 : Fr F0 F2 H0 H2 := f1.trans g2
        obtain ⟨st2, r2⟩ := p2.row
        have q2 := getL r2
        obtain ⟨k2a, n2a⟩ := g2.get k1a n1a
        have b2a := getL k2a
        refine oN ?_
        repeat refine wS ?_
        refine wR ?_
        refine eT 1 (by simp only [kA, seval, vint, qC, r2, q2, k2a, b2a] <;> with_reducible rfl) (by decide) ?_
        obtain ⟨s3, e3, hm⟩ := oB hm
        refine oC (by simp only [kC, seval, vint, qC, r2, q2, k2a, b2a] <;> with_reducible rfl) (by simp only [kC, seval]) (by decide) Tryzgo102 (by exact FG.ap0 (IH .typeExpr) e3 p2 ⟨k2a, n2a⟩) ?_
        rintro _ H3 ⟨rfl, F3, p3, g3⟩
        have f3 : Fr F0 F3 H0 H3 := f2.trans g3
        obtain ⟨st3, r3⟩ := p3.row
        have q3 := getL r3
        obtain ⟨k3a, n3a⟩ := g3.get k2a n2a
        have b3a := getL k3a
        refine oN ?_
        repeat refine wS ?_
        refine wR ?_
        refine eT 1 (by simp only [kA, seval, vint, qC, r3, q3, k3a, b3a] <;> with_reducible rfl) (by decide) ?_
        obtain ⟨s4, e4, hm⟩ := oB hm
        refine oC (by simp only [kC, seval, vint, qC, r3, q3, k3a, b3a] <;> with_reducible rfl) (by simp only [kC, seval]) (by decide) Tryzgo101 (by exact FN.ap0 (expect_c toks ip [61]) e4 p3) ?_
        rintro _ H4 ⟨rfl, F4, p4, g4⟩
        have f4 : Fr F0 F4 H0 H4 := f3.trans g4
        obtain ⟨st4, r4⟩ := p4.row
        have q4 := getL r4
        obtain ⟨k4a, n4a⟩ := g4.get k3a n3a
        have b4a := getL k4a
        refine oN ?_
        repeat refine wS ?_
        refine wR ?_
        refine eT 1 (by simp only [kA, seval, vint, qC, r4, q4, k4a, b4a] <;> with_reducible rfl) (by decide) ?_
        obtain ⟨s5, e5, hm⟩ := oB hm
        refine oC (by simp only [kC, seval, vint, qC, r4, q4, k4a, b4a] <;> with_reducible rfl) (by simp only [kC, seval]) (by decide) Tryzgo103 (by exact FG.ap0 (IH .expr) e5 p4 ⟨k4a, n4a⟩) ?_
        rintro _ H5 ⟨rfl, F5, p5, g5⟩
        have f5 : Fr F0 F5 H0 H5 := f4.trans g5
        obtain ⟨st5, r5⟩ := p5.row
        have q5 := getL r5
        obtain ⟨k5a, n5a⟩ := g5.get k4a n4a
        have b5a := getL k5a
        refine oN ?_
        repeat refine wS ?_
        refine wR ?_
        refine eT 1 (by simp only [kA, seval, vint, qC, r5, q5, k5a, b5a] <;> with_reducible rfl) (by decide) ?_
        obtain ⟨s6, e6, hm⟩ := oB hm
        refine oC (by simp only [kC, seval, vint, qC, r5, q5, k5a, b5a] <;> with_reducible rfl) (by simp only [kC, seval]) (by decide) Tryzgo101 (by exact FN.ap0 (expect_c toks ip [59]) e6 p5) ?_
        rintro _ H6 ⟨rfl, F6, p6, g6⟩
        have f6 : Fr F0 F6 H0 H6 := f5.trans g6
        obtain ⟨st6, r6⟩ := p6.row
        have q6 := getL r6
        obtain ⟨k6a, n6a⟩ := g6.get k5a n5a
        have b6a := getL k6a
        refine oN ?_
        refine ⟨.inl rfl, _, rfl, ?_⟩
        injection hm with hm
        subst hm
        exact ⟨rfl, F6, p6, f6⟩
       ·-- else t29
        rw [ifF bt29] at hm
        repeat refine wS ?_
        refine eE (by simp only [kA, seval, y3, vint, qC, r0, q0, k0a, b0a] <;> with_reducible rfl) (by decide) ?_
        repeat refine wS ?_
        refine wC rfl (by simp only [jN, seval, vint, qC, r0, q0, k0a, b0a] <;> with_reducible rfl) (fun bt43 => ?_) (fun bt43 => ?_)
        ·-- if t43
         rw [ifT bt43] at hm
         refine wL [0] (by simp only [jN, seval, vint, qC, r0, q0, k0a, b0a] <;> with_reducible rfl) ?_
         repeat refine wS ?_
         refine wR ?_
         refine eT 1 (by simp only [kA, seval, vint, qC, r0, q0, k0a, b0a] <;> with_reducible rfl) (by decide) ?_
         obtain ⟨s1, e1, hm⟩ := oB hm
         refine oC (by simp only [kC, seval, vint, qC, r0, q0, k0a, b0a] <;> with_reducible rfl) (by simp only [kC, seval]) (by decide) Tryzgo98 (by exact FN.ap0 (expectIdent_c toks ip) e1 p0) ?_
         rintro _ H1 ⟨rfl, F1, p1, g1⟩
         have f1 : Fr F0 F1 H0 H1 := f0.trans g1
         obtain ⟨st1, r1⟩ := p1.row
         have q1 := getL r1
         obtain ⟨k1a, n1a⟩ := g1.get k0a n0a
         have b1a := getL k1a
         refine oN ?_
         repeat refine wS ?_
         refine wR ?_
         refine eT 1 (by simp only [kA, seval, vint, qC, r1, q1, k1a, b1a] <;> with_reducible rfl) (by decide) ?_
         obtain ⟨s2, e2, hm⟩ := oB hm
         refine oC (by simp only [kC, seval, vint, qC, r1, q1, k1a, b1a] <;> with_reducible rfl) (by simp only [kC, seval]) (by decide) Tryzgo101 (by exact FN.ap0 (expect_c toks ip [40]) e2 p1) ?_
         rintro _ H2 ⟨rfl, F2, p2, g2⟩
         have f2 : Fr F0 F2 H0 H2 := f1.trans g2
         obtain ⟨st2, r2⟩ := p2.row
         have q2 := getL r2
         obtain ⟨k2a, n2a⟩ := g2.get k1a n1a
         have b2a := getL k2a
         refine oN ?_
         repeat refine wS ?_
         refine wR ?_
         refine eT 1 (by simp only [kA, seval, vint, qC, r2, q2, k2a, b2a] <;> with_reducible rfl) (by decide) ?_
         obtain ⟨s3, e3, hm⟩ := oB hm
         refine oC (by simp only [kC, seval, vint, qC, r2, q2, k2a, b2a] <;> with_reducible rfl) (by simp only [kC, seval]) (by decide) Tryzgo104 (by exact FG.ap0 (IH (.params ([41]))) e3 p2 ⟨k2a, n2a⟩) ?_
         rintro _ H3 ⟨rfl, F3, p3, g3⟩
         have f3 : Fr F0 F3 H0 H3 := f2.trans g3
         obtain ⟨st3, r3⟩ := p3.row
         have q3 := getL r3
         obtain ⟨k3a, n3a⟩ := g3.get k2a n2a
         have b3a := getL k3a
         refine oN ?_
         repeat refine wS ?_
         refine wR ?_
         refine eT 1 (by simp only [kA, seval, vint, qC, r3, q3, k3a, b3a] <;> with_reducible rfl) (by decide) ?_
         obtain ⟨s4, e4, hm⟩ := oB hm
         refine oC (by simp only [kC, seval, vint, qC, r3, q3, k3a, b3a] <;> with_reducible rfl) (by simp only [kC, seval]) (by decide) Tryzgo101 (by exact FN.ap0 (expect_c toks ip [61]) e4 p3) ?_
         rintro _ H4 ⟨rfl, F4, p4, g4⟩
         have f4 : Fr F0 F4 H0 H4 := f3.trans g4
         obtain ⟨st4, r4⟩ := p4.row
         have q4 := getL r4
         obtain ⟨k4a, n4a⟩ := g4.get k3a n3a
         have b4a := getL k4a
         refine oN ?_
         repeat refine wS ?_
         refine wR ?_
         refine eT 1 (by simp only [kA, seval, vint, qC, r4, q4, k4a, b4a] <;> with_reducible rfl) (by decide) ?_
         obtain ⟨s5, e5, hm⟩ := oB hm
         refine oC (by simp only [kC, seval, vint, qC, r4, q4, k4a, b4a] <;> with_reducible rfl) (by simp only [kC, seval]) (by decide) Tryzgo103 (by exact FG.ap0 (IH .expr) e5 p4 ⟨k4a, n4a⟩) ?_
         rintro _ H5 ⟨rfl, F5, p5, g5⟩
         have f5 : Fr F0 F5 H0 H5 := f4.trans g5
         obtain ⟨st5, r5⟩ := p5.row
         have q5 := getL r5
         obtain ⟨k5a, n5a⟩ := g5.get k4a n4a
         have b5a := getL k5a
         refine oN ?_
         repeat refine wS ?_
         refine wR ?_
         refine eT 1 (by simp only [kA, seval, vint, qC, r5, q5, k5a, b5a] <;> with_reducible rfl) (by decide) ?_
         obtain ⟨s6, e6, hm⟩ := oB hm
         refine oC (by simp only [kC, seval, vint, qC, r5, q5, k5a, b5a] <;> with_reducible rfl) (by simp only [kC, seval]) (by decide) Tryzgo101 (by exact FN.ap0 (expect_c toks ip [59]) e6 p5) ?_
         rintro _ H6 ⟨rfl, F6, p6, g6⟩
         have f6 : Fr F0 F6 H0 H6 := f5.trans g6
         obtain ⟨st6, r6⟩ := p6.row
         have q6 := getL r6
         obtain ⟨k6a, n6a⟩ := g6.get k5a n5a
         have b6a := getL k6a
         refine oN ?_
         refine ⟨.inl rfl, _, rfl, ?_⟩
         injection hm with hm
         subst hm
         exact ⟨rfl, F6, p6, f6⟩
        ·-- else t43
         rw [ifF bt43] at hm
         repeat refine wS ?_
         refine wK ?_
         refine ⟨.inl rfl, _, rfl, ?_⟩
         injection hm with hm
         subst hm
         exact ⟨rfl, F0, p0, f0⟩
   ·-- else t13
    rw [ifF bt13] at hm
    repeat refine wS ?_
    refine eE (by simp only [kA, seval, y3, vint, qC, r0, q0, k0a, b0a] <;> with_reducible rfl) (by decide) ?_
    repeat refine wS ?_
    refine wC rfl (by simp only [jN, seval, vint, qC, r0, q0, k0a, b0a] <;> with_reducible rfl) (fun bt13 => ?_) (fun bt13 => ?_)
    ·-- if t13
     rw [ifT bt13] at hm
     repeat refine wS ?_
     refine wR ?_
     refine eT 2 (by simp only [kA, seval, vint, qC, r0, q0, k0a, b0a] <;> with_reducible rfl) (by decide) ?_
     obtain ⟨s1, e1, hm⟩ := oB hm
     refine oC (by simp only [kC, seval, vint, qC, r0, q0, k0a, b0a] <;> with_reducible rfl) (by simp only [kC, seval]) (by decide) Tryzgo97 (by exact FG.ap0 (m101_w (n := n) IH (k)) e1 p0 ⟨k0a, n0a⟩) ?_
     rintro _ H1 ⟨rfl, F1, p1, g1⟩
     have f1 : Fr F0 F1 H0 H1 := f0.trans g1
     obtain ⟨st1, r1⟩ := p1.row
     have q1 := getL r1
     obtain ⟨k1a, n1a⟩ := g1.get k0a n0a
     have b1a := getL k1a
     refine oN ?_
     refine ⟨.inl rfl, _, rfl, ?_⟩
     injection hm with hm
     subst hm
     exact ⟨rfl, F1, p1, f1⟩
    ·-- else t13
     rw [ifF bt13] at hm
     repeat refine wS ?_
     refine eE (by simp only [kA, seval, y3, vint, qC, r0, q0, k0a, b0a] <;> with_reducible rfl) (by decide) ?_
     repeat refine wS ?_
     refine wC rfl (by simp only [jN, seval, vint, qC, r0, q0, k0a, b0a] <;> with_reducible rfl) (fun bt19 => ?_) (fun bt19 => ?_)
     ·-- if t19
      rw [ifT bt19] at hm
      repeat refine wS ?_
      refine wR ?_
      refine eT 1 (by simp only [kA, seval, vint, qC, r0, q0, k0a, b0a] <;> with_reducible rfl) (by decide) ?_
      obtain ⟨s1, e1, hm⟩ := oB hm
      refine oC (by simp only [kC, seval, vint, qC, r0, q0, k0a, b0a] <;> with_reducible rfl) (by simp only [kC, seval]) (by decide) Tryzgo98 (by exact FN.ap0 (expectIdent_c toks ip) e1 p0) ?_
      rintro _ H1 ⟨rfl, F1, p1, g1⟩
      have f1 : Fr F0 F1 H0 H1 := f0.trans g1
      obtain ⟨st1, r1⟩ := p1.row
      have q1 := getL r1
      obtain ⟨k1a, n1a⟩ := g1.get k0a n0a
      have b1a := getL k1a
      refine oN ?_
      repeat refine wS ?_
      refine wR ?_
      refine eT 1 (by simp only [kA, seval, vint, qC, r1, q1, k1a, b1a] <;> with_reducible rfl) (by decide) ?_
      obtain ⟨s2, e2, hm⟩ := oB hm
      refine oC (by simp only [kC, seval, vint, qC, r1, q1, k1a, b1a] <;> with_reducible rfl) (by simp only [kC, seval]) (by decide) Tryzgo99 (by exact FG.ap0 (m103_w (n := n) IH ) e2 p1 ⟨k1a, n1a⟩) ?_
      rintro _ H2 ⟨rfl, F2, p2, g2⟩
      have f2 : Fr F0 F2 H0 H2 := f1.trans g2
      obtain ⟨st2, r2⟩ := p2.row
      have q2 := getL r2
      obtain ⟨k2a, n2a⟩ := g2.get k1a n1a
      have b2a := getL k2a
      refine oN ?_
      refine ⟨.inl rfl, _, rfl, ?_⟩
      injection hm with hm
      subst hm
      exact ⟨rfl, F2, p2, f2⟩
     ·-- else t19
      rw [ifF bt19] at hm
      repeat refine wS ?_
      refine eE (by simp only [kA, seval, y3, vint, qC, r0, q0, k0a, b0a] <;> with_reducible rfl) (by decide) ?_
      repeat refine wS ?_
      refine wC rfl (by simp only [jN, seval, vint, qC, r0, q0, k0a, b0a] <;> with_reducible rfl) (fun bt25 => ?_) (fun bt25 => ?_)
      ·-- if t25
       rw [ifT bt25] at hm
       repeat refine wS ?_
       refine wR ?_
       refine eT 1 (by simp only [kA, seval, vint, qC, r0, q0, k0a, b0a] <;> with_reducible rfl) (by decide) ?_
       obtain ⟨s1, e1, hm⟩ := oB hm
       refine oC (by simp only [kC, seval, vint, qC, r0, q0, k0a, b0a] <;> with_reducible rfl) (by simp only [kC, seval]) (by decide) Tryzgo100 (by exact FG.ap0 (fg_none (toks := toks) (ip := ip) (f := 100) (args := [.optr ip 0]) (rv := unitR) ) e1 p0 ⟨k0a, n0a⟩) ?_
       rintro _ H1 ⟨rfl, F1, p1, g1⟩
       have f1 : Fr F0 F1 H0 H1 := f0.trans g1
       obtain ⟨st1, r1⟩ := p1.row
       have q1 := getL r1
       obtain ⟨k1a, n1a⟩ := g1.get k0a n0a
       have b1a := getL k1a
       refine oN ?_
       refine ⟨.inl rfl, _, rfl, ?_⟩
       injection hm with hm
       subst hm
       exact ⟨rfl, F1, p1, f1⟩
      ·-- else t25
       rw [ifF bt25] at hm
       repeat refine wS ?_
       refine eE (by simp only [kA, seval, y3, vint, qC, r0, q0, k0a, b0a] <;> with_reducible rfl) (by decide) ?_
       repeat refine wS ?_
       refine wC rfl (by simp only [jN, seval, vint, qC, r0, q0, k0a, b0a] <;> with_reducible rfl) (fun bt29 => ?_) (fun bt29 => ?_)
       ·-- if t29
        rw [ifT bt29] at hm
        refine wL [0] (by simp only [jN, seval, vint, qC, r0, q0, k0a, b0a] <;> with_reducible rfl) ?_
        repeat refine wS ?_
        refine wR ?_
        refine eT 1 (by simp only [kA, seval, vint, qC, r0, q0, k0a, b0a] <;> with_reducible rfl) (by decide) ?_
        obtain ⟨s1, e1, hm⟩ := oB hm
        refine oC (by simp only [kC, seval, vint, qC, r0, q0, k0a, b0a] <;> with_reducible rfl) (by simp only [kC, seval]) (by decide) Tryzgo98 (by exact FN.ap0 (expectIdent_c toks ip) e1 p0) ?_
        rintro _ H1 ⟨rfl, F1, p1, g1⟩
        have f1 : Fr F0 F1 H0 H1 := f0.trans g1
        obtain ⟨st1, r1⟩ := p1.row
        have q1 := getL r1
        obtain ⟨k1a, n1a⟩ := g1.get k0a n0a
        have b1a := getL k1a
        refine oN ?_
        repeat refine wS ?_
        refine wR ?_
        refine eT 1 (by simp only [kA, seval, vint, qC, r1, q1, k1a, b1a] <;> with_reducible rfl) (by decide) ?_
        obtain ⟨s2, e2, hm⟩ := oB hm
        refine oC (by simp only [kC, seval, vint, qC, r1, q1, k1a, b1a] <;> with_reducible rfl) (by simp only [kC, seval]) (by decide) Tryzgo101 (by exact FN.ap0 (expect_c toks ip [58]) e2 p1) ?_
        rintro _ H2 ⟨rfl, F2, p2, g2⟩
        have f2 : Fr F0 F2 H0 H2 := f1.trans g2
        obtain ⟨st2, r2⟩ := p2.row
        have q2 := getL r2
        obtain ⟨k2a, n2a⟩ := g2.get k1a n1a
        have b2a := getL k2a
        refine oN ?_
        repeat refine wS ?_
        refine wR ?_
        refine eT 1 (by simp only [kA, seval, vint, qC, r2, q2, k2a, b2a] <;> with_reducible rfl) (by decide) ?_
        obtain ⟨s3, e3, hm⟩ := oB hm
        refine oC (by simp only [kC, seval, vint, qC, r2, q2, k2a, b2a] <;> with_reducible rfl) (by simp only [kC, seval]) (by decide) Tryzgo102 (by exact FG.ap0 (IH .typeExpr) e3 p2 ⟨k2a, n2a⟩) ?_
        rintro _ H3 ⟨rfl, F3, p3, g3⟩
        have f3 : Fr F0 F3 H0 H3 := f2.trans g3
        obtain ⟨st3, r3⟩ := p3.row
        have q3 := getL r3
        obtain ⟨k3a, n3a⟩ := g3.get k2a n2a
        have b3a := getL k3a
        refine oN ?_
        repeat refine wS ?_
        refine wR ?_
        refine eT 1 (by simp only [kA, seval, vint, qC, r3, q3, k3a, b3a] <;> with_reducible rfl) (by decide) ?_
        obtain ⟨s4, e4, hm⟩ := oB hm
        refine oC (by simp only [kC, seval, vint, qC, r3, q3, k3a, b3a] <;> with_reducible rfl) (by simp only [kC, seval]) (by decide) Tryzgo101 (by exact FN.ap0 (expect_c toks ip [61]) e4 p3) ?_
        rintro _ H4 ⟨rfl, F4, p4, g4⟩
        have f4 : Fr F0 F4 H0 H4 := f3.trans g4
        obtain ⟨st4, r4⟩ := p4.row
        have q4 := getL r4
        obtain ⟨k4a, n4a⟩ := g4.get k3a n3a
        have b4a := getL k4a
        refine oN ?_
        repeat refine wS ?_
        refine wR ?_
        refine eT 1 (by simp only [kA, seval, vint, qC, r4, q4, k4a, b4a] <;> with_reducible rfl) (by decide) ?_
        obtain ⟨s5, e5, hm⟩ := oB hm
        refine oC (by simp only [kC, seval, vint, qC, r4, q4, k4a, b4a] <;> with_reducible rfl) (by simp only [kC, seval]) (by decide) Tryzgo103 (by exact FG.ap0 (IH .expr) e5 p4 ⟨k4a, n4a⟩) ?_
        rintro _ H5 ⟨rfl, F5, p5, g5⟩
        have f5 : Fr F0 F5 H0 H5 := f4.trans g5
        obtain ⟨st5, r5⟩ := p5.row
        have q5 := getL r5
        obtain ⟨k5a, n5a⟩ := g5.get k4a n4a
        have b5a := getL k5a
        refine oN ?_
        repeat refine wS ?_
        refine wR ?_
        refine eT 1 (by simp only [kA, seval, vint, qC, r5, q5, k5a, b5a] <;> with_reducible rfl) (by decide) ?_
        obtain ⟨s6, e6, hm⟩ := oB hm
        refine oC (by simp only [kC, seval, vint, qC, r5, q5, k5a, b5a] <;> with_reducible rfl) (by simp only [kC, seval]) (by decide) Tryzgo101 (by exact FN.ap0 (expect_c toks ip [59]) e6 p5) ?_
        rintro _ H6 ⟨rfl, F6, p6, g6⟩
        have f6 : Fr F0 F6 H0 H6 := f5.trans g6
        obtain ⟨st6, r6⟩ := p6.row
        have q6 := getL r6
        obtain ⟨k6a, n6a⟩ := g6.get k5a n5a
        have b6a := getL k6a
        refine oN ?_
        refine ⟨.inl rfl, _, rfl, ?_⟩
        injection hm with hm
        subst hm
        exact ⟨rfl, F6, p6, f6⟩
       ·-- else t29
        rw [ifF bt29] at hm
        refine wL [0, 4] (by simp only [jN, seval, vint, qC, r0, q0, k0a, b0a] <;> with_reducible rfl) ?_
        repeat refine wS ?_
        refine eE (by simp only [kA, seval, y3, vint, qC, r0, q0, k0a, b0a] <;> with_reducible rfl) (by decide) ?_
        repeat refine wS ?_
        refine wC rfl (by simp only [jN, seval, vint, qC, r0, q0, k0a, b0a] <;> with_reducible rfl) (fun bt43 => ?_) (fun bt43 => ?_)
        ·-- if t43
         rw [ifT bt43] at hm
         repeat refine wS ?_
         refine wR ?_
         refine eT 1 (by simp only [kA, seval, vint, qC, r0, q0, k0a, b0a] <;> with_reducible rfl) (by decide) ?_
         obtain ⟨s1, e1, hm⟩ := oB hm
         refine oC (by simp only [kC, seval, vint, qC, r0, q0, k0a, b0a] <;> with_reducible rfl) (by simp only [kC, seval]) (by decide) Tryzgo98 (by exact FN.ap0 (expectIdent_c toks ip) e1 p0) ?_
         rintro _ H1 ⟨rfl, F1, p1, g1⟩
         have f1 : Fr F0 F1 H0 H1 := f0.trans g1
         obtain ⟨st1, r1⟩ := p1.row
         have q1 := getL r1
         obtain ⟨k1a, n1a⟩ := g1.get k0a n0a
         have b1a := getL k1a
         refine oN ?_
         repeat refine wS ?_
         refine wR ?_
         refine eT 1 (by simp only [kA, seval, vint, qC, r1, q1, k1a, b1a] <;> with_reducible rfl) (by decide) ?_
         obtain ⟨s2, e2, hm⟩ := oB hm
         refine oC (by simp only [kC, seval, vint, qC, r1, q1, k1a, b1a] <;> with_reducible rfl) (by simp only [kC, seval]) (by decide) Tryzgo101 (by exact FN.ap0 (expect_c toks ip [40]) e2 p1) ?_
         rintro _ H2 ⟨rfl, F2, p2, g2⟩
         have f2 : Fr F0 F2 H0 H2 := f1.trans g2
         obtain ⟨st2, r2⟩ := p2.row
         have q2 := getL r2
         obtain ⟨k2a, n2a⟩ := g2.get k1a n1a
         have b2a := getL k2a
         refine oN ?_
         repeat refine wS ?_
         refine wR ?_
         refine eT 1 (by simp only [kA, seval, vint, qC, r2, q2, k2a, b2a] <;> with_reducible rfl) (by decide) ?_
         obtain ⟨s3, e3, hm⟩ := oB hm
         refine oC (by simp only [kC, seval, vint, qC, r2, q2, k2a, b2a] <;> with_reducible rfl) (by simp only [kC, seval]) (by decide) Tryzgo104 (by exact FG.ap0 (IH (.params ([41]))) e3 p2 ⟨k2a, n2a⟩) ?_
         rintro _ H3 ⟨rfl, F3, p3, g3⟩
         have f3 : Fr F0 F3 H0 H3 := f2.trans g3
         obtain ⟨st3, r3⟩ := p3.row
         have q3 := getL r3
         obtain ⟨k3a, n3a⟩ := g3.get k2a n2a
         have b3a := getL k3a
         refine oN ?_
         repeat refine wS ?_
         refine wR ?_
         refine eT 1 (by simp only [kA, seval, vint, qC, r3, q3, k3a, b3a] <;> with_reducible rfl) (by decide) ?_
         obtain ⟨s4, e4, hm⟩ := oB hm
         refine oC (by simp only [kC, seval, vint, qC, r3, q3, k3a, b3a] <;> with_reducible rfl) (by simp only [kC, seval]) (by decide) Tryzgo101 (by exact FN.ap0 (expect_c toks ip [61]) e4 p3) ?_
         rintro _ H4 ⟨rfl, F4, p4, g4⟩
         have f4 : Fr F0 F4 H0 H4 := f3.trans g4
         obtain ⟨st4, r4⟩ := p4.row
         have q4 := getL r4
         obtain ⟨k4a, n4a⟩ := g4.get k3a n3a
         have b4a := getL k4a
         refine oN ?_
         repeat refine wS ?_
         refine wR ?_
         refine eT 1 (by simp only [kA, seval, vint, qC, r4, q4, k4a, b4a] <;> with_reducible rfl) (by decide) ?_
         obtain ⟨s5, e5, hm⟩ := oB hm
         refine oC (by simp only [kC, seval, vint, qC, r4, q4, k4a, b4a] <;> with_reducible rfl) (by simp only [kC, seval]) (by decide) Tryzgo103 (by exact FG.ap0 (IH .expr) e5 p4 ⟨k4a, n4a⟩) ?_
         rintro _ H5 ⟨rfl, F5, p5, g5⟩
         have f5 : Fr F0 F5 H0 H5 := f4.trans g5
         obtain ⟨st5, r5⟩ := p5.row
         have q5 := getL r5
         obtain ⟨k5a, n5a⟩ := g5.get k4a n4a
         have b5a := getL k5a
         refine oN ?_
         repeat refine wS ?_
         refine wR ?_
         refine eT 1 (by simp only [kA, seval, vint, qC, r5, q5, k5a, b5a] <;> with_reducible rfl) (by decide) ?_
         obtain ⟨s6, e6, hm⟩ := oB hm
         refine oC (by simp only [kC, seval, vint, qC, r5, q5, k5a, b5a] <;> with_reducible rfl) (by simp only [kC, seval]) (by decide) Tryzgo101 (by exact FN.ap0 (expect_c toks ip [59]) e6 p5) ?_
         rintro _ H6 ⟨rfl, F6, p6, g6⟩
         have f6 : Fr F0 F6 H0 H6 := f5.trans g6
         obtain ⟨st6, r6⟩ := p6.row
         have q6 := getL r6
         obtain ⟨k6a, n6a⟩ := g6.get k5a n5a
         have b6a := getL k6a
         refine oN ?_
         refine ⟨.inl rfl, _, rfl, ?_⟩
         injection hm with hm
         subst hm
         exact ⟨rfl, F6, p6, f6⟩
        ·-- else t43
         rw [ifF bt43] at hm
         repeat refine wS ?_
         refine wK ?_
         refine ⟨.inl rfl, _, rfl, ?_⟩
         injection hm with hm
         subst hm
         exact ⟨rfl, F0, p0, f0⟩
def m79 (toks : List Tk) (n : Nat) (R : Rec) (k : Int) (s0 : PS) : Option PS := ((acceptM toks [[112, 117, 98]]) s0).bind fun s1 => ((bumpM toks) s1).bind fun s2 => ((R (.itemBody (k))) s2).bind fun s3 => some s3
theorem m79_w {toks : List Tk} {ip n : Nat} {R : Rec} (IH : IHs toks ip R) (b0 b1 : Nat) (k : Int) : FC Tryz.prog toks ip 68 [.optr b0 0, .optr b1 0] (m79 toks n R k) unitR (EnvL [(0, gO), (b0, .row [.optr ip 0]), (b1, .row [.int .i64 k])]) := by
 refine fc_of fun s0 s' F0 H0 hm p0 i0 => ?_
 obtain ⟨⟨k0a, n0a⟩, ⟨k0b, n0b⟩, ⟨k0c, n0c⟩, _⟩ := i0
 have b0a := getL k0a
 have b0b := getL k0b
 have b0c := getL k0c
 obtain ⟨st0, r0⟩ := p0.row
 have q0 := getL r0
 have hl := lim_le p0.len
 have f0 := Fr.refl F0 H0
 unfold m79 at hm
 refine aF (N := 10) Tryz.func68 rfl rfl (by simp) fun hb' => ?_
 repeat refine wS ?_
 refine wR ?_
 refine eT 2 (by simp only [kA, seval, y9, y84, y56, vint, qC, r0, q0, k0a, b0a, k0b, b0b, k0c, b0c] <;> with_reducible rfl) (by decide) ?_
 obtain ⟨s1, e1, hm⟩ := oB hm
 refine oC (by simp only [kC, seval, vint, qC, r0, q0, k0a, b0a, k0b, b0b, k0c, b0c] <;> with_reducible rfl) (by simp only [kC, seval]) (by decide) Tryzgo69 (by exact FN.ap0 (accept_c toks ip [[112, 117, 98]] (by decide)) e1 p0) ?_
 rintro _ H1 ⟨rfl, F1, p1, g1⟩
 have f1 : Fr F0 F1 H0 H1 := f0.trans g1
 obtain ⟨st1, r1⟩ := p1.row
 have q1 := getL r1
 obtain ⟨k1a, n1a⟩ := g1.get k0a n0a
 have b1a := getL k1a
 obtain ⟨k1b, n1b⟩ := g1.get k0b n0b
 have b1b := getL k1b
 obtain ⟨k1c, n1c⟩ := g1.get k0c n0c
 have b1c := getL k1c
 refine oN ?_
 repeat refine wS ?_
 refine wR ?_
 refine eT 1 (by simp only [kA, seval, y84, vint, qC, r1, q1, k1a, b1a, k1b, b1b, k1c, b1c] <;> with_reducible rfl) (by decide) ?_
 obtain ⟨s2, e2, hm⟩ := oB hm
 refine oC (by simp only [kC, seval, vint, qC, r1, q1, k1a, b1a, k1b, b1b, k1c, b1c] <;> with_reducible rfl) (by simp only [kC, seval]) (by decide) Tryzgo70 (by exact FN.ap0 (bump_c toks ip) e2 p1) ?_
 rintro _ H2 ⟨rfl, F2, p2, g2⟩
 have f2 : Fr F0 F2 H0 H2 := f1.trans g2
 obtain ⟨st2, r2⟩ := p2.row
 have q2 := getL r2
 obtain ⟨k2a, n2a⟩ := g2.get k1a n1a
 have b2a := getL k2a
 obtain ⟨k2b, n2b⟩ := g2.get k1b n1b
 have b2b := getL k2b
 obtain ⟨k2c, n2c⟩ := g2.get k1c n1c
 have b2c := getL k2c
 refine oN ?_
 repeat refine wS ?_
 refine wR ?_
 refine eT 2 (by simp only [kA, seval, y3, y84, vint, qC, r2, q2, k2a, b2a, k2b, b2b, k2c, b2c] <;> with_reducible rfl) (by decide) ?_
 obtain ⟨s3, e3, hm⟩ := oB hm
 refine oC (by simp only [kC, seval, vint, qC, r2, q2, k2a, b2a, k2b, b2b, k2c, b2c] <;> with_reducible rfl) (by simp only [kC, seval]) (by decide) Tryzgo71 (by exact FG.ap0 (IH (.itemBody (k))) e3 p2 ⟨k2a, n2a⟩) ?_
 rintro _ H3 ⟨rfl, F3, p3, g3⟩
 have f3 : Fr F0 F3 H0 H3 := f2.trans g3
 obtain ⟨st3, r3⟩ := p3.row
 have q3 := getL r3
 obtain ⟨k3a, n3a⟩ := g3.get k2a n2a
 have b3a := getL k3a
 obtain ⟨k3b, n3b⟩ := g3.get k2b n2b
 have b3b := getL k3b
 obtain ⟨k3c, n3c⟩ := g3.get k2c n2c
 have b3c := getL k3c
 refine oN ?_
 refine ⟨.inl rfl, _, rfl, ?_⟩
 injection hm with hm
 subst hm
 exact ⟨rfl, F3, p3, f3⟩
def m51 (toks : List Tk) (n : Nat) (R : Rec) (s0 : PS) : Option PS := if atT (peekT toks s0.pos) [[112, 117, 98]] = true then (lookM toks s0).bind fun sq1 => if (decide (itemKindI (peekT toks sq1.pos).text = 0) || !decide ((peekT toks sq1.pos).kind = 104)) = true then ((m77 toks n R) s0).bind fun s3 => some s3 else ((nodeM (itemKindI (peekT toks sq1.pos).text) (m79 toks n R (itemKindI (peekT toks sq1.pos).text))) s0).bind fun s3 => some s3 else if (decide (itemKindI (peekT toks s0.pos).text = 0) || !decide ((peekT toks s0.pos).kind = 104)) = true then ((m77 toks n R) s0).bind fun s1 => some s1 else ((nodeM (itemKindI (peekT toks s0.pos).text) (m79 toks n R (itemKindI (peekT toks s0.pos).text))) s0).bind fun s1 => some s1
theorem m51_w {toks : List Tk} {ip n : Nat} {R : Rec} (IH : IHs toks ip R) : FG toks ip 49 [.optr ip 0] (m51 toks n R ) (frv .item) := by
 intro s0 s' F0 H0 hm p0 i0
 obtain ⟨⟨hg, n0a⟩, _⟩ := i0
 obtain ⟨st0, r0⟩ := p0.row
 have q0 := getL r0
 have hl := lim_le p0.len
 have f0 := Fr.refl F0 H0
 have k0a := getL hg [.row [.optr ip 0]]
 have b0a := getL k0a
 have k0b : (H0 ++ [.row [.optr ip 0]])[H0.length]? = some (.row [.optr ip 0]) := by simp
 have n0b := p0.new0
 have b0b := getL k0b
 unfold m51 at hm
 refine aF (N := 28) Tryz.func49 rfl rfl (by simp) fun hb' => ?_
 repeat refine wS ?_
 refine eE (by simp only [kA, seval, y84, vint, qC, r0, q0, hg] <;> with_reducible rfl) (by decide) ?_
 repeat refine wS ?_
 refine wR ?_
 refine eT 1 (by simp only [kA, seval, y84, vint, qC, r0, q0, hg] <;> with_reducible rfl) (by decide) ?_
 refine oP (by simp only [kC, seval, vint, qC, r0, q0, hg] <;> with_reducible rfl) (by simp only [kC, seval]) (by decide) Tryzgo62 (peek_a (by exact q0 _) hl p0.pos) ?_
 refine e_end (by simp only [kA, seval, y103, vint, qC, r0, q0, hg] <;> with_reducible rfl) (by decide) ?_
 repeat refine wS ?_
 refine wR ?_
 refine eT 2 (by simp only [kA, seval, y9, y84, y56, vint, qC, r0, q0, hg] <;> with_reducible rfl) (by decide) ?_
 refine oP (by simp only [kC, seval, vint, qC, r0, q0, hg] <;> with_reducible rfl) (by simp only [kC, seval]) (by decide) Tryzgo63 (at_c (by exact q0 _) hl p0.pos [[112, 117, 98]] (by decide)) ?_
 refine oN ?_
 repeat refine wS ?_
 refine wC rfl (by simp only [jN, seval, vint, qC, r0, q0, hg] <;> with_reducible rfl) (fun bt8 => ?_) (fun bt8 => ?_)
 ·-- if t8
  rw [ifT bt8] at hm
  repeat refine wS ?_
  refine wR ?_
  refine eT 1 (by simp only [kA, seval, y84, vint, qC, r0, q0, hg] <;> with_reducible rfl) (by decide) ?_
  obtain ⟨sq1, e1, hm⟩ := oB hm
  refine oC (by simp only [kC, seval, vint, qC, r0, q0, hg] <;> with_reducible rfl) (by simp only [kC, seval]) (by decide) Tryzgo64 (look_c e1 p0 [.row [.optr ip 0], .row [.int .i64 (peekT toks s0.pos).kind, .str (peekT toks s0.pos).text]]) ?_
  rintro _ H1 ⟨iq1, Fq1, rfl, pq1, g1⟩
  obtain ⟨F1, nf, p1, f1⟩ := look_keep p0 f0 g1
  obtain ⟨st1, r1⟩ := p1.row
  have q1 := getL r1
  obtain ⟨k1a, n1a⟩ := look_get g1 (getL hg [.row [.optr ip 0], .row [.int .i64 (peekT toks s0.pos).kind, .str (peekT toks s0.pos).text]]) n0a nf
  obtain ⟨k1b, n1b⟩ := look_get g1 (show (H0 ++ [.row [.optr ip 0], .row [.int .i64 (peekT toks s0.pos).kind, .str (peekT toks s0.pos).text]])[H0.length]? = some (.row [.optr ip 0]) by simp) p0.new0 nf
  obtain ⟨k1c, n1c⟩ := look_get g1 (show (H0 ++ [.row [.optr ip 0], .row [.int .i64 (peekT toks s0.pos).kind, .str (peekT toks s0.pos).text]])[H0.length + 1]? = some (.row [.int .i64 (peekT toks s0.pos).kind, .str (peekT toks s0.pos).text]) by simp) (p0.new 1) nf
  obtain ⟨stq1, rq1⟩ := pq1.row
  have qq1 := getL rq1
  have nb12 : (H0.length + 1 = H1.length) = False := by have := lG k1c; simp; omega
  refine oP (by simp only [kC, seval, vint, qC, hg, r1, q1, k1a, k1b, k1c, nb12] <;> with_reducible rfl) (by simp only [kC, seval]) (by decide) Tryzgo62 (peek_a rq1 hl pq1.pos) ?_
  refine e_end (by simp only [kA, seval, y103, vint, qC, hg, r1, q1, k1a, k1b, k1c, nb12] <;> with_reducible rfl) (by decide) ?_
  repeat refine wS ?_
  refine awp_abs (fun H2 => ∃ F2, PSt toks ip s0 F2 H2 ∧ Fr F0 F2 H0 H2 ∧ (H2[0]? = some gO ∧ 0 ∉ F2) ∧ (H2[H0.length]? = some (.row [.optr ip 0]) ∧ H0.length ∉ F2) ∧ H2[H0.length + 1]? = some (.row [.int .i64 (peekT toks sq1.pos).kind, .str (peekT toks sq1.pos).text])) ?_ ?_
  ·have hb := lG k1c
   have hne : ∀ b, b ≠ H0.length + 1 → ∀ o, (H1.set (H0.length + 1) o)[b]? = H1[b]? := fun b hb o => List.getElem?_set_ne (Ne.symm hb)
   refine ⟨F1, p1.fr fun i hi => hne i (fun e => n1c (e ▸ hi)) _, ⟨by rw [lS]; exact f1.len, fun id h1 h2 => by rw [hne id (by omega)]; exact f1.same id h1 h2, f1.ids⟩, ⟨by rw [hne 0 (by omega)]; exact k1a, n1a⟩, ⟨by rw [hne _ (by omega)]; exact k1b, n1b⟩, by rw [List.getElem?_set_self hb]⟩
  rintro H2 ⟨F2, p2, f2, ⟨k2a, n2a⟩, ⟨k2b, n2b⟩, kt2⟩
  obtain ⟨st2, r2⟩ := p2.row
  have q2 := getL r2
  have b2a := getL k2a
  have b2b := getL k2b
  have qt2 := getL kt2
  refine wR ?_
  refine eT 2 (by simp only [kA, seval, y9, y103, vint, qC, hg, nb12, r2, q2, k2a, k2b, kt2, b2a, b2b, qt2] <;> with_reducible rfl) (by decide) ?_
  refine oP (by simp only [kC, seval, vint, qC, hg, nb12, r2, q2, k2a, k2b, kt2, b2a, b2b, qt2] <;> with_reducible rfl) (by simp only [kC, seval]) (by decide) Tryzgo65 (itemKind_c k2a (peekT toks sq1.pos).text) ?_
  refine e_end (by simp only [kA, seval, y3, vint, qC, hg, nb12, r2, q2, k2a, k2b, kt2, b2a, b2b, qt2] <;> with_reducible rfl) (by decide) ?_
  repeat refine wS ?_
  refine g_eval (by simp only [jG, jO, jN, seval, y3, y103, vint, qC, hg, nb12, r2, q2, k2a, k2b, kt2, b2a, b2b, qt2] <;> with_reducible rfl) (by decide) (by repeat (first | exact Fin.base _ | with_reducible apply Fin.keep | apply Fin.drop)) ?_
  repeat refine wS ?_
  refine wC rfl (by simp only [jN, seval, vint, qC, hg, r1, q1, k1a, k1b, k1c, nb12] <;> with_reducible rfl) (fun bt21 => ?_) (fun bt21 => ?_)
  ·-- if t21
   rw [ifT bt21] at hm
   refine wL [1] (by simp only [jN, seval, vint, qC, hg, r1, q1, k1a, k1b, k1c, nb12] <;> with_reducible rfl) ?_
   repeat refine wS ?_
   have k2a := getL k2a [.row [.int .i64 (itemKindI (peekT toks sq1.pos).text)]]
   have k2b := getL k2b [.row [.int .i64 (itemKindI (peekT toks sq1.pos).text)]]
   have k2c : (H2 ++ [.row [.int .i64 (itemKindI (peekT toks sq1.pos).text)]])[H2.length]? = some (.row [.int .i64 (itemKindI (peekT toks sq1.pos).text)]) := by simp
   have n2c := p2.new0
   have b2a := getL k2a
   have b2b := getL k2b
   have b2c := getL k2c
   refine wR ?_
   refine eT 1 (by simp only [kA, seval, y84, vint, qC, hg, nb12, r2, q2, k2a, k2b, kt2, b2a, b2b, qt2] <;> with_reducible rfl) (by decide) ?_
   obtain ⟨s3, e3, hm⟩ := oB hm
   refine oC (by simp only [kC, seval, vint, qC, hg, nb12, r2, q2, k2a, k2b, kt2, b2a, b2b, qt2] <;> with_reducible rfl) (by simp only [kC, seval]) (by decide) Tryzgo66 (by exact FG.ap' (m77_w (n := n) IH) e3 p2 ⟨k2a, n2a⟩) ?_
   rintro _ H3 ⟨rfl, F3, p3, g3⟩
   have f3 : Fr F0 F3 H0 H3 := f2.step g3
   obtain ⟨st3, r3⟩ := p3.row
   have q3 := getL r3
   obtain ⟨k3a, n3a⟩ := g3.get k2a n2a
   have b3a := getL k3a
   obtain ⟨k3b, n3b⟩ := g3.get k2b n2b
   have b3b := getL k3b
   obtain ⟨k3c, n3c⟩ := g3.get k2c n2c
   have b3c := getL k3c
   refine oN ?_
   repeat refine wS ?_
   refine wT ⟨.inr rfl, _, rfl, ?_⟩
   injection hm with hm
   subst hm
   exact ⟨rfl, F3, p3, f3⟩
  ·-- else t21
   rw [ifF bt21] at hm
   repeat refine wS ?_
   refine wK ?_
   refine wL [1, 3] (by simp only [jN, seval, vint, qC, hg, r1, q1, k1a, k1b, k1c, nb12] <;> with_reducible rfl) ?_
   repeat refine wS ?_
   have k2a := getL k2a [.row [.int .i64 (itemKindI (peekT toks sq1.pos).text)]]
   have k2b := getL k2b [.row [.int .i64 (itemKindI (peekT toks sq1.pos).text)]]
   have k2c : (H2 ++ [.row [.int .i64 (itemKindI (peekT toks sq1.pos).text)]])[H2.length]? = some (.row [.int .i64 (itemKindI (peekT toks sq1.pos).text)]) := by simp
   have n2c := p2.new0
   have b2a := getL k2a
   have b2b := getL k2b
   have b2c := getL k2c
   refine wR ?_
   refine eT 3 (by simp only [kA, seval, y3, y84, vint, qC, hg, nb12, r2, q2, k2a, k2b, kt2, b2a, b2b, qt2] <;> with_reducible rfl) (by decide) ?_
   obtain ⟨s3, e3, hm⟩ := oB hm
   refine oC (by simp only [kC, seval, vint, qC, hg, nb12, r2, q2, k2a, k2b, kt2, b2a, b2b, qt2] <;> with_reducible rfl) (by simp only [kC, seval]) (by decide) Tryzgo67 (by exact FC.ap (node_c toks ip (itemKindI (peekT toks sq1.pos).text) 68 [] [.optr (H0.length) 0, .optr (H2.length) 0] Tryzgo68 (stbL [(0, gO), (H0.length, .row [.optr ip 0]), (H2.length, .row [.int .i64 (itemKindI (peekT toks sq1.pos).text)])]) (m79_w (n := n) IH (H0.length) (H2.length) (itemKindI (peekT toks sq1.pos).text))) e3 p2 ⟨⟨k2a, n2a⟩, ⟨k2b, n2b⟩, ⟨k2c, n2c⟩, trivial⟩) ?_
   rintro _ H3 ⟨rfl, F3, p3, g3⟩
   have f3 : Fr F0 F3 H0 H3 := f2.step g3
   obtain ⟨st3, r3⟩ := p3.row
   have q3 := getL r3
   obtain ⟨k3a, n3a⟩ := g3.get k2a n2a
   have b3a := getL k3a
   obtain ⟨k3b, n3b⟩ := g3.get k2b n2b
   have b3b := getL k3b
   obtain ⟨k3c, n3c⟩ := g3.get k2c n2c
   have b3c := getL k3c
   refine oN ?_
   refine ⟨.inl rfl, _, rfl, ?_⟩
   injection hm with hm
   subst hm
   exact ⟨rfl, F3, p3, f3⟩
 ·-- else t8
  rw [ifF bt8] at hm
  repeat refine wS ?_
  refine wK ?_
  repeat refine wS ?_
  refine wR ?_
  refine eT 2 (by simp only [kA, seval, y9, y103, vint, qC, r0, q0, hg] <;> with_reducible rfl) (by decide) ?_
  refine oP (by simp only [kC, seval, vint, qC, r0, q0, hg] <;> with_reducible rfl) (by simp only [kC, seval]) (by decide) Tryzgo65 (itemKind_c (getL hg _) (peekT toks s0.pos).text) ?_
  refine e_end (by simp only [kA, seval, y3, vint, qC, r0, q0, hg] <;> with_reducible rfl) (by decide) ?_
  repeat refine wS ?_
  have k0c : (H0 ++ [.row [.optr ip 0], .row [.int .i64 (peekT toks s0.pos).kind, .str (peekT toks s0.pos).text], .row [.int .i64 (itemKindI (peekT toks s0.pos).text)]])[H0.length + 2]? = some (.row [.int .i64 (itemKindI (peekT toks s0.pos).text)]) := by simp
  have n0c := p0.new 2
  have b0c := getL k0c
  have k0b : (H0 ++ [.row [.optr ip 0], .row [.int .i64 (peekT toks s0.pos).kind, .str (peekT toks s0.pos).text], .row [.int .i64 (itemKindI (peekT toks s0.pos).text)]])[H0.length]? = some (.row [.optr ip 0]) := by simp
  have b0b := getL k0b
  have k0a := getL hg [.row [.optr ip 0], .row [.int .i64 (peekT toks s0.pos).kind, .str (peekT toks s0.pos).text], .row [.int .i64 (itemKindI (peekT toks s0.pos).text)]]
  have b0a := getL k0a
  refine g_eval (by simp only [jG, jO, jN, seval, y3, y103, vint, qC, r0, q0, hg] <;> with_reducible rfl) (by decide) (by repeat (first | exact Fin.base _ | with_reducible apply Fin.keep | apply Fin.drop)) ?_
  repeat refine wS ?_
  refine wC rfl (by simp only [jN, seval, vint, qC, r0, q0, hg] <;> with_reducible rfl) (fun bt21 => ?_) (fun bt21 => ?_)
  ·-- if t21
   rw [ifT bt21] at hm
   refine wL [1] (by simp only [jN, seval, vint, qC, r0, q0, hg] <;> with_reducible rfl) ?_
   repeat refine wS ?_
   refine wR ?_
   refine eT 1 (by simp only [kA, seval, y84, vint, qC, r0, q0, hg] <;> with_reducible rfl) (by decide) ?_
   obtain ⟨s1, e1, hm⟩ := oB hm
   refine oC (by simp only [kC, seval, vint, qC, r0, q0, hg] <;> with_reducible rfl) (by simp only [kC, seval]) (by decide) Tryzgo66 (by exact FG.ap' (m77_w (n := n) IH) e1 p0 ⟨k0a, n0a⟩) ?_
   rintro _ H1 ⟨rfl, F1, p1, g1⟩
   have f1 : Fr F0 F1 H0 H1 := f0.step g1
   obtain ⟨st1, r1⟩ := p1.row
   have q1 := getL r1
   obtain ⟨k1a, n1a⟩ := g1.get k0a n0a
   have b1a := getL k1a
   obtain ⟨k1b, n1b⟩ := g1.get k0b n0b
   have b1b := getL k1b
   obtain ⟨k1c, n1c⟩ := g1.get k0c n0c
   have b1c := getL k1c
   refine oN ?_
   repeat refine wS ?_
   refine wT ⟨.inr rfl, _, rfl, ?_⟩
   injection hm with hm
   subst hm
   exact ⟨rfl, F1, p1, f1⟩
  ·-- else t21
   rw [ifF bt21] at hm
   repeat refine wS ?_
   refine wK ?_
   refine wL [1, 3] (by simp only [jN, seval, vint, qC, r0, q0, hg] <;> with_reducible rfl) ?_
   repeat refine wS ?_
   refine wR ?_
   refine eT 3 (by simp only [kA, seval, y3, y84, vint, qC, r0, q0, hg] <;> with_reducible rfl) (by decide) ?_
   obtain ⟨s1, e1, hm⟩ := oB hm
   refine oC (by simp only [kC, seval, vint, qC, r0, q0, hg] <;> with_reducible rfl) (by simp only [kC, seval]) (by decide) Tryzgo67 (by exact FC.ap (node_c toks ip (itemKindI (peekT toks s0.pos).text) 68 [] [.optr (H0.length) 0, .optr (H0.length + 2) 0] Tryzgo68 (stbL [(0, gO), (H0.length, .row [.optr ip 0]), (H0.length + 2, .row [.int .i64 (itemKindI (peekT toks s0.pos).text)])]) (m79_w (n := n) IH (H0.length) (H0.length + 2) (itemKindI (peekT toks s0.pos).text))) e1 p0 ⟨⟨k0a, n0a⟩, ⟨k0b, n0b⟩, ⟨k0c, n0c⟩, trivial⟩) ?_
   rintro _ H1 ⟨rfl, F1, p1, g1⟩
   have f1 : Fr F0 F1 H0 H1 := f0.step g1
   obtain ⟨st1, r1⟩ := p1.row
   have q1 := getL r1
   obtain ⟨k1a, n1a⟩ := g1.get k0a n0a
   have b1a := getL k1a
   obtain ⟨k1b, n1b⟩ := g1.get k0b n0b
   have b1b := getL k1b
   obtain ⟨k1c, n1c⟩ := g1.get k0c n0c
   have b1c := getL k1c
   refine oN ?_
   refine ⟨.inl rfl, _, rfl, ?_⟩
   injection hm with hm
   subst hm
   exact ⟨rfl, F1, p1, f1⟩
end Go.Abs
namespace Go.Abs
def stepR (toks : List Tk) (n : Nat) (R : Rec) : Rec
  | .block => m121 toks n R | .statement => m147 toks n R | .letS => m168 toks n R | .returnStmt => m170 toks n R | .expr => m107 toks n R | .binary l => m135 toks n R l | .unary => m154 toks n R | .arguments => m184 toks n R
  | .postfx => m177 toks n R | .primary => m171 toks n R | .ifExpr => m186 toks n R | .matchE => m187 toks n R | .structLit => m188 toks n R | .lambda => m189 toks n R | .pattern => m182 toks n R | .path b => m133 toks n R b
  | .typeExpr => m106 toks n R | .typeParams => m118 toks n R | .params c => m108 toks n R c | .function b => m100 toks n R b | .itemBody k => m82 toks n R k | .item => m51 toks n R
def recN (toks : List Tk) (n : Nat) : Nat → Rec
  | 0 => fun _ _ => none
  | k + 1 => stepR toks n (recN toks n k)
theorem ihs (toks : List Tk) (ip n : Nat) : ∀ k, IHs toks ip (recN toks n k)
  | 0 => fun fn => FG.none fun _ => rfl
  | k + 1 => fun fn => match fn with
    | .block => m121_w (n := n) (ihs toks ip n k) | .statement => m147_w (n := n) (ihs toks ip n k) | .letS => m168_w (n := n) (ihs toks ip n k) | .returnStmt => m170_w (n := n) (ihs toks ip n k) | .expr => m107_w (n := n) (ihs toks ip n k)
    | .binary l => m135_w (n := n) (ihs toks ip n k) l | .unary => m154_w (n := n) (ihs toks ip n k) | .arguments => m184_w (n := n) (ihs toks ip n k) | .postfx => m177_w (n := n) (ihs toks ip n k) | .primary => m171_w (n := n) (ihs toks ip n k)
    | .ifExpr => m186_w (n := n) (ihs toks ip n k) | .matchE => m187_w (n := n) (ihs toks ip n k) | .structLit => m188_w (n := n) (ihs toks ip n k) | .lambda => m189_w (n := n) (ihs toks ip n k) | .pattern => m182_w (n := n) (ihs toks ip n k) | .path b => m133_w (n := n) (ihs toks ip n k) b
    | .typeExpr => m106_w (n := n) (ihs toks ip n k) | .typeParams => m118_w (n := n) (ihs toks ip n k) | .params c => m108_w (n := n) (ihs toks ip n k) c | .function b => m100_w (n := n) (ihs toks ip n k) b | .itemBody j => m82_w (n := n) (ihs toks ip n k) j | .item => m51_w (n := n) (ihs toks ip n k)
end Go.Abs
namespace Go.Abs
def isSpB (c : UInt8) : Bool := c == 32 || c == 9 || c == 10 || c == 13
def isLetB (c : UInt8) : Bool := (decide (97 ≤ c) && decide (c ≤ 122)) || (decide (65 ≤ c) && decide (c ≤ 90)) || c == 95
def isDigB (c : UInt8) : Bool := decide (48 ≤ c) && decide (c ≤ 57)
def notNl (c : UInt8) : Bool := !(c == 10)
def wordB (c : UInt8) : Bool := isLetB c || isDigB c
def runL (p : UInt8 → Bool) : List UInt8 → Nat
  | [] => 0
  | c :: r => if p c then runL p r + 1 else 0
theorem runL_le (p : UInt8 → Bool) : ∀ s, runL p s ≤ s.length
  | [] => Nat.le_refl _
  | c :: r => by have := runL_le p r; simp only [runL, List.length_cons]; split <;> omega
theorem runL_pos {p : UInt8 → Bool} {c : UInt8} {r : List UInt8} : 0 < runL p (c :: r) ↔ p c = true := by
  simp only [runL]; split <;> simp_all
theorem runL_drop {p : UInt8 → Bool} {s : List UInt8} {i : Nat} (h : i < s.length) : runL p (s.drop i) = if p s[i] then runL p (s.drop (i + 1)) + 1 else 0 := by
  rw [List.drop_eq_getElem_cons h, runL]
def litG : Bool → List UInt8 → Option Nat
  | _, [] => none
  | e, c :: r => if c = 10 then none else if c = 34 ∧ e = false then some 1 else (litG (decide (c = 92) && !e) r).map (· + 1)
def litO : List UInt8 → Option Nat
  | [] => none
  | [c] => if c = 34 then some 1 else none
  | c :: d :: r => if c = 10 then none else if c = 34 then some 1 else if c = 92 ∧ d ≠ 10 then (litO r).map (· + 2) else (litO (d :: r)).map (· + 1)
theorem litO_eq : ∀ s, litO s = litG false s
  | [] => rfl
  | [c] => by
    simp only [litO, litG]
    by_cases h1 : c = 34
    · subst h1; simp
    · by_cases h2 : c = 10 <;> simp [h1, h2]
  | c :: d :: r => by
    have i1 := litO_eq r
    have i2 := litO_eq (d :: r)
    simp only [litO]
    rw [litG]
    by_cases h1 : c = 10
    · simp [h1]
    · rw [if_neg h1, if_neg h1]
      by_cases h2 : c = 34
      · simp [h2]
      · have e2 : (c = 34 ∧ (false : Bool) = false) = False := by simp [h2]
        simp only [h2, if_false, e2]
        by_cases h3 : c = 92
        · by_cases h4 : d = 10
          · have e3 : (c = 92 ∧ d ≠ 10) = False := by simp [h4]
            simp only [e3, if_false]
            rw [i2]
            simp [litG, h3, h4]
          · have e3 : (c = 92 ∧ d ≠ 10) = True := by simp [h3, h4]
            simp only [e3, if_true]
            rw [i1]
            simp [litG, h3, h4, Option.map_map, Function.comp_def]
        · have e3 : (c = 92 ∧ d ≠ 10) = False := by simp [h3]
          simp only [e3, if_false]
          rw [i2]
          simp [h3]
theorem litG_le : ∀ (s : List UInt8) (e : Bool) (k : Nat), litG e s = some k → 1 ≤ k ∧ k ≤ s.length
  | [], e, k, h => by cases h
  | c :: r, e, k, h => by
    rw [litG] at h
    split at h
    · cases h
    · split at h
      · cases h; simp
      · cases hq : litG (decide (c = 92) && !e) r with
        | none => rw [hq] at h; cases h
        | some m =>
          rw [hq] at h
          simp only [Option.map_some, Option.some.injEq] at h
          have := litG_le r _ m hq
          simp only [List.length_cons]; omega
def bytesOf (s : String) : List UInt8 := s.toUTF8.data.toList
def kwL : List (List UInt8) := [[117, 115, 101], [112, 117, 98], [97, 115], [102, 110], [115, 116, 114, 117, 99, 116], [101, 110, 117, 109], [116, 114, 97, 105, 116], [105, 109, 112, 108], [102, 111, 114], [99, 111, 110, 115, 116], [109, 97, 99, 114, 111], [108, 101, 116], [109, 117, 116], [119, 104, 105, 108, 101], [114, 101, 116, 117, 114, 110], [109, 97, 116, 99, 104], [105, 102], [101, 108, 115, 101], [110, 101, 119], [116, 114, 117, 101], [102, 97, 108, 115, 101], [116, 121, 112, 101]]
def twoL : List (List UInt8) := ["::", "=>", "->", "==", "&&", "||"].map bytesOf
def oneL : List UInt8 := [40, 41, 123, 125, 91, 93, 60, 62, 44, 59, 58, 46, 61, 43, 45, 42, 47, 33, 38, 124]
def firstT (s : List UInt8) : Nat × Int :=
  match s with
  | [] => (0, 0)
  | c :: r =>
    if isSpB c then (runL isSpB s, 101)
    else if s.take 2 = [47, 47] then (runL notNl s, 102)
    else if isLetB c then (if kwL.contains (s.take (runL wordB s)) then (runL wordB s, 104) else (runL wordB s, 103))
    else if isDigB c then (runL isDigB s, 105)
    else if c = 34 then (match litG false r with | some k => (k + 1, 106) | none => (runL notNl s, 108))
    else if s.length > 1 ∧ twoL.contains (s.take 2) = true then (2, 107)
    else if oneL.contains c then (1, 107)
    else (1, 108)
theorem firstT_bd {s : List UInt8} (h : s ≠ []) : 1 ≤ (firstT s).1 ∧ (firstT s).1 ≤ s.length := by
  cases s with
  | nil => exact absurd rfl h
  | cons c r =>
    have key : ∀ p : UInt8 → Bool, p c = true → 1 ≤ runL p (c :: r) ∧ runL p (c :: r) ≤ (c :: r).length := fun p hp => ⟨runL_pos.2 hp, runL_le _ _⟩
    unfold firstT
    simp only
    split
    · exact key _ ‹_›
    · split
      · rename_i h2
        refine key _ ?_
        have : c = 47 := by simpa using (List.cons.inj h2).1
        subst this; rfl
      · split
        · rename_i h3
          have := key wordB (by unfold wordB; rw [h3]; rfl)
          split <;> exact this
        · split
          · exact key _ ‹_›
          · split
            · rename_i h5
              split
              · rename_i k hk
                have := litG_le _ _ _ hk
                simp only [List.length_cons]; omega
              · refine key _ ?_
                subst h5; rfl
            · split
              · rename_i h6; simp only [List.length_cons] at h6 ⊢; omega
              · split <;> simp
def tokL : Nat → List UInt8 → List Tk
  | 0, _ => []
  | n + 1, s => if s = [] then [] else ⟨(firstT s).2, s.take (firstT s).1⟩ :: tokL n (s.drop (firstT s).1)
end Go.Abs
namespace Go.Abs
open Go.Proofs
theorem u8_nat (n : Nat) (h : n < 256) : (UInt8.ofNat n).toNat = n := by rw [UInt8.toNat_ofNat']; exact Nat.mod_eq_of_lt h
theorem u8_ge (c : UInt8) (n : Nat) (h : n < 256) : decide ((c.toNat : Int) ≥ n) = decide (UInt8.ofNat n ≤ c) := by
 rw [decide_eq_decide, UInt8.le_iff_toNat_le, u8_nat n h]; omega
theorem u8_le (c : UInt8) (n : Nat) (h : n < 256) : decide ((c.toNat : Int) ≤ n) = decide (c ≤ UInt8.ofNat n) := by
 rw [decide_eq_decide, UInt8.le_iff_toNat_le, u8_nat n h]; omega
theorem u8_eq (c : UInt8) (n : Nat) (h : n < 256) : decide ((c.toNat : Int) = n) = (c == UInt8.ofNat n) := by
 have e : (c == UInt8.ofNat n) = decide (c = UInt8.ofNat n) := by rw [Bool.eq_iff_iff]; simp
 rw [e, decide_eq_decide, ← UInt8.toNat_inj, u8_nat n h]; omega
theorem isLetter_c (c : UInt8) : PC Tryz.prog 26 [.int .u8 c.toNat] (.bool (isLetB c)) := by
 have g97 : decide ((c.toNat : Int) ≥ 97) = decide ((97 : UInt8) ≤ c) := u8_ge c 97 (by decide)
 have l122 : decide ((c.toNat : Int) ≤ 122) = decide (c ≤ (122 : UInt8)) := u8_le c 122 (by decide)
 have g65 : decide ((c.toNat : Int) ≥ 65) = decide ((65 : UInt8) ≤ c) := u8_ge c 65 (by decide)
 have l90 : decide ((c.toNat : Int) ≤ 90) = decide (c ≤ (90 : UInt8)) := u8_le c 90 (by decide)
 have e95 : decide ((c.toNat : Int) = 95) = (c == 95) := u8_eq c 95 (by decide)
 have g48 : decide ((c.toNat : Int) ≥ 48) = decide ((48 : UInt8) ≤ c) := u8_ge c 48 (by decide)
 have l57 : decide ((c.toNat : Int) ≤ 57) = decide (c ≤ (57 : UInt8)) := u8_le c 57 (by decide)
 refine pc_of (N := 21) Tryz.func26 rfl rfl (by simp) (by simp [Bel.int, Bel.str]) (.bool _) ?_
 repeat refine wS ?_
 refine eE (by simp only [kA, seval, vint, qC] <;> with_reducible rfl) (by decide) ?_
 repeat refine wS ?_
 refine g_eval (by simp only [jG, jO, jN, seval, y5, vint, qC] <;> with_reducible rfl) (by decide) (by repeat (first | exact Fin.base _ | with_reducible apply Fin.keep | apply Fin.drop)) ?_
 repeat refine wS ?_
 refine wT ⟨.inr rfl, _, rfl, ?_⟩
 simp only [jN, seval, vint, qC, g97, l122, g65, l90, e95, g48, l57]
 try rfl
theorem isDigit_c (c : UInt8) : PC Tryz.prog 28 [.int .u8 c.toNat] (.bool (isDigB c)) := by
 have g97 : decide ((c.toNat : Int) ≥ 97) = decide ((97 : UInt8) ≤ c) := u8_ge c 97 (by decide)
 have l122 : decide ((c.toNat : Int) ≤ 122) = decide (c ≤ (122 : UInt8)) := u8_le c 122 (by decide)
 have g65 : decide ((c.toNat : Int) ≥ 65) = decide ((65 : UInt8) ≤ c) := u8_ge c 65 (by decide)
 have l90 : decide ((c.toNat : Int) ≤ 90) = decide (c ≤ (90 : UInt8)) := u8_le c 90 (by decide)
 have e95 : decide ((c.toNat : Int) = 95) = (c == 95) := u8_eq c 95 (by decide)
 have g48 : decide ((c.toNat : Int) ≥ 48) = decide ((48 : UInt8) ≤ c) := u8_ge c 48 (by decide)
 have l57 : decide ((c.toNat : Int) ≤ 57) = decide (c ≤ (57 : UInt8)) := u8_le c 57 (by decide)
 refine pc_of (N := 9) Tryz.func28 rfl rfl (by simp) (by simp [Bel.int, Bel.str]) (.bool _) ?_
 repeat refine wS ?_
 refine eE (by simp only [kA, seval, vint, qC] <;> with_reducible rfl) (by decide) ?_
 repeat refine wS ?_
 refine g_eval (by simp only [jG, jO, jN, seval, y5, vint, qC] <;> with_reducible rfl) (by decide) (by repeat (first | exact Fin.base _ | with_reducible apply Fin.keep | apply Fin.drop)) ?_
 repeat refine wS ?_
 refine wT ⟨.inr rfl, _, rfl, ?_⟩
 simp only [jN, seval, vint, qC, g97, l122, g65, l90, e95, g48, l57]
 try rfl
end Go.Abs
namespace Go.Abs
open Go.Proofs
end Go.Abs
namespace Go.Abs
open Go.Proofs
theorem scan_c (s : List UInt8) (hs : s.length ≤ maxLen) (p : UInt8 → Bool) (f : FuncId) (hgo : goFn Tryz.prog f = true) (hp : ∀ c : UInt8, PC Tryz.prog f [.int .u8 c.toNat] (.bool (p c))) (st : Nat) (hst : st ≤ s.length) : PC Tryz.prog 23 [.str s, vint (st : Int), .fn (.func f) [] []] (vint ((st + runL p (s.drop st) : Nat) : Int)) := by
 have em : maxLen = 9223372036854775807 := by decide
 refine pc_of (N := 21) Tryz.func23 rfl rfl (by simp) (by simp [Bel.int, Bel.str, bel_fn0]) (.int _ _) ?_
 repeat refine wS ?_
 refine eE (by simp only [kA, seval, vint, qC] <;> with_reducible rfl) (by decide) ?_
 repeat refine wS ?_
 refine awp_block ?_
 refine awp_loopS (σ := Nat) (fun (i : Nat) => [(0, .str s), (1, vint (i : Int)), (2, .fn (.func f) [] [])]) ([]) (fun (i : Nat) => []) (fun (i : Nat) => s.length - i) (fun (i : Nat) => i ≤ s.length ∧ st + runL p (s.drop st) = i + runL p (s.drop i)) (st) ([]) ⟨(by first | rfl | (simp only [jN, seval, vint, qC] <;> first | done | with_reducible rfl)), (by first | rfl | (simp only [jN, seval, vint, qC] <;> first | done | with_reducible rfl)), (by first | rfl | (simp only [jN, seval, vint, qC] <;> first | done | with_reducible rfl)), trivial⟩ (by first | rfl | (simp only [jN, seval, vint, qC] <;> first | done | with_reducible rfl)) (⟨by omega, rfl⟩) (fun _ _ => by first | exact Nat.zero_le _ | (simp only [List.length_append]; omega)) ?_ ?_
 ·exact fun i hg => ⟨by simp only [List.nil_append]; exact hbel_nil _, by repeat (first | exact BelL.nil | refine BelL.cons (by first | exact Tk.bel _ _ | exact bel_nil0 _ | exact bel_nil1 _ | exact Bel.int _ _ | exact Bel.bool _ | exact Bel.str _ | exact Bel.nilp | exact Bel.nilfn | exact Bel.optr _ _ (by simp) | exact bel_nil0 _ | exact bel_nil1 _ | exact bel_fn0 _ _ | assumption) ?_)⟩
 ·intro i hg
  have hcs : i < s.length ∨ i = s.length := by omega
  rcases hcs with hi | hi
  ·-- case
   have g1 := ix_nat hi
   obtain ⟨c, hc⟩ : ∃ c, s[i] = c := ⟨_, rfl⟩
   have g2 : s[i]? = some c := by rw [List.getElem?_eq_getElem hi, hc]
   have w1 : IntKind.i64.wrap ((i : Int) + 1) = ((i + 1 : Nat) : Int) := by rw [wrap_id (by omega) (by omega)]; omega
   have f1 : ((i : Int) < s.length) = True := by simp; omega
   have f0 : ((0 : Int) ≤ (i : Int)) = True := by simp
   have hd := runL_drop (p := p) hi
   rw [hc] at hd
   repeat refine wS ?_
   refine wR ?_
   refine aops_gstart ?_
   refine g_take 9 (by simp only [jG, jO, jN, seval, y3, y9, vint, qC, f1, f0, g1, g2, w1, decide_true, tN] <;> with_reducible rfl) (by decide) ?_
   refine aops_gpure (by simp only [kE, seval, vint, qC, f1, f0, g1, g2, w1, decide_true, tN] <;> with_reducible rfl) (by simp only [kE, seval, vint, qC, f1, f0, g1, g2, w1, decide_true, tN] <;> with_reducible rfl) (by simp only [kE, seval, vint, qC, f1, f0, g1, g2, w1, decide_true, tN]) (by decide) (by assumption) (fun hc => hp c _) ?_
   refine g_end (by simp only [jG, jO, jN, seval, vint, qC, f1, f0, g1, g2, w1, decide_true, tN] <;> with_reducible rfl) (by decide) (by repeat (first | exact Fin.base _ | with_reducible apply Fin.keep | apply Fin.drop)) ?_
   repeat refine wS ?_
   refine wC rfl (by simp only [jN, seval, vint, qC, f1, f0, g1, g2, w1, decide_true, tN] <;> with_reducible rfl) (fun bt17 => ?_) (fun bt17 => ?_)
   ·-- if t17
    have hv1 : st + runL p (s.drop st) = (i + 1) + runL p (s.drop (i + 1)) := by rw [hg.2, hd, if_pos bt17]; omega
    repeat refine wS ?_
    refine wK ?_
    repeat refine wS ?_
    refine awp_block ?_
    repeat refine wS ?_
    refine eE (by simp only [kA, seval, y3, vint, qC, f1, f0, g1, g2, w1, decide_true, tN] <;> with_reducible rfl) (by decide) ?_
    try simp only [thenQ, blockQ]
    exact ⟨i + 1, _, by show s.length - (i + 1) < s.length - i; omega, ⟨rfl, rfl, rfl, trivial⟩, by simp only [jN, seval, vint, qC] <;> rfl, by omega, hv1⟩
   ·-- else t17
    have hv : st + runL p (s.drop st) = i := by rw [hg.2, hd, bt17]; simp
    repeat refine wS ?_
    refine awp_exit ?_
    simp only [thenQ, blockQ, reduceIte, Nat.reduceEqDiff, Nat.succ_ne_self, if_true, if_false]
    repeat refine wS ?_
    refine eE (by simp only [kA, seval, vint, qC, f1, f0, g1, g2, w1, decide_true, tN] <;> with_reducible rfl) (by decide) ?_
    repeat refine wS ?_
    refine wT ⟨.inr rfl, _, rfl, ?_⟩
    simp only [jN, seval, vint, qC, hv]
    try rfl
  ·-- case
   have f1 : ((i : Int) < s.length) = False := by simp; omega
   have hv : st + runL p (s.drop st) = i := by rw [hg.2, hi, List.drop_length]; simp [runL]
   repeat refine wS ?_
   refine wR ?_
   refine aops_gstart ?_
   refine g_take 8 (by simp only [jG, jO, jN, seval, y3, y9, vint, qC, f1, decide_false] <;> with_reducible rfl) (by decide) ?_
   refine aops_gskip (r := .tup []) (by simp only [kE, seval, vint, qC, f1, decide_false] <;> with_reducible rfl) ?_
   refine aops_gskip (r := .tup []) (by simp only [kE, seval, vint, qC, f1, decide_false] <;> with_reducible rfl) ?_
   refine g_end (by simp only [jG, jO, jN, seval, vint, qC, f1, decide_false] <;> with_reducible rfl) (by decide) (by repeat (first | exact Fin.base _ | with_reducible apply Fin.keep | apply Fin.drop)) ?_
   repeat refine wS ?_
   refine wF rfl (by simp only [jN, seval, vint, qC, f1, decide_false] <;> with_reducible rfl) ?_
   repeat refine wS ?_
   refine awp_exit ?_
   simp only [thenQ, blockQ, reduceIte, Nat.reduceEqDiff, Nat.succ_ne_self, if_true, if_false]
   repeat refine wS ?_
   refine eE (by simp only [kA, seval, vint, qC, f1, decide_false] <;> with_reducible rfl) (by decide) ?_
   repeat refine wS ?_
   refine wT ⟨.inr rfl, _, rfl, ?_⟩
   simp only [jN, seval, vint, qC, hv]
   try rfl
end Go.Abs
namespace Go.Abs
open Go.Proofs
theorem any_contains (us : List (List UInt8)) (v : List UInt8) : (us.any fun x => decide (v = x)) = us.contains v := by
 induction us with
 | nil => rfl
 | cons a l ih => rw [List.any_cons, List.contains_cons, ih, show decide (v = a) = (v == a) from by rw [Bool.eq_iff_iff]; simp]
theorem first1 (c : UInt8) : PC Tryz.prog 25 [.int .u8 c.toNat] (.bool (notNl c)) := by
 have e10 : decide ((c.toNat : Int) = 10) = (c == 10) := u8_eq c 10 (by decide)
 refine pc_of (N := 5) Tryz.func25 rfl rfl (by simp) (by simp [Bel.int, Bel.str]) (.bool _) ?_
 repeat refine wS ?_
 refine eE (by simp only [kA, seval, vint, qC] <;> with_reducible rfl) (by decide) ?_
 repeat refine wS ?_
 refine eE (by simp only [kA, seval, y5, vint, qC] <;> with_reducible rfl) (by decide) ?_
 repeat refine wS ?_
 refine wT ⟨.inr rfl, _, rfl, ?_⟩
 simp only [jN, seval, vint, qC, e10]
 try rfl
theorem scan1 (c : UInt8) : PC Tryz.prog 45 [.int .u8 c.toNat] (.bool (notNl c)) := by
 have e10 : decide ((c.toNat : Int) = 10) = (c == 10) := u8_eq c 10 (by decide)
 refine pc_of (N := 5) Tryz.func45 rfl rfl (by simp) (by simp [Bel.int, Bel.str]) (.bool _) ?_
 repeat refine wS ?_
 refine eE (by simp only [kA, seval, vint, qC] <;> with_reducible rfl) (by decide) ?_
 repeat refine wS ?_
 refine eE (by simp only [kA, seval, y5, vint, qC] <;> with_reducible rfl) (by decide) ?_
 repeat refine wS ?_
 refine wT ⟨.inr rfl, _, rfl, ?_⟩
 simp only [jN, seval, vint, qC, e10]
 try rfl
theorem first2 (c : UInt8) : PC Tryz.prog 27 [.int .u8 c.toNat] (.bool (wordB c)) := by
 refine pc_of (N := 9) Tryz.func27 rfl rfl (by simp) (by simp [Bel.int, Bel.str]) (.bool _) ?_
 repeat refine wS ?_
 refine eE (by simp only [kA, seval, vint, qC] <;> with_reducible rfl) (by decide) ?_
 repeat refine wS ?_
 refine wR ?_
 refine aops_gstart ?_
 refine g_take 1 (by simp only [jG, jO, jN, seval, vint, qC] <;> with_reducible rfl) (by decide) ?_
 refine aops_gpure (by simp only [kE, seval, vint, qC] <;> with_reducible rfl) (by simp only [kE, seval, vint, qC] <;> with_reducible rfl) (by simp only [kE, seval, vint, qC]) (by decide) Tryzgo26 (fun hc => isLetter_c c _) ?_
 refine g_take 2 (by simp only [jG, jO, jN, seval, vint, qC] <;> with_reducible rfl) (by decide) ?_
 refine aops_gpure (by simp only [kE, seval, vint, qC] <;> with_reducible rfl) (by simp only [kE, seval, vint, qC] <;> with_reducible rfl) (by simp only [kE, seval, vint, qC]) (by decide) Tryzgo28 (fun hc => isDigit_c c _) ?_
 refine g_end (by simp only [jG, jO, jN, seval, vint, qC] <;> with_reducible rfl) (by decide) (by repeat (first | exact Fin.base _ | with_reducible apply Fin.keep | apply Fin.drop)) ?_
 repeat refine wS ?_
 refine wT ⟨.inr rfl, _, rfl, ?_⟩
 simp only [jN, seval, vint, qC]
 try rfl
theorem idxStr (us : List (List UInt8)) (v : List UInt8) (hx : us.length ≤ maxLen) : PC Tryz.prog 43 [.slice (us.map PV.str) .none, .str v] (vint (idxI (fun x => decide (v = x)) us)) := by
 refine pc_of (N := 19) Tryz.func43 rfl rfl (by simp) (by simp [Bel.int, Bel.str, bel_strs0]) (.int _ _) ?_
 repeat refine wS ?_
 refine eE (by simp only [kA, seval, vint, qC] <;> with_reducible rfl) (by decide) ?_
 repeat refine wS ?_
 refine eE (by simp only [kA, seval, y9, y56, vint, qC] <;> with_reducible rfl) (by decide) ?_
 repeat refine wS ?_
 refine awp_forS (σ := Unit) (us.length) (fun (s : Unit) => [(0, .slice (us.map PV.str) .none), (1, .str v)]) [0, 1] ([]) (fun (s : Unit) => []) (fun (i : Nat) (s : Unit) => (us.take i).any (fun x => decide (v = x)) = false) (()) ([]) rfl rfl rfl rfl rfl rfl rfl rfl rfl (by decide) (by decide) (by decide) (fun _ => rfl) (hx) ⟨(by first | rfl | (simp only [jN, seval, vint, qC] <;> first | done | with_reducible rfl)), (by first | rfl | (simp only [jN, seval, vint, qC] <;> first | done | with_reducible rfl)), (by first | rfl | (simp only [jN, seval, vint, qC] <;> first | done | with_reducible rfl)), (by first | rfl | (simp only [jN, seval, vint, qC] <;> first | done | with_reducible rfl)), trivial⟩ (by first | rfl | (simp only [jN, seval, vint, qC] <;> first | done | with_reducible rfl)) (by simp) (fun _ _ _ => by first | exact Nat.zero_le _ | (simp only [List.length_append]; omega)) ?_ ?_ ?_
 ·exact fun i s hg => ⟨by first | exact hbel_nil _ | (simp only [List.append_nil]; assumption) | (refine hbel_app' hb' (by simp) ?_; repeat (first | exact hbel_nil _ | exact trivial | exact obel_row_nil _ | (refine HBel.cons ?_ ?_) | (refine obel_row_cons (by first | exact bel_strs0 _ _ | exact Tk.bel _ _ | exact bel_nil0 _ | exact bel_nil1 _ | exact Bel.int _ _ | exact Bel.bool _ | exact Bel.str _ | exact Bel.nilp | exact Bel.nilfn | exact Bel.optr _ _ (by simp) | exact bel_nil0 _ | exact bel_nil1 _ | exact bel_fn0 _ _ | assumption) ?_))), by repeat (first | exact BelL.nil | refine BelL.cons (by first | exact bel_strs0 _ _ | exact Tk.bel _ _ | exact bel_nil0 _ | exact bel_nil1 _ | exact Bel.int _ _ | exact Bel.bool _ | exact Bel.str _ | exact Bel.nilp | exact Bel.nilfn | exact Bel.optr _ _ (by simp) | exact bel_nil0 _ | exact bel_nil1 _ | exact bel_fn0 _ _ | assumption) ?_)⟩
 ·intro i s hi hg
  have g1 := ix_nat hi
  have g2 := get_enc PV.str hi
  repeat refine wS ?_
  refine eE (by simp only [kA, seval, vint, qC, g1, tN, g2] <;> with_reducible rfl) (by decide) ?_
  repeat refine wS ?_
  refine eE (by simp only [kA, seval, y9, y56, vint, qC, g1, tN, g2] <;> with_reducible rfl) (by decide) ?_
  repeat refine wS ?_
  refine wC rfl (by simp only [jN, seval, vint, qC, g1, tN, g2] <;> with_reducible rfl) (fun b0 => ?_) (fun b0 => ?_)
  ·-- if t16
   repeat refine wS ?_
   refine eE (by simp only [kA, seval, vint, qC, g1, tN, g2] <;> with_reducible rfl) (by decide) ?_
   repeat refine wS ?_
   refine wT ⟨.inr rfl, _, rfl, ?_⟩
   rw [idxI_at hi b0 hg]; rfl
  ·-- else t16
   repeat refine wS ?_
   refine wK ?_
   exact ⟨⟨rfl, rfl, trivial⟩, (), [], ⟨rfl, rfl, trivial⟩, rfl, any_take_succ hi hg b0⟩
 ·intro s hg
  rw [List.take_length] at hg
  repeat refine wS ?_
  refine eE (by simp only [kA, seval, vint, qC] <;> with_reducible rfl) (by decide) ?_
  repeat refine wS ?_
  refine wT ⟨.inr rfl, _, rfl, ?_⟩
  rw [idxI_none hg]; rfl
theorem contStr (us : List (List UInt8)) (v : List UInt8) (hx : us.length ≤ maxLen) : PC Tryz.prog 29 [.slice (us.map PV.str) .none, .str v] (.bool (us.contains v)) := by
 refine pc_of (N := 9) Tryz.func29 rfl rfl (by simp) (by simp [Bel.int, Bel.str, bel_strs0]) (.bool _) ?_
 repeat refine wS ?_
 refine eE (by simp only [kA, seval, vint, qC] <;> with_reducible rfl) (by decide) ?_
 repeat refine wS ?_
 refine wR ?_
 refine eT 2 (by simp only [kA, seval, vint, qC] <;> with_reducible rfl) (by decide) ?_
 refine oP (by simp only [kC, seval, vint, qC] <;> with_reducible rfl) (by simp only [kC, seval]) (by decide) Tryzgo43 (idxStr us v hx _) ?_
 refine e_end (by simp only [kA, seval, y3, vint, qC] <;> with_reducible rfl) (by decide) ?_
 repeat refine wS ?_
 refine wT ⟨.inr rfl, _, rfl, ?_⟩
 rw [← any_contains, ← idxI_nonneg]; rfl
end Go.Abs
namespace Go.Abs
open Go.Proofs Go.RowKit
theorem rl_two {V : View} {vargs : Array Value} {p q : PV} (h : RL V vargs [p, q]) : ∃ v0 v1, vargs = #[v0, v1] ∧ VRel V v0 p ∧ VRel V v1 q := by
 obtain ⟨hsz, hr⟩ := h
 have h0 := hr 0 (by simp)
 have h1 := hr 1 (by simp)
 simp only [List.getElem_cons_zero, List.getElem_cons_succ] at h0 h1
 have hs : vargs.size = 2 := by simpa using hsz
 rw [Array.getD_eq_getD_getElem?, Array.getElem?_eq_getElem (by omega)] at h0 h1
 refine ⟨vargs[0], vargs[1], ?_, h0, h1⟩
 apply Array.ext <;> simp [hs]; intro i hi hi2; match i, hi2 with | 0, _ => rfl | 1, _ => rfl
theorem indexByte_c (s : List UInt8) (c : UInt8) : PC Tryz.prog 33 [.str s, .int .u8 c.toNat] (vint (Lib.indexByte s c)) := fun H => by
 refine acalls_below fun E vargs ho hH hrl => ?_
 obtain ⟨v0, v1, rfl, h0, h1⟩ := rl_two hrl
 cases h0 with
 | str z =>
  generalize hk : (PV.int IntKind.u8 (c.toNat : Int)) = p at h1
  cases h1 <;> cases hk
  refine ⟨_, VRel.int _ _, (Tryz.strings_IndexByte z (c.toNat : Int) E.w).mono fun e w' ⟨h1, h2⟩ => ⟨?_, h2 ▸ Below.refl _ _⟩⟩
  rw [h1]
  simp
theorem hasPrefix_c (s p : List UInt8) : PC Tryz.prog 24 [.str s, .str p] (.bool (Lib.hasPrefix s p)) := fun H => by
 refine acalls_below fun E vargs ho hH hrl => ?_
 obtain ⟨v0, v1, rfl, h0, h1⟩ := rl_two hrl
 cases h0 with
 | str z => cases h1 with
  | str y => exact ⟨_, VRel.bool _, (Tryz.strings_HasPrefix z y E.w).mono fun e w' ⟨h1, h2⟩ => ⟨h1, h2 ▸ Below.refl _ _⟩⟩
end Go.Abs
namespace Go.Abs
open Go.Proofs Go.RowKit
abbrev G0 : Heap := GC
theorem fieldsG_c (s : List UInt8) (hs : s.length < 4294967281) (ha : ∀ b ∈ s, b.toNat < 128) (hf : (Lib.fields s).length ≤ maxLen) : PG G0 Tryz.prog 44 [.str s] (.slice ((Lib.fields s).map PV.str) .none) := fun H hG => fields_c s hs ha hf (hG 0 _ rfl)
end Go.Abs
namespace Go.Abs
open Go.Proofs
theorem keywords_c_f : Lib.fields [117, 115, 101, 32, 112, 117, 98, 32, 97, 115, 32, 102, 110, 32, 115, 116, 114, 117, 99, 116, 32, 101, 110, 117, 109, 32, 116, 114, 97, 105, 116, 32, 105, 109, 112, 108, 32, 102, 111, 114, 32, 99, 111, 110, 115, 116, 32, 109, 97, 99, 114, 111, 32, 108, 101, 116, 32, 109, 117, 116, 32, 119, 104, 105, 108, 101, 32, 114, 101, 116, 117, 114, 110, 32, 109, 97, 116, 99, 104, 32, 105, 102, 32, 101, 108, 115, 101, 32, 110, 101, 119, 32, 116, 114, 117, 101, 32, 102, 97, 108, 115, 101, 32, 116, 121, 112, 101] = kwL := by kernel_rfl
theorem keywords_c : PG G0 Tryz.prog 30 [] (.slice (kwL.map PV.str) .none) := by
 have hk := fieldsG_c [117, 115, 101, 32, 112, 117, 98, 32, 97, 115, 32, 102, 110, 32, 115, 116, 114, 117, 99, 116, 32, 101, 110, 117, 109, 32, 116, 114, 97, 105, 116, 32, 105, 109, 112, 108, 32, 102, 111, 114, 32, 99, 111, 110, 115, 116, 32, 109, 97, 99, 114, 111, 32, 108, 101, 116, 32, 109, 117, 116, 32, 119, 104, 105, 108, 101, 32, 114, 101, 116, 117, 114, 110, 32, 109, 97, 116, 99, 104, 32, 105, 102, 32, 101, 108, 115, 101, 32, 110, 101, 119, 32, 116, 114, 117, 101, 32, 102, 97, 108, 115, 101, 32, 116, 121, 112, 101] (by decide) (by decide) (by rw [keywords_c_f]; decide)
 rw [keywords_c_f] at hk
 refine pg_of (N := 2) Tryz.func30 rfl rfl (by simp) (bel_strs0 _ _) fun H hG hb' => ?_
 repeat refine wS ?_
 refine eE (by simp only [kA, seval, vint, qC] <;> with_reducible rfl) (by decide) ?_
 repeat refine wS ?_
 refine wR ?_
 refine oP (by simp only [kC, seval, vint, qC] <;> rfl) (by simp only [kC, seval, vint, qC]) (by decide) Tryzgo44 (hk _ hG) ?_
 refine e_end (by simp only [kA, seval, vint, qC] <;> with_reducible rfl) (by decide) ?_
 repeat refine wS ?_
 refine wT ⟨.inr rfl, _, _, rfl, ?_, (by first | exact (List.append_nil _).symm | rfl)⟩
 simp only [jN, seval, vint, qC]
 try rfl
theorem two_c_f : Lib.fields [58, 58, 32, 61, 62, 32, 45, 62, 32, 61, 61, 32, 38, 38, 32, 124, 124] = twoL := by kernel_rfl
theorem two_c : PG G0 Tryz.prog 32 [] (.slice (twoL.map PV.str) .none) := by
 have hk := fieldsG_c [58, 58, 32, 61, 62, 32, 45, 62, 32, 61, 61, 32, 38, 38, 32, 124, 124] (by decide) (by decide) (by rw [two_c_f]; decide)
 rw [two_c_f] at hk
 refine pg_of (N := 2) Tryz.func32 rfl rfl (by simp) (bel_strs0 _ _) fun H hG hb' => ?_
 repeat refine wS ?_
 refine eE (by simp only [kA, seval, vint, qC] <;> with_reducible rfl) (by decide) ?_
 repeat refine wS ?_
 refine wR ?_
 refine oP (by simp only [kC, seval, vint, qC] <;> rfl) (by simp only [kC, seval, vint, qC]) (by decide) Tryzgo44 (hk _ hG) ?_
 refine e_end (by simp only [kA, seval, vint, qC] <;> with_reducible rfl) (by decide) ?_
 repeat refine wS ?_
 refine wT ⟨.inr rfl, _, _, rfl, ?_, (by first | exact (List.append_nil _).symm | rfl)⟩
 simp only [jN, seval, vint, qC]
 try rfl
end Go.Abs
namespace Go.Abs
open Go.Proofs
end Go.Abs
namespace Go.Abs
open Go.Proofs
theorem indexByte_nonneg : ∀ (l : List UInt8) (c : UInt8), decide (Lib.indexByte l c ≥ 0) = l.contains c
 | [], c => by simp [Lib.indexByte]
 | b :: l, c => by
  have ih := indexByte_nonneg l c
  have hge := Lib.indexByte_ge l c
  rw [List.contains_cons, ← ih, Lib.indexByte]
  by_cases h : b = c
  ·subst h; simp
  ·have h1 : (b == c) = false := by simpa using h
   have h2 : (c == b) = false := by simpa using fun e => h e.symm
   rw [h1, h2]
   simp only [Bool.false_eq_true, if_false, Bool.false_or]
   by_cases h3 : Lib.indexByte l c = -1
   ·simp [h3]
   ·have : (Lib.indexByte l c == -1) = false := by simpa using h3
    rw [this]
    simp only [Bool.false_eq_true, if_false, decide_eq_decide]
    omega
theorem isSp_contains (c : UInt8) : [32, 9, 10, 13].contains c = isSpB c := by
 rw [Bool.eq_iff_iff]
 simp [isSpB, or_assoc]
theorem isSpace_c (c : UInt8) : PC Tryz.prog 22 [.int .u8 c.toNat] (.bool (isSpB c)) := by
 have hk := indexByte_c [32, 9, 10, 13] c
 have hn := indexByte_nonneg [32, 9, 10, 13] c
 rw [isSp_contains] at hn
 refine pc_of (N := 6) Tryz.func22 rfl rfl (by simp) (by simp [Bel.int, Bel.str]) (.bool _) ?_
 repeat refine wS ?_
 refine eE (by simp only [kA, seval, vint, qC] <;> with_reducible rfl) (by decide) ?_
 repeat refine wS ?_
 refine wR ?_
 refine eT 1 (by simp only [kA, seval, vint, qC] <;> with_reducible rfl) (by decide) ?_
 refine oP (by simp only [kC, seval, vint, qC] <;> with_reducible rfl) (by simp only [kC, seval]) (by decide) Tryzgo33 (hk _) ?_
 refine e_end (by simp only [kA, seval, y3, vint, qC] <;> with_reducible rfl) (by decide) ?_
 repeat refine wS ?_
 refine wT ⟨.inr rfl, _, rfl, ?_⟩
 simp only [jN, seval, vint, qC, hn]
 try rfl
end Go.Abs
