/- Part 6 of a proof of the law RelexReference: Go data as trees, the walks of the functions that the law reaches, the plain laws. -/
import Derived.Test.YtihcoegdfbpngaaGreatDoorGERelexReference
import Derived.Laws.StructEq
import Derived.Laws.Cover3
import Derived.Laws.Entries
set_option linter.unusedVariables false
set_option linter.unusedSimpArgs false
set_option maxRecDepth 4000
namespace Go.Abs
open Go.Proofs
def m100 (toks : List Tk) (n : Nat) (R : Rec) (b : Bool) (s0 : PS) : Option PS := ((expectIdentM toks) s0).bind fun s1 => ((R .typeParams) s1).bind fun s2 => ((expectM toks [40]) s2).bind fun s3 => ((R (.params ([41]))) s3).bind fun s4 => ((optionalM toks ([45, 62]) (R .typeExpr)) s4).bind fun s5 => if b = true then (((R .block) s5).bind fun s6 => some s6) else (((acceptM toks [[59]]) s5).bind fun s6 => if atT (peekT toks s5.pos) [[59]] = true then (((missM 0) s6).bind fun s7 => some s7) else (((R .block) s6).bind fun s7 => some s7))
theorem m100_w {toks : List Tk} {ip n : Nat} {R : Rec} (IH : IHs toks ip R) (b : Bool) : FG toks ip 87 [.optr ip 0, .bool b] (m100 toks n R b) (frv (.function b)) := by
 intro s0 s' F0 H0 hm p0 i0
 obtain ⟨⟨hg, n0a⟩, _⟩ := i0
 obtain ⟨st0, r0⟩ := p0.row
 have hl := lim_le p0.len
 have f0 := Fr.refl F0 H0
 have k0a := hg
 unfold m100 at hm
 refine aF (N := 27) Tryz.func87 rfl rfl (by simp) fun hb' => ?_
 obtain ⟨s1, e1, hm⟩ := oB hm
 refine qW 1 (w2 r0 k0a) (FN.apX (expectIdent_c toks ip) e1 p0) ?_
 rintro _ H1 ⟨rfl, F1, p1, g1⟩
 obtain ⟨f1, ⟨st1, r1⟩, ⟨k1a, n1a⟩⟩ := nx1 f0 p1 g1 k0a n0a
 obtain ⟨s2, e2, hm⟩ := oB hm
 refine qW 1 (w2 r1 k1a) (FG.apX (IH .typeParams) e2 p1 ⟨k1a, n1a⟩) ?_
 rintro _ H2 ⟨rfl, F2, p2, g2⟩
 obtain ⟨f2, ⟨st2, r2⟩, ⟨k2a, n2a⟩⟩ := nx1 f1 p2 g2 k1a n1a
 obtain ⟨s3, e3, hm⟩ := oB hm
 refine qW 1 (w2 r2 k2a) (FN.apX (expect_c toks ip [40]) e3 p2) ?_
 rintro _ H3 ⟨rfl, F3, p3, g3⟩
 obtain ⟨f3, ⟨st3, r3⟩, ⟨k3a, n3a⟩⟩ := nx1 f2 p3 g3 k2a n2a
 obtain ⟨s4, e4, hm⟩ := oB hm
 refine qW 1 (w2 r3 k3a) (FG.apX (IH (.params ([41]))) e4 p3 ⟨k3a, n3a⟩) ?_
 rintro _ H4 ⟨rfl, F4, p4, g4⟩
 obtain ⟨f4, ⟨st4, r4⟩, ⟨k4a, n4a⟩⟩ := nx1 f3 p4 g4 k3a n3a
 have q4 := getL r4
 have b4a := getL k4a
 obtain ⟨s5, e5, hm⟩ := oB hm
 refine qW 3 (w2 r4 k4a) (FC.apX (optional_c toks ip ([45, 62]) 93 [.optr ip 0] [] zgo93 (stbL [(0, gO)]) (FG.fc (IH .typeExpr))) e5 p4 ⟨⟨k4a, n4a⟩, trivial⟩) ?_
 rintro _ H5 ⟨rfl, F5, p5, g5⟩
 obtain ⟨f5, ⟨st5, r5⟩, ⟨k5a, n5a⟩⟩ := nx1 f4 p5 g5 k4a n4a
 rcases Bool.eq_false_or_eq_true (b) with hd5 | hd5
 ·-- case
  rw [ifT hd5] at hm
  refine qE (a4 y9 y72 hd5 (w2 r5 k5a)) ?_
  refine qF (a2 hd5 (w2 r5 k5a)) ?_
  refine qK ?_
  refine qL [0] (a2 hd5 (w2 r5 k5a)) ?_
  obtain ⟨s6, e6, hm⟩ := oB hm
  refine qW 1 (a2 hd5 (w2 r5 k5a)) (FG.apX (IH .block) e6 p5 ⟨k5a, n5a⟩) ?_
  rintro _ H6 ⟨rfl, F6, p6, g6⟩
  obtain ⟨f6, ⟨st6, r6⟩, ⟨k6a, n6a⟩⟩ := nx1 f5 p6 g6 k5a n5a
  refine enX ?_
  injection hm with hm
  subst hm
  exact finX p6 f6
 ·-- case
  rw [ifF hd5] at hm
  refine qT 5 (a4 y9 y72 hd5 (w2 r5 k5a)) ?_
  obtain ⟨s6, e6, hm⟩ := oB hm
  refine qA (a2 hd5 (w2 r5 k5a)) zgo62 (FN.apX (accept_c toks ip [[59]] (by decide)) e6 p5) ?_
  rintro _ H6 ⟨rfl, F6, p6, g6⟩
  obtain ⟨f6, ⟨st6, r6⟩, ⟨k6a, n6a⟩⟩ := nx1 f5 p6 g6 k5a n5a
  refine qX (a2 hd5 (w2 r6 k6a)) ?_
  refine qI (a2 hd5 (w2 r6 k6a)) (fun bt22 => ?_) (fun bt22 => ?_)
  ·-- if t22
   rw [ifT bt22] at hm
   refine qL [0] (a2 hd5 (w2 r6 k6a)) ?_
   obtain ⟨s7, e7, hm⟩ := oB hm
   refine qW 1 (a2 hd5 (w2 r6 k6a)) (FN.apX (absent_c toks ip) e7 p6) ?_
   rintro _ H7 ⟨rfl, F7, p7, g7⟩
   obtain ⟨f7, ⟨st7, r7⟩, ⟨k7a, n7a⟩⟩ := nx1 f6 p7 g7 k6a n6a
   repeat refine wS ?_
   refine wT ⟨.inr rfl, _, rfl, ?_⟩
   injection hm with hm
   subst hm
   exact finX p7 f7
  ·-- else t22
   rw [ifF bt22] at hm
   refine qK ?_
   refine qL [0] (a2 hd5 (w2 r6 k6a)) ?_
   obtain ⟨s7, e7, hm⟩ := oB hm
   refine qW 1 (a2 hd5 (w2 r6 k6a)) (FG.apX (IH .block) e7 p6 ⟨k6a, n6a⟩) ?_
   rintro _ H7 ⟨rfl, F7, p7, g7⟩
   obtain ⟨f7, ⟨st7, r7⟩, ⟨k7a, n7a⟩⟩ := nx1 f6 p7 g7 k6a n6a
   refine enX ?_
   injection hm with hm
   subst hm
   exact finX p7 f7
def m101 (toks : List Tk) (n : Nat) (R : Rec) (k : Int) (s0 : PS) : Option PS := ((expectIdentM toks) s0).bind fun s1 => ((R .typeParams) s1).bind fun s2 => ((expectM toks [123]) s2).bind fun s3 => ((listM toks n ([125]) (m123 toks n R (k))) s3).bind fun s4 => some s4
theorem m101_w {toks : List Tk} {ip n : Nat} {R : Rec} (IH : IHs toks ip R) (k : Int) : FG toks ip 88 [.optr ip 0, .int .i64 k] (m101 toks n R k) unitR := by
 intro s0 s' F0 H0 hm p0 i0
 obtain ⟨⟨hg, n0a⟩, _⟩ := i0
 obtain ⟨st0, r0⟩ := p0.row
 have q0 := getL r0
 have hl := lim_le p0.len
 have f0 := Fr.refl F0 H0
 have k0a := getL hg [.row [.optr ip 0], .row [.int .i64 k]]
 have b0a := getL k0a
 have k0b : (H0 ++ [.row [.optr ip 0], .row [.int .i64 k]])[H0.length]? = some (.row [.optr ip 0]) := by simp
 have n0b := p0.new0
 have b0b := getL k0b
 have k0c : (H0 ++ [.row [.optr ip 0], .row [.int .i64 k]])[H0.length + 1]? = some (.row [.int .i64 k]) := by simp
 have n0c := p0.new 1
 have b0c := getL k0c
 unfold m101 at hm
 refine aF (N := 13) Tryz.func88 rfl rfl (by simp) fun hb' => ?_
 refine qE (a5 y3 y57 r0 q0 hg) ?_
 refine qT 1 (a4 y57 r0 q0 hg) ?_
 obtain ⟨s1, e1, hm⟩ := oB hm
 refine qN (a3 r0 q0 hg) (FN.apX (expectIdent_c toks ip) e1 p0) ?_
 rintro _ H1 ⟨rfl, F1, p1, g1⟩
 have f1 := f0.stX g1
 obtain ⟨st1, r1⟩ := p1.row
 have q1 := getL r1
 obtain ⟨k1a, n1a⟩ := g1.gtX k0a n0a
 have b1a := getL k1a
 obtain ⟨k1b, n1b⟩ := g1.gtX k0b n0b
 have b1b := getL k1b
 obtain ⟨k1c, n1c⟩ := g1.gtX k0c n0c
 have b1c := getL k1c
 refine qT 1 (a5 y57 hg r1 q1 (a5 k1a b1a k1b b1b (a2 k1c b1c))) ?_
 obtain ⟨s2, e2, hm⟩ := oB hm
 refine qN (a5 hg r1 q1 k1a (a5 b1a k1b b1b k1c b1c)) (FG.apX (IH .typeParams) e2 p1 ⟨k1a, n1a⟩) ?_
 rintro _ H2 ⟨rfl, F2, p2, g2⟩
 have f2 := f1.stX g2
 obtain ⟨st2, r2⟩ := p2.row
 have q2 := getL r2
 obtain ⟨k2a, n2a⟩ := g2.gtX k1a n1a
 have b2a := getL k2a
 obtain ⟨k2b, n2b⟩ := g2.gtX k1b n1b
 have b2b := getL k2b
 obtain ⟨k2c, n2c⟩ := g2.gtX k1c n1c
 have b2c := getL k2c
 refine qT 1 (a5 y57 hg r2 q2 (a5 k2a b2a k2b b2b (a2 k2c b2c))) ?_
 obtain ⟨s3, e3, hm⟩ := oB hm
 refine qN (a5 hg r2 q2 k2a (a5 b2a k2b b2b k2c b2c)) (FN.apX (expect_c toks ip [123]) e3 p2) ?_
 rintro _ H3 ⟨rfl, F3, p3, g3⟩
 have f3 := f2.stX g3
 obtain ⟨st3, r3⟩ := p3.row
 have q3 := getL r3
 obtain ⟨k3a, n3a⟩ := g3.gtX k2a n2a
 have b3a := getL k3a
 obtain ⟨k3b, n3b⟩ := g3.gtX k2b n2b
 have b3b := getL k3b
 obtain ⟨k3c, n3c⟩ := g3.gtX k2c n2c
 have b3c := getL k3c
 refine qT 2 (a5 y57 hg r3 q3 (a5 k3a b3a k3b b3b (a2 k3c b3c))) ?_
 obtain ⟨s4, e4, hm⟩ := oB hm
 refine qN (a2 hg (w4 r3 k3a k3b k3c)) (FC.apX (list_c toks ip n ([125]) 108 [] [.optr (H0.length) 0, .optr (H0.length + 1) 0] zgo108 (stbL [(0, gO), (H0.length, .row [.optr ip 0]), (H0.length + 1, .row [.int .i64 k])]) (fun _ _ _ => envL_hd) (m123_w (n := n) IH (H0.length) (H0.length + 1) (k))) e4 p3 ⟨⟨k3a, n3a⟩, ⟨k3b, n3b⟩, ⟨k3c, n3c⟩, trivial⟩) ?_
 rintro _ H4 ⟨rfl, F4, p4, g4⟩
 have f4 := f3.stX g4
 obtain ⟨st4, r4⟩ := p4.row
 have q4 := getL r4
 obtain ⟨k4a, n4a⟩ := g4.gtX k3a n3a
 have b4a := getL k4a
 obtain ⟨k4b, n4b⟩ := g4.gtX k3b n3b
 have b4b := getL k4b
 obtain ⟨k4c, n4c⟩ := g4.gtX k3c n3c
 have b4c := getL k4c
 refine enX ?_
 injection hm with hm
 subst hm
 exact finX p4 f4
def m197 (toks : List Tk) (n : Nat) (R : Rec) (s0 : PS) : Option PS := ((R (.path false)) s0).bind fun s1 => ((acceptM toks [[40]]) s1).bind fun s2 => if atT (peekT toks s1.pos) [[40]] = true then (((listM toks n ([41]) (R .pattern)) s2).bind fun s3 => some s3) else (some s2)
theorem m197_w {toks : List Tk} {ip n : Nat} {R : Rec} (IH : IHs toks ip R) (b0 : Nat) : FC Tryz.prog toks ip 164 [.optr b0 0] (m197 toks n R ) unitR (EnvL [(0, gO), (b0, .row [.optr ip 0])]) := by
 refine fc_of fun s0 s' F0 H0 hm p0 i0 => ?_
 obtain ⟨⟨k0a, n0a⟩, ⟨k0b, n0b⟩, _⟩ := i0
 obtain ⟨st0, r0⟩ := p0.row
 have hl := lim_le p0.len
 have f0 := Fr.refl F0 H0
 unfold m197 at hm
 refine aF (N := 10) Tryz.func164 rfl rfl (by simp) fun hb' => ?_
 refine qT 1 (a2 y57 (w3 r0 k0a k0b)) ?_
 obtain ⟨s1, e1, hm⟩ := oB hm
 refine qN (w3 r0 k0a k0b) (FG.apX (IH (.path false)) e1 p0 ⟨k0a, n0a⟩) ?_
 rintro _ H1 ⟨rfl, F1, p1, g1⟩
 obtain ⟨f1, ⟨st1, r1⟩, ⟨k1a, n1a⟩, ⟨k1b, n1b⟩⟩ := nx2 f0 p1 g1 k0a n0a k0b n0b
 refine qT 2 (a4 y9 y57 y72 (w3 r1 k1a k1b)) ?_
 obtain ⟨s2, e2, hm⟩ := oB hm
 refine qN (w3 r1 k1a k1b) (FN.apX (accept_c toks ip [[40]] (by decide)) e2 p1) ?_
 rintro _ H2 ⟨rfl, F2, p2, g2⟩
 obtain ⟨f2, ⟨st2, r2⟩, ⟨k2a, n2a⟩, ⟨k2b, n2b⟩⟩ := nx2 f1 p2 g2 k1a n1a k1b n1b
 have q2 := getL r2
 have b2a := getL k2a
 have b2b := getL k2b
 refine qI (w3 r2 k2a k2b) (fun bt5 => ?_) (fun bt5 => ?_)
 ·-- if t5
  rw [ifT bt5] at hm
  refine qT 3 (a2 y57 (w3 r2 k2a k2b)) ?_
  obtain ⟨s3, e3, hm⟩ := oB hm
  refine qN (w3 r2 k2a k2b) (FC.apX (list_c toks ip n ([41]) 152 [.optr ip 0] [] zgo152 (stbL [(0, gO)]) (fun _ _ _ => envL_hd) (FG.fc (IH .pattern))) e3 p2 ⟨⟨k2a, n2a⟩, trivial⟩) ?_
  rintro _ H3 ⟨rfl, F3, p3, g3⟩
  obtain ⟨f3, ⟨st3, r3⟩, ⟨k3a, n3a⟩, ⟨k3b, n3b⟩⟩ := nx2 f2 p3 g3 k2a n2a k2b n2b
  refine enX ?_
  injection hm with hm
  subst hm
  exact finX p3 f3
 ·-- else t5
  rw [ifF bt5] at hm
  refine qK ?_
  refine enX ?_
  injection hm with hm
  subst hm
  exact finX p2 f2
def m182 (toks : List Tk) (n : Nat) (R : Rec) (s0 : PS) : Option PS := if atT (peekT toks s0.pos) [[109, 117, 116]] = true then (((nodeM 44 (m196 toks n R )) s0).bind fun s1 => some s1) else (if (decide ((peekT toks s0.pos).kind = 103) && decide ((peekT toks s0.pos).text = [95])) = true then (((nodeM 43 (bumpM toks)) s0).bind fun s1 => some s1) else (if decide ((peekT toks s0.pos).kind = 103) = true then ((lookM toks s0).bind fun sq1 => if (!atT (peekT toks sq1.pos) [[40], [58, 58]]) = true then (((nodeM 44 (bumpM toks)) s0).bind fun s2 => some s2) else (((nodeM 45 (m197 toks n R )) s0).bind fun s2 => some s2)) else (if decide ((peekT toks s0.pos).kind = 105) = true then (((nodeM 27 (bumpM toks)) s0).bind fun s1 => some s1) else (if atT (peekT toks s0.pos) [[116, 114, 117, 101], [102, 97, 108, 115, 101]] = true then (((nodeM 28 (bumpM toks)) s0).bind fun s1 => some s1) else (((missM 46) s0).bind fun s1 => some s1)))))
theorem m182_w {toks : List Tk} {ip n : Nat} {R : Rec} (IH : IHs toks ip R) : FG toks ip 152 [.optr ip 0] (m182 toks n R ) (frv .pattern) := by
 intro s0 s' F0 H0 hm p0 i0
 obtain ⟨⟨hg, n0a⟩, _⟩ := i0
 obtain ⟨st0, r0⟩ := p0.row
 have q0 := getL r0
 have hl := lim_le p0.len
 have f0 := Fr.refl F0 H0
 have k0a := getL hg [.row [.optr ip 0], .row [.int .i64 (peekT toks s0.pos).kind, .str (peekT toks s0.pos).text]]
 have b0a := getL k0a
 have k0b : (H0 ++ [.row [.optr ip 0], .row [.int .i64 (peekT toks s0.pos).kind, .str (peekT toks s0.pos).text]])[H0.length]? = some (.row [.optr ip 0]) := by simp
 have n0b := p0.new0
 have b0b := getL k0b
 have k0c : (H0 ++ [.row [.optr ip 0], .row [.int .i64 (peekT toks s0.pos).kind, .str (peekT toks s0.pos).text]])[H0.length + 1]? = some (.row [.int .i64 (peekT toks s0.pos).kind, .str (peekT toks s0.pos).text]) := by simp
 have n0c := p0.new 1
 have b0c := getL k0c
 unfold m182 at hm
 refine aF (N := 62) Tryz.func152 rfl rfl (by simp) fun hb' => ?_
 refine qE (a4 y57 r0 q0 hg) ?_
 refine qT 1 (a4 y57 r0 q0 hg) ?_
 refine qP (a3 r0 q0 hg) zgo55 (peek_a (gtH r0) hl p0.pos) ?_
 refine qX (a4 y32 r0 q0 hg) ?_
 refine qB ?_
 refine qT 2 (a5 y9 y57 y72 r0 (a2 q0 hg)) ?_
 refine qP (a3 r0 q0 hg) zgo56 (at_c (gtH r0) hl p0.pos [[109, 117, 116]] (by decide)) ?_
 refine qX (a3 r0 q0 hg) ?_
 refine qI (a3 r0 q0 hg) (fun bt7 => ?_) (fun bt7 => ?_)
 ·-- if t7
  rw [ifT bt7] at hm
  refine qT 2 (a4 y57 r0 q0 hg) ?_
  obtain ⟨s1, e1, hm⟩ := oB hm
  refine qN (a2 hg (w1 r0)) (FC.apX (node_c toks ip 44 163 [] [.optr (H0.length) 0] zgo163 (stbL [(0, gO), (H0.length, .row [.optr ip 0])]) (m196_w (n := n) IH (H0.length) )) e1 p0 ⟨⟨k0a, n0a⟩, ⟨k0b, n0b⟩, trivial⟩) ?_
  rintro _ H1 ⟨rfl, F1, p1, g1⟩
  have f1 := f0.stX g1
  obtain ⟨st1, r1⟩ := p1.row
  have q1 := getL r1
  obtain ⟨k1a, n1a⟩ := g1.gtX k0a n0a
  have b1a := getL k1a
  obtain ⟨k1b, n1b⟩ := g1.gtX k0b n0b
  have b1b := getL k1b
  obtain ⟨k1c, n1c⟩ := g1.gtX k0c n0c
  have b1c := getL k1c
  refine enX ?_
  injection hm with hm
  subst hm
  exact finX p1 f1
 ·-- else t7
  rw [ifF bt7] at hm
  repeat refine wS ?_
  refine wR ?_
  refine aops_gstart ?_
  refine gT 1 (a4 y57 r0 q0 hg) ?_
  refine gP (a3 r0 q0 hg) zgo109 (fun hc => atIdent_c (gtH r0) hl p0.pos) ?_
  refine gX (a5 y9 y32 r0 q0 hg) ?_
  refine qI (a3 r0 q0 hg) (fun bt14 => ?_) (fun bt14 => ?_)
  ·-- if t14
   rw [ifT bt14] at hm
   refine qL [1] (a3 r0 q0 hg) ?_
   refine qT 3 (a4 y57 r0 q0 hg) ?_
   obtain ⟨s1, e1, hm⟩ := oB hm
   refine qN (a2 hg (w1 r0)) (FC.apX (node_c toks ip 43 63 [.optr ip 0] [] zgo63 (stbL [(0, gO)]) (FG.fc (FN.fg (bump_c toks ip)))) e1 p0 ⟨⟨k0a, n0a⟩, trivial⟩) ?_
   rintro _ H1 ⟨rfl, F1, p1, g1⟩
   have f1 := f0.stX g1
   obtain ⟨st1, r1⟩ := p1.row
   have q1 := getL r1
   obtain ⟨k1a, n1a⟩ := g1.gtX k0a n0a
   have b1a := getL k1a
   obtain ⟨k1b, n1b⟩ := g1.gtX k0b n0b
   have b1b := getL k1b
   obtain ⟨k1c, n1c⟩ := g1.gtX k0c n0c
   have b1c := getL k1c
   refine enX ?_
   injection hm with hm
   subst hm
   exact finX p1 f1
  ·-- else t14
   rw [ifF bt14] at hm
   refine qL [1, 2] (a3 r0 q0 hg) ?_
   rcases Bool.eq_false_or_eq_true (decide ((peekT toks s0.pos).kind = 103)) with hd7 | hd7
   ·-- case
    rw [ifT hd7] at hm
    refine qT 1 (a5 y57 r0 q0 hg hd7) ?_
    refine qP (a4 r0 q0 hg hd7) zgo109 (atIdent_c (gtH r0) hl p0.pos) ?_
    refine qU 2 (a5 y57 r0 q0 hg hd7) ?_
    obtain ⟨sq1, e1, hm⟩ := oB hm
    refine qA (a4 r0 q0 hg hd7) zgo57 ((by first | exact look_c0 e1 p0 | exact look_c e1 p0 _)) ?_
    rintro _ H1 ⟨iq1, Fq1, rfl, pq1_1, g1⟩
    obtain ⟨F1, nf1, p1, f1⟩ := (by first | exact look_keep0 p0 f0 g1 | exact look_keep p0 f0 g1)
    obtain ⟨st1, r1⟩ := p1.row
    have q1 := getL r1
    obtain ⟨k1a, n1a⟩ := (by first | exact look_get g1 k0a n0a nf1 | exact look_get g1 (b0a _) n0a nf1)
    have b1a := getL k1a
    obtain ⟨k1b, n1b⟩ := (by first | exact look_get g1 k0b n0b nf1 | exact look_get g1 (b0b _) n0b nf1)
    have b1b := getL k1b
    obtain ⟨k1c, n1c⟩ := (by first | exact look_get g1 k0c n0c nf1 | exact look_get g1 (b0c _) n0c nf1)
    have b1c := getL k1c
    obtain ⟨stq1_1, rq1_1⟩ := pq1_1.row
    have qq1_1 := getL rq1_1
    refine qU 1 (a5 y9 y72 hg hd7 (a5 r1 q1 k1a b1a (a4 k1b b1b k1c b1c))) ?_
    refine qP (a5 hg hd7 r1 q1 (a5 k1a b1a k1b b1b (a2 k1c b1c))) zgo56 (at_c (by first | exact rq1_1 | exact qq1_1 _) hl pq1_1.pos [[40], [58, 58]] (by decide)) ?_
    refine qX (a5 hg hd7 r1 q1 (a5 k1a b1a k1b b1b (a2 k1c b1c))) ?_
    refine qI (a5 hg hd7 r1 q1 (a5 k1a b1a k1b b1b (a2 k1c b1c))) (fun bt26 => ?_) (fun bt26 => ?_)
    ·-- if t26
     rw [ifT bt26] at hm
     refine qT 3 (a5 y57 hg hd7 r1 (a5 q1 k1a b1a k1b (a3 b1b k1c b1c))) ?_
     obtain ⟨s2, e2, hm⟩ := oB hm
     refine qN (a3 hg hd7 (w4 r1 k1a k1b k1c)) (FC.apX (node_c toks ip 44 63 [.optr ip 0] [] zgo63 (stbL [(0, gO)]) (FG.fc (FN.fg (bump_c toks ip)))) e2 p1 ⟨⟨k1a, n1a⟩, trivial⟩) ?_
     rintro _ H2 ⟨rfl, F2, p2, g2⟩
     have f2 := f1.stX g2
     obtain ⟨st2, r2⟩ := p2.row
     have q2 := getL r2
     obtain ⟨k2a, n2a⟩ := g2.gtX k1a n1a
     have b2a := getL k2a
     obtain ⟨k2b, n2b⟩ := g2.gtX k1b n1b
     have b2b := getL k2b
     obtain ⟨k2c, n2c⟩ := g2.gtX k1c n1c
     have b2c := getL k2c
     refine enX ?_
     injection hm with hm
     subst hm
     exact finX p2 f2
    ·-- else t26
     rw [ifF bt26] at hm
     refine qT 1 (a5 y57 hg hd7 r1 (a5 q1 k1a b1a k1b (a3 b1b k1c b1c))) ?_
     refine qP (a5 hg hd7 r1 q1 (a5 k1a b1a k1b b1b (a2 k1c b1c))) zgo109 (atIdent_c (gtH r1) hl p1.pos) ?_
     refine qX (a5 hg hd7 r1 q1 (a5 k1a b1a k1b b1b (a2 k1c b1c))) ?_
     repeat refine wS ?_
     refine awp_cond_true rfl (by simp only [jN, seval, vint, qC, hg, hd7, r1, q1, k1a, b1a, k1b, b1b, k1c, b1c] <;> with_reducible rfl) ?_
     refine qT 2 (a5 y57 hg hd7 r1 (a5 q1 k1a b1a k1b (a3 b1b k1c b1c))) ?_
     obtain ⟨s2, e2, hm⟩ := oB hm
     refine qN (a3 hg hd7 (w4 r1 k1a k1b k1c)) (FC.apX (node_c toks ip 45 164 [] [.optr (H0.length) 0] zgo164 (stbL [(0, gO), (H0.length, .row [.optr ip 0])]) (m197_w (n := n) IH (H0.length) )) e2 p1 ⟨⟨k1a, n1a⟩, ⟨k1b, n1b⟩, trivial⟩) ?_
     rintro _ H2 ⟨rfl, F2, p2, g2⟩
     have f2 := f1.stX g2
     obtain ⟨st2, r2⟩ := p2.row
     have q2 := getL r2
     obtain ⟨k2a, n2a⟩ := g2.gtX k1a n1a
     have b2a := getL k2a
     obtain ⟨k2b, n2b⟩ := g2.gtX k1b n1b
     have b2b := getL k2b
     obtain ⟨k2c, n2c⟩ := g2.gtX k1c n1c
     have b2c := getL k2c
     refine enX ?_
     injection hm with hm
     subst hm
     exact finX p2 f2
   ·-- case
    rw [ifF hd7] at hm
    refine qT 1 (a5 y57 r0 q0 hg hd7) ?_
    refine qP (a4 r0 q0 hg hd7) zgo109 (atIdent_c (gtH r0) hl p0.pos) ?_
    refine qX (a5 y9 y57 y72 r0 (a3 q0 hg hd7)) ?_
    refine qF (a4 r0 q0 hg hd7) ?_
    refine qT 1 (a5 y57 r0 q0 hg hd7) ?_
    refine qP (a4 r0 q0 hg hd7) zgo109 (atIdent_c (gtH r0) hl p0.pos) ?_
    refine qX (a4 r0 q0 hg hd7) ?_
    refine qF (a4 r0 q0 hg hd7) ?_
    refine qE (a5 y3 y32 r0 q0 (a2 hg hd7)) ?_
    refine qI (a4 r0 q0 hg hd7) (fun bt46 => ?_) (fun bt46 => ?_)
    ·-- if t46
     rw [ifT bt46] at hm
     refine qL [1] (a4 r0 q0 hg hd7) ?_
     refine qT 3 (a5 y57 r0 q0 hg hd7) ?_
     obtain ⟨s1, e1, hm⟩ := oB hm
     refine qN (a3 hg hd7 (w1 r0)) (FC.apX (node_c toks ip 27 63 [.optr ip 0] [] zgo63 (stbL [(0, gO)]) (FG.fc (FN.fg (bump_c toks ip)))) e1 p0 ⟨⟨k0a, n0a⟩, trivial⟩) ?_
     rintro _ H1 ⟨rfl, F1, p1, g1⟩
     have f1 := f0.stX g1
     obtain ⟨st1, r1⟩ := p1.row
     have q1 := getL r1
     obtain ⟨k1a, n1a⟩ := g1.gtX k0a n0a
     have b1a := getL k1a
     obtain ⟨k1b, n1b⟩ := g1.gtX k0b n0b
     have b1b := getL k1b
     obtain ⟨k1c, n1c⟩ := g1.gtX k0c n0c
     have b1c := getL k1c
     refine enX ?_
     injection hm with hm
     subst hm
     exact finX p1 f1
    ·-- else t46
     rw [ifF bt46] at hm
     refine qL [1] (a4 r0 q0 hg hd7) ?_
     refine qT 2 (a5 y9 y57 y72 r0 (a3 q0 hg hd7)) ?_
     refine qP (a4 r0 q0 hg hd7) zgo56 (at_c (gtH r0) hl p0.pos [[116, 114, 117, 101], [102, 97, 108, 115, 101]] (by decide)) ?_
     refine qX (a4 r0 q0 hg hd7) ?_
     refine qI (a4 r0 q0 hg hd7) (fun bt54 => ?_) (fun bt54 => ?_)
     ·-- if t54
      rw [ifT bt54] at hm
      refine qT 3 (a5 y57 r0 q0 hg hd7) ?_
      obtain ⟨s1, e1, hm⟩ := oB hm
      refine qN (a3 hg hd7 (w1 r0)) (FC.apX (node_c toks ip 28 63 [.optr ip 0] [] zgo63 (stbL [(0, gO)]) (FG.fc (FN.fg (bump_c toks ip)))) e1 p0 ⟨⟨k0a, n0a⟩, trivial⟩) ?_
      rintro _ H1 ⟨rfl, F1, p1, g1⟩
      have f1 := f0.stX g1
      obtain ⟨st1, r1⟩ := p1.row
      have q1 := getL r1
      obtain ⟨k1a, n1a⟩ := g1.gtX k0a n0a
      have b1a := getL k1a
      obtain ⟨k1b, n1b⟩ := g1.gtX k0b n0b
      have b1b := getL k1b
      obtain ⟨k1c, n1c⟩ := g1.gtX k0c n0c
      have b1c := getL k1c
      refine enX ?_
      injection hm with hm
      subst hm
      exact finX p1 f1
     ·-- else t54
      rw [ifF bt54] at hm
      refine qT 1 (a5 y57 r0 q0 hg hd7) ?_
      obtain ⟨s1, e1, hm⟩ := oB hm
      refine qN (a4 r0 q0 hg hd7) (FN.apX (missingNode_c toks ip) e1 p0) ?_
      rintro _ H1 ⟨rfl, F1, p1, g1⟩
      have f1 := f0.stX g1
      obtain ⟨st1, r1⟩ := p1.row
      have q1 := getL r1
      obtain ⟨k1a, n1a⟩ := g1.gtX k0a n0a
      have b1a := getL k1a
      obtain ⟨k1b, n1b⟩ := g1.gtX k0b n0b
      have b1b := getL k1b
      obtain ⟨k1c, n1c⟩ := g1.gtX k0c n0c
      have b1c := getL k1c
      refine enX ?_
      injection hm with hm
      subst hm
      exact finX p1 f1
def m171 (toks : List Tk) (n : Nat) (R : Rec) (s0 : PS) : Option PS := if decide ((peekT toks s0.pos).kind = 105) = true then (((nodeM 27 (bumpM toks)) s0).bind fun s1 => some s1) else (if decide ((peekT toks s0.pos).kind = 106) = true then (((nodeM 29 (bumpM toks)) s0).bind fun s1 => some s1) else (if atT (peekT toks s0.pos) [[116, 114, 117, 101], [102, 97, 108, 115, 101]] = true then (((nodeM 28 (bumpM toks)) s0).bind fun s1 => some s1) else (if decide ((peekT toks s0.pos).kind = 103) = true then (((R (.path false)) s0).bind fun s1 => if atT (peekT toks s1.pos) [[33]] = true then ((lookM toks s1).bind fun sq2 => if atT (peekT toks sq2.pos) [[40]] = true then (((wrapM 42 (m183 toks n R )) s1).bind fun s3 => some s3) else (some s1)) else (some s1)) else (if atT (peekT toks s0.pos) [[40]] = true then (((nodeM 60 (m185 toks n R )) s0).bind fun s1 => some s1) else (if atT (peekT toks s0.pos) [[123]] = true then (((R .block) s0).bind fun s1 => some s1) else (if atT (peekT toks s0.pos) [[105, 102]] = true then (((R .ifExpr) s0).bind fun s1 => some s1) else (if atT (peekT toks s0.pos) [[109, 97, 116, 99, 104]] = true then (((nodeM 35 (R .matchE)) s0).bind fun s1 => some s1) else (if atT (peekT toks s0.pos) [[110, 101, 119]] = true then (((nodeM 33 (R .structLit)) s0).bind fun s1 => some s1) else (if atT (peekT toks s0.pos) [[124], [124, 124]] = true then (((nodeM 38 (R .lambda)) s0).bind fun s1 => some s1) else (((missM 46) s0).bind fun s1 => some s1))))))))))
theorem m171_w {toks : List Tk} {ip n : Nat} {R : Rec} (IH : IHs toks ip R) : FG toks ip 145 [.optr ip 0] (m171 toks n R ) (frv .primary) := by
 intro s0 s' F0 H0 hm p0 i0
 obtain ⟨⟨hg, n0a⟩, _⟩ := i0
 obtain ⟨st0, r0⟩ := p0.row
 have q0 := getL r0
 have hl := lim_le p0.len
 have f0 := Fr.refl F0 H0
 have k0a := getL hg [.row [.optr ip 0], .row [.int .i64 (peekT toks s0.pos).kind, .str (peekT toks s0.pos).text]]
 have b0a := getL k0a
 have k0b : (H0 ++ [.row [.optr ip 0], .row [.int .i64 (peekT toks s0.pos).kind, .str (peekT toks s0.pos).text]])[H0.length]? = some (.row [.optr ip 0]) := by simp
 have n0b := p0.new0
 have b0b := getL k0b
 have k0c : (H0 ++ [.row [.optr ip 0], .row [.int .i64 (peekT toks s0.pos).kind, .str (peekT toks s0.pos).text]])[H0.length + 1]? = some (.row [.int .i64 (peekT toks s0.pos).kind, .str (peekT toks s0.pos).text]) := by simp
 have n0c := p0.new 1
 have b0c := getL k0c
 unfold m171 at hm
 refine aF (N := 92) Tryz.func145 rfl rfl (by simp) fun hb' => ?_
 refine qE (a4 y57 r0 q0 hg) ?_
 refine qT 1 (a4 y57 r0 q0 hg) ?_
 refine qP (a3 r0 q0 hg) zgo55 (peek_a (gtH r0) hl p0.pos) ?_
 refine qX (a4 y32 r0 q0 hg) ?_
 refine qB ?_
 refine qE (a5 y3 y32 r0 q0 hg) ?_
 refine qI (a3 r0 q0 hg) (fun bt7 => ?_) (fun bt7 => ?_)
 ·-- if t7
  rw [ifT bt7] at hm
  refine qT 3 (a4 y57 r0 q0 hg) ?_
  obtain ⟨s1, e1, hm⟩ := oB hm
  refine qN (a2 hg (w1 r0)) (FC.apX (node_c toks ip 27 63 [.optr ip 0] [] zgo63 (stbL [(0, gO)]) (FG.fc (FN.fg (bump_c toks ip)))) e1 p0 ⟨⟨k0a, n0a⟩, trivial⟩) ?_
  rintro _ H1 ⟨rfl, F1, p1, g1⟩
  have f1 := f0.stX g1
  obtain ⟨st1, r1⟩ := p1.row
  have q1 := getL r1
  obtain ⟨k1a, n1a⟩ := g1.gtX k0a n0a
  have b1a := getL k1a
  obtain ⟨k1b, n1b⟩ := g1.gtX k0b n0b
  have b1b := getL k1b
  obtain ⟨k1c, n1c⟩ := g1.gtX k0c n0c
  have b1c := getL k1c
  refine enX ?_
  injection hm with hm
  subst hm
  exact finX p1 f1
 ·-- else t7
  rw [ifF bt7] at hm
  refine qE (a5 y3 y32 r0 q0 hg) ?_
  refine qI (a3 r0 q0 hg) (fun bt15 => ?_) (fun bt15 => ?_)
  ·-- if t15
   rw [ifT bt15] at hm
   refine qT 3 (a4 y57 r0 q0 hg) ?_
   obtain ⟨s1, e1, hm⟩ := oB hm
   refine qN (a2 hg (w1 r0)) (FC.apX (node_c toks ip 29 63 [.optr ip 0] [] zgo63 (stbL [(0, gO)]) (FG.fc (FN.fg (bump_c toks ip)))) e1 p0 ⟨⟨k0a, n0a⟩, trivial⟩) ?_
   rintro _ H1 ⟨rfl, F1, p1, g1⟩
   have f1 := f0.stX g1
   obtain ⟨st1, r1⟩ := p1.row
   have q1 := getL r1
   obtain ⟨k1a, n1a⟩ := g1.gtX k0a n0a
   have b1a := getL k1a
   obtain ⟨k1b, n1b⟩ := g1.gtX k0b n0b
   have b1b := getL k1b
   obtain ⟨k1c, n1c⟩ := g1.gtX k0c n0c
   have b1c := getL k1c
   refine enX ?_
   injection hm with hm
   subst hm
   exact finX p1 f1
  ·-- else t15
   rw [ifF bt15] at hm
   refine qT 2 (a5 y9 y57 y72 r0 (a2 q0 hg)) ?_
   refine qP (a3 r0 q0 hg) zgo56 (at_c (gtH r0) hl p0.pos [[116, 114, 117, 101], [102, 97, 108, 115, 101]] (by decide)) ?_
   refine qX (a3 r0 q0 hg) ?_
   refine qI (a3 r0 q0 hg) (fun bt23 => ?_) (fun bt23 => ?_)
   ·-- if t23
    rw [ifT bt23] at hm
    refine qL [1] (a3 r0 q0 hg) ?_
    refine qT 3 (a4 y57 r0 q0 hg) ?_
    obtain ⟨s1, e1, hm⟩ := oB hm
    refine qN (a2 hg (w1 r0)) (FC.apX (node_c toks ip 28 63 [.optr ip 0] [] zgo63 (stbL [(0, gO)]) (FG.fc (FN.fg (bump_c toks ip)))) e1 p0 ⟨⟨k0a, n0a⟩, trivial⟩) ?_
    rintro _ H1 ⟨rfl, F1, p1, g1⟩
    have f1 := f0.stX g1
    obtain ⟨st1, r1⟩ := p1.row
    have q1 := getL r1
    obtain ⟨k1a, n1a⟩ := g1.gtX k0a n0a
    have b1a := getL k1a
    obtain ⟨k1b, n1b⟩ := g1.gtX k0b n0b
    have b1b := getL k1b
    obtain ⟨k1c, n1c⟩ := g1.gtX k0c n0c
    have b1c := getL k1c
    refine enX ?_
    injection hm with hm
    subst hm
    exact finX p1 f1
   ·-- else t23
    rw [ifF bt23] at hm
    refine qL [1, 2] (a3 r0 q0 hg) ?_
    refine qE (a5 y3 y32 r0 q0 hg) ?_
    refine qI (a3 r0 q0 hg) (fun bt31 => ?_) (fun bt31 => ?_)
    ·-- if t31
     rw [ifT bt31] at hm
     refine qT 1 (a4 y57 r0 q0 hg) ?_
     obtain ⟨s1, e1, hm⟩ := oB hm
     refine oC (by simp only [kC, seval, vint, qC, r0, q0, hg] <;> with_reducible rfl) (by simp only [kC, seval, vint, qC, r0, q0, hg]) (by decide) zgo118 ((by first | exact FG.ap0 (IH (.path false)) e1 p0 ⟨k0a, n0a⟩ | exact FG.ap' (IH (.path false)) e1 p0 ⟨k0a, n0a⟩ | exact FG.ap (IH (.path false)) e1 p0 ⟨k0a, n0a⟩)) ?_
     rintro _ H1 ⟨rfl, F1, p1, g1⟩
     have f1 := f0.stX g1
     obtain ⟨st1, r1⟩ := p1.row
     have q1 := getL r1
     obtain ⟨k1a, n1a⟩ := g1.gtX k0a n0a
     have b1a := getL k1a
     obtain ⟨k1b, n1b⟩ := g1.gtX k0b n0b
     have b1b := getL k1b
     obtain ⟨k1c, n1c⟩ := g1.gtX k0c n0c
     have b1c := getL k1c
     refine oN ?_
     rcases Bool.eq_false_or_eq_true (atT (peekT toks s1.pos) [[33]]) with hd11 | hd11
     ·-- case
      rw [ifT hd11] at hm
      refine qT 2 (a5 y9 y57 y72 hg (a5 r1 q1 k1a b1a (a5 k1b b1b k1c b1c hd11))) ?_
      refine qP (a5 hg r1 q1 k1a (a5 b1a k1b b1b k1c (a2 b1c hd11))) zgo56 (at_c (gtH r1) hl p1.pos [[33]] (by decide)) ?_
      refine qU 2 (a5 y57 hg r1 q1 (a5 k1a b1a k1b b1b (a3 k1c b1c hd11))) ?_
      obtain ⟨sq2, e2, hm⟩ := oB hm
      refine qA (a5 hg r1 q1 k1a (a5 b1a k1b b1b k1c (a2 b1c hd11))) zgo57 ((by first | exact look_c0 e2 p1 | exact look_c e2 p1 _)) ?_
      rintro _ H2 ⟨iq2, Fq2, rfl, pq2_2, g2⟩
      obtain ⟨F2, nf2, p2, f2⟩ := (by first | exact look_keep0 p1 f1 g2 | exact look_keep p1 f1 g2)
      obtain ⟨st2, r2⟩ := p2.row
      have q2 := getL r2
      obtain ⟨k2a, n2a⟩ := (by first | exact look_get g2 k1a n1a nf2 | exact look_get g2 (b1a _) n1a nf2)
      have b2a := getL k2a
      obtain ⟨k2b, n2b⟩ := (by first | exact look_get g2 k1b n1b nf2 | exact look_get g2 (b1b _) n1b nf2)
      have b2b := getL k2b
      obtain ⟨k2c, n2c⟩ := (by first | exact look_get g2 k1c n1c nf2 | exact look_get g2 (b1c _) n1c nf2)
      have b2c := getL k2c
      obtain ⟨stq2_2, rq2_2⟩ := pq2_2.row
      have qq2_2 := getL rq2_2
      refine qU 1 (a5 y9 y72 hg hd11 (a5 r2 q2 k2a b2a (a4 k2b b2b k2c b2c))) ?_
      refine qP (a5 hg hd11 r2 q2 (a5 k2a b2a k2b b2b (a2 k2c b2c))) zgo56 (at_c (by first | exact rq2_2 | exact qq2_2 _) hl pq2_2.pos [[40]] (by decide)) ?_
      refine qX (a5 hg hd11 r2 q2 (a5 k2a b2a k2b b2b (a2 k2c b2c))) ?_
      refine qI (a5 hg hd11 r2 q2 (a5 k2a b2a k2b b2b (a2 k2c b2c))) (fun bt45 => ?_) (fun bt45 => ?_)
      ·-- if t45
       rw [ifT bt45] at hm
       refine qL [1] (a5 hg hd11 r2 q2 (a5 k2a b2a k2b b2b (a2 k2c b2c))) ?_
       refine qT 2 (a5 y57 hg hd11 r2 (a5 q2 k2a b2a k2b (a3 b2b k2c b2c))) ?_
       obtain ⟨s3, e3, hm⟩ := oB hm
       refine qN (a3 hg hd11 (w4 r2 k2a k2b k2c)) (FC.apX (wrap_c toks ip 42 153 [] [.optr (H0.length) 0] zgo153 (stbL [(0, gO), (H0.length, .row [.optr ip 0])]) (m183_w (n := n) IH (H0.length) )) e3 p2 ⟨⟨k2a, n2a⟩, ⟨k2b, n2b⟩, trivial⟩) ?_
       rintro _ H3 ⟨rfl, F3, p3, g3⟩
       have f3 := f2.stX g3
       obtain ⟨st3, r3⟩ := p3.row
       have q3 := getL r3
       obtain ⟨k3a, n3a⟩ := g3.gtX k2a n2a
       have b3a := getL k3a
       obtain ⟨k3b, n3b⟩ := g3.gtX k2b n2b
       have b3b := getL k3b
       obtain ⟨k3c, n3c⟩ := g3.gtX k2c n2c
       have b3c := getL k3c
       refine enX ?_
       injection hm with hm
       subst hm
       exact finX p3 f3
      ·-- else t45
       rw [ifF bt45] at hm
       refine qK ?_
       refine enX ?_
       injection hm with hm
       subst hm
       exact finX p2 f2
     ·-- case
      rw [ifF hd11] at hm
      refine qT 2 (a5 y9 y57 y72 hg (a5 r1 q1 k1a b1a (a5 k1b b1b k1c b1c hd11))) ?_
      refine qP (a5 hg r1 q1 k1a (a5 b1a k1b b1b k1c (a2 b1c hd11))) zgo56 (at_c (gtH r1) hl p1.pos [[33]] (by decide)) ?_
      refine qX (a5 y9 y57 y72 hg (a5 r1 q1 k1a b1a (a5 k1b b1b k1c b1c hd11))) ?_
      refine qF (a5 hg r1 q1 k1a (a5 b1a k1b b1b k1c (a2 b1c hd11))) ?_
      refine qK ?_
      refine enX ?_
      injection hm with hm
      subst hm
      exact finX p1 f1
    ·-- else t31
     rw [ifF bt31] at hm
     refine qT 2 (a5 y9 y57 y72 r0 (a2 q0 hg)) ?_
     refine qP (a3 r0 q0 hg) zgo56 (at_c (gtH r0) hl p0.pos [[40]] (by decide)) ?_
     refine qX (a3 r0 q0 hg) ?_
     refine qI (a3 r0 q0 hg) (fun bt49 => ?_) (fun bt49 => ?_)
     ·-- if t49
      rw [ifT bt49] at hm
      refine qT 2 (a4 y57 r0 q0 hg) ?_
      obtain ⟨s1, e1, hm⟩ := oB hm
      refine qN (a2 hg (w1 r0)) (FC.apX (node_c toks ip 60 155 [] [.optr (H0.length) 0] zgo155 (stbL [(0, gO), (H0.length, .row [.optr ip 0])]) (m185_w (n := n) IH (H0.length) )) e1 p0 ⟨⟨k0a, n0a⟩, ⟨k0b, n0b⟩, trivial⟩) ?_
      rintro _ H1 ⟨rfl, F1, p1, g1⟩
      have f1 := f0.stX g1
      obtain ⟨st1, r1⟩ := p1.row
      have q1 := getL r1
      obtain ⟨k1a, n1a⟩ := g1.gtX k0a n0a
      have b1a := getL k1a
      obtain ⟨k1b, n1b⟩ := g1.gtX k0b n0b
      have b1b := getL k1b
      obtain ⟨k1c, n1c⟩ := g1.gtX k0c n0c
      have b1c := getL k1c
      refine enX ?_
      injection hm with hm
      subst hm
      exact finX p1 f1
     ·-- else t49
      rw [ifF bt49] at hm
      refine qT 2 (a5 y9 y57 y72 r0 (a2 q0 hg)) ?_
      refine qP (a3 r0 q0 hg) zgo56 (at_c (gtH r0) hl p0.pos [[123]] (by decide)) ?_
      refine qX (a3 r0 q0 hg) ?_
      refine qI (a3 r0 q0 hg) (fun bt56 => ?_) (fun bt56 => ?_)
      ·-- if t56
       rw [ifT bt56] at hm
       refine qT 1 (a4 y57 r0 q0 hg) ?_
       obtain ⟨s1, e1, hm⟩ := oB hm
       refine oC (by simp only [kC, seval, vint, qC, r0, q0, hg] <;> with_reducible rfl) (by simp only [kC, seval, vint, qC, r0, q0, hg]) (by decide) zgo106 ((by first | exact FG.ap0 (IH .block) e1 p0 ⟨k0a, n0a⟩ | exact FG.ap' (IH .block) e1 p0 ⟨k0a, n0a⟩ | exact FG.ap (IH .block) e1 p0 ⟨k0a, n0a⟩)) ?_
       rintro _ H1 ⟨rfl, F1, p1, g1⟩
       have f1 := f0.stX g1
       obtain ⟨st1, r1⟩ := p1.row
       have q1 := getL r1
       obtain ⟨k1a, n1a⟩ := g1.gtX k0a n0a
       have b1a := getL k1a
       obtain ⟨k1b, n1b⟩ := g1.gtX k0b n0b
       have b1b := getL k1b
       obtain ⟨k1c, n1c⟩ := g1.gtX k0c n0c
       have b1c := getL k1c
       refine oN ?_
       refine enX ?_
       injection hm with hm
       subst hm
       exact finX p1 f1
      ·-- else t56
       rw [ifF bt56] at hm
       refine qT 2 (a5 y9 y57 y72 r0 (a2 q0 hg)) ?_
       refine qP (a3 r0 q0 hg) zgo56 (at_c (gtH r0) hl p0.pos [[105, 102]] (by decide)) ?_
       refine qX (a3 r0 q0 hg) ?_
       refine qI (a3 r0 q0 hg) (fun bt62 => ?_) (fun bt62 => ?_)
       ·-- if t62
        rw [ifT bt62] at hm
        refine qL [1] (a3 r0 q0 hg) ?_
        refine qT 1 (a4 y57 r0 q0 hg) ?_
        obtain ⟨s1, e1, hm⟩ := oB hm
        refine oC (by simp only [kC, seval, vint, qC, r0, q0, hg] <;> with_reducible rfl) (by simp only [kC, seval, vint, qC, r0, q0, hg]) (by decide) zgo156 ((by first | exact FG.ap0 (IH .ifExpr) e1 p0 ⟨k0a, n0a⟩ | exact FG.ap' (IH .ifExpr) e1 p0 ⟨k0a, n0a⟩ | exact FG.ap (IH .ifExpr) e1 p0 ⟨k0a, n0a⟩)) ?_
        rintro _ H1 ⟨rfl, F1, p1, g1⟩
        have f1 := f0.stX g1
        obtain ⟨st1, r1⟩ := p1.row
        have q1 := getL r1
        obtain ⟨k1a, n1a⟩ := g1.gtX k0a n0a
        have b1a := getL k1a
        obtain ⟨k1b, n1b⟩ := g1.gtX k0b n0b
        have b1b := getL k1b
        obtain ⟨k1c, n1c⟩ := g1.gtX k0c n0c
        have b1c := getL k1c
        refine oN ?_
        refine enX ?_
        injection hm with hm
        subst hm
        exact finX p1 f1
       ·-- else t62
        rw [ifF bt62] at hm
        refine qL [1] (a3 r0 q0 hg) ?_
        refine qT 2 (a5 y9 y57 y72 r0 (a2 q0 hg)) ?_
        refine qP (a3 r0 q0 hg) zgo56 (at_c (gtH r0) hl p0.pos [[109, 97, 116, 99, 104]] (by decide)) ?_
        refine qX (a3 r0 q0 hg) ?_
        refine qI (a3 r0 q0 hg) (fun bt68 => ?_) (fun bt68 => ?_)
        ·-- if t68
         rw [ifT bt68] at hm
         refine qT 3 (a4 y57 r0 q0 hg) ?_
         obtain ⟨s1, e1, hm⟩ := oB hm
         refine qN (a2 hg (w1 r0)) (FC.apX (node_c toks ip 35 157 [.optr ip 0] [] zgo157 (stbL [(0, gO)]) (FG.fc (IH .matchE))) e1 p0 ⟨⟨k0a, n0a⟩, trivial⟩) ?_
         rintro _ H1 ⟨rfl, F1, p1, g1⟩
         have f1 := f0.stX g1
         obtain ⟨st1, r1⟩ := p1.row
         have q1 := getL r1
         obtain ⟨k1a, n1a⟩ := g1.gtX k0a n0a
         have b1a := getL k1a
         obtain ⟨k1b, n1b⟩ := g1.gtX k0b n0b
         have b1b := getL k1b
         obtain ⟨k1c, n1c⟩ := g1.gtX k0c n0c
         have b1c := getL k1c
         refine enX ?_
         injection hm with hm
         subst hm
         exact finX p1 f1
        ·-- else t68
         rw [ifF bt68] at hm
         refine qT 2 (a5 y9 y57 y72 r0 (a2 q0 hg)) ?_
         refine qP (a3 r0 q0 hg) zgo56 (at_c (gtH r0) hl p0.pos [[110, 101, 119]] (by decide)) ?_
         refine qX (a3 r0 q0 hg) ?_
         refine qI (a3 r0 q0 hg) (fun bt76 => ?_) (fun bt76 => ?_)
         ·-- if t76
          rw [ifT bt76] at hm
          refine qT 3 (a4 y57 r0 q0 hg) ?_
          obtain ⟨s1, e1, hm⟩ := oB hm
          refine qN (a2 hg (w1 r0)) (FC.apX (node_c toks ip 33 158 [.optr ip 0] [] zgo158 (stbL [(0, gO)]) (FG.fc (IH .structLit))) e1 p0 ⟨⟨k0a, n0a⟩, trivial⟩) ?_
          rintro _ H1 ⟨rfl, F1, p1, g1⟩
          have f1 := f0.stX g1
          obtain ⟨st1, r1⟩ := p1.row
          have q1 := getL r1
          obtain ⟨k1a, n1a⟩ := g1.gtX k0a n0a
          have b1a := getL k1a
          obtain ⟨k1b, n1b⟩ := g1.gtX k0b n0b
          have b1b := getL k1b
          obtain ⟨k1c, n1c⟩ := g1.gtX k0c n0c
          have b1c := getL k1c
          refine enX ?_
          injection hm with hm
          subst hm
          exact finX p1 f1
         ·-- else t76
          rw [ifF bt76] at hm
          refine qT 2 (a5 y9 y57 y72 r0 (a2 q0 hg)) ?_
          refine qP (a3 r0 q0 hg) zgo56 (at_c (gtH r0) hl p0.pos [[124], [124, 124]] (by decide)) ?_
          refine qX (a3 r0 q0 hg) ?_
          refine qI (a3 r0 q0 hg) (fun bt84 => ?_) (fun bt84 => ?_)
          ·-- if t84
           rw [ifT bt84] at hm
           refine qT 3 (a4 y57 r0 q0 hg) ?_
           obtain ⟨s1, e1, hm⟩ := oB hm
           refine qN (a2 hg (w1 r0)) (FC.apX (node_c toks ip 38 159 [.optr ip 0] [] zgo159 (stbL [(0, gO)]) (FG.fc (IH .lambda))) e1 p0 ⟨⟨k0a, n0a⟩, trivial⟩) ?_
           rintro _ H1 ⟨rfl, F1, p1, g1⟩
           have f1 := f0.stX g1
           obtain ⟨st1, r1⟩ := p1.row
           have q1 := getL r1
           obtain ⟨k1a, n1a⟩ := g1.gtX k0a n0a
           have b1a := getL k1a
           obtain ⟨k1b, n1b⟩ := g1.gtX k0b n0b
           have b1b := getL k1b
           obtain ⟨k1c, n1c⟩ := g1.gtX k0c n0c
           have b1c := getL k1c
           refine enX ?_
           injection hm with hm
           subst hm
           exact finX p1 f1
          ·-- else t84
           rw [ifF bt84] at hm
           refine qT 1 (a4 y57 r0 q0 hg) ?_
           obtain ⟨s1, e1, hm⟩ := oB hm
           refine qN (a3 r0 q0 hg) (FN.apX (missingNode_c toks ip) e1 p0) ?_
           rintro _ H1 ⟨rfl, F1, p1, g1⟩
           have f1 := f0.stX g1
           obtain ⟨st1, r1⟩ := p1.row
           have q1 := getL r1
           obtain ⟨k1a, n1a⟩ := g1.gtX k0a n0a
           have b1a := getL k1a
           obtain ⟨k1b, n1b⟩ := g1.gtX k0b n0b
           have b1b := getL k1b
           obtain ⟨k1c, n1c⟩ := g1.gtX k0c n0c
           have b1c := getL k1c
           refine enX ?_
           injection hm with hm
           subst hm
           exact finX p1 f1
def m177 (toks : List Tk) (n : Nat) (R : Rec) (s0 : PS) : Option PS := (loopM (fun s1 => atT (peekT toks s1.pos) [[40], [46]]) (fun s1 => if atT (peekT toks s1.pos) [[40]] = true then (((wrapM 30 (R .arguments)) s1).bind fun s2 => some s2) else ((lookM toks s1).bind fun sq2 => if decide ((peekT toks sq2.pos).kind = 103) = true then ((lookM toks sq2).bind fun sq3 => if atT (peekT toks sq3.pos) [[40]] = true then (((wrapM 31 (m191 toks n R )) s1).bind fun s4 => some s4) else (((wrapM 32 (m192 toks n R )) s1).bind fun s4 => some s4)) else (((wrapM 32 (m192 toks n R )) s1).bind fun s3 => some s3))) n s0).bind fun s1 => some s1
theorem m177_w {toks : List Tk} {ip n : Nat} {R : Rec} (IH : IHs toks ip R) : FG toks ip 151 [.optr ip 0] (m177 toks n R ) (frv .postfx) := by
 intro s0 s' F0 H0 hm p0 i0
 obtain ⟨⟨hg, n0a⟩, _⟩ := i0
 obtain ⟨st0, r0⟩ := p0.row
 have q0 := getL r0
 have hl := lim_le p0.len
 have f0 := Fr.refl F0 H0
 have k0a := getL hg [.row [.optr ip 0]]
 have b0a := getL k0a
 have k0b : (H0 ++ [.row [.optr ip 0]])[H0.length]? = some (.row [.optr ip 0]) := by simp
 have n0b := p0.new0
 have b0b := getL k0b
 unfold m177 at hm
 refine aF (N := 29) Tryz.func151 rfl rfl (by simp) fun hb' => ?_
 refine qE (a3 y57 hg (w1 r0)) ?_
 repeat refine wS ?_
 obtain ⟨sL1, eL1, hm⟩ := oB hm
 have hmo1 := hm
 clear hm
 refine awp_block ?_
 refine awp_loopX (σ := Nat × PS × List Nat) (fun (z : Nat × PS × List Nat) => [(0, .optr ip 0), (1, .optr (H0.length) 0)]) (fun (z : Nat × PS × List Nat) =>  fun H1 => loopM (fun s1 => atT (peekT toks s1.pos) [[40], [46]]) (fun s1 => if atT (peekT toks s1.pos) [[40]] = true then (((wrapM 30 (R .arguments)) s1).bind fun s2 => some s2) else ((lookM toks s1).bind fun sq2 => if decide ((peekT toks sq2.pos).kind = 103) = true then ((lookM toks sq2).bind fun sq3 => if atT (peekT toks sq3.pos) [[40]] = true then (((wrapM 31 (m191 toks n R )) s1).bind fun s4 => some s4) else (((wrapM 32 (m192 toks n R )) s1).bind fun s4 => some s4)) else (((wrapM 32 (m192 toks n R )) s1).bind fun s3 => some s3))) z.1 z.2.1 = some sL1 ∧ PSt toks ip z.2.1 z.2.2 H1 ∧ Fr F0 z.2.2 H0 H1 ∧ (H1[0]? = some (gO) ∧ (0) ∉ z.2.2) ∧ (H1[H0.length]? = some (.row [.optr ip 0]) ∧ (H0.length) ∉ z.2.2)) (fun (z : Nat × PS × List Nat) => z.1) ((n, s0, F0)) ⟨(by first | rfl | (simp only [jN, seval, vint, qC, r0, q0, hg] <;> first | done | with_reducible rfl)), (by first | rfl | (simp only [jN, seval, vint, qC, r0, q0, hg] <;> first | done | with_reducible rfl)), trivial⟩ (⟨eL1, (by first | exact p0 | exact p0.app _ | exact p0.flg false), (by first | exact f0 | exact f0.app _), ⟨(by first | exact k0a | exact b0a _), n0a⟩, ⟨(by first | exact k0b | exact b0b _), n0b⟩⟩) ?_
 intro z H1 hg
 obtain ⟨k1, s1, F1⟩ := z
 obtain ⟨hk1, p1, f1, ⟨k1a, n1a⟩, ⟨k1b, n1b⟩⟩ := hg
 simp only at hk1 p1 f1 k1a n1a k1b n1b
 obtain ⟨st1, r1⟩ := p1.row
 have q1 := getL r1
 have b1a := getL k1a
 have b1b := getL k1b
 cases k1 with
 | zero => cases hk1
 | succ k1 => ?_
 refine qT 2 (a5 y9 y57 y72 hg (w3 r1 k1a k1b)) ?_
 refine qP (a2 hg (w3 r1 k1a k1b)) zgo56 (at_c (gtH r1) hl p1.pos [[40], [46]] (by decide)) ?_
 refine oN ?_
 refine qI (a2 hg (w3 r1 k1a k1b)) (fun bt5 => ?_) (fun bt5 => ?_)
 ·-- if t5
  unfold loopM at hk1
  rw [ifT bt5] at hk1
  obtain ⟨sB1, hm, hk1⟩ := oB hk1
  refine qK ?_
  refine qB ?_
  refine qT 2 (a5 y9 y57 y72 hg (w3 r1 k1a k1b)) ?_
  refine qP (a2 hg (w3 r1 k1a k1b)) zgo56 (at_c (gtH r1) hl p1.pos [[40]] (by decide)) ?_
  refine oN ?_
  refine qI (a2 hg (w3 r1 k1a k1b)) (fun bt8 => ?_) (fun bt8 => ?_)
  ·-- if t8
   rw [ifT bt8] at hm
   refine qT 3 (a3 y57 hg (w3 r1 k1a k1b)) ?_
   obtain ⟨s2, e2, hm⟩ := oB hm
   refine qN (a2 hg (w3 r1 k1a k1b)) (FC.apX (wrap_c toks ip 30 154 [.optr ip 0] [] zgo154 (stbL [(0, gO)]) (FG.fc (IH .arguments))) e2 p1 ⟨⟨k1a, n1a⟩, trivial⟩) ?_
   rintro _ H2 ⟨rfl, F2, p2, g2⟩
   obtain ⟨f2, ⟨st2, r2⟩, ⟨k2a, n2a⟩, ⟨k2b, n2b⟩⟩ := nx2 f1 p2 g2 k1a n1a k1b n1b
   have q2 := getL r2
   have b2a := getL k2a
   have b2b := getL k2b
   repeat refine wS ?_
   refine awp_exit ?_
   simp only [thenQ, blockQ, reduceIte, Nat.reduceEqDiff, Nat.succ_ne_self, if_true, if_false]
   try simp only [thenQ, blockQ]
   injection hm with hm
   subst hm
   exact ⟨(k1, _, F2), Nat.lt_succ_self _, ⟨rfl, rfl, trivial⟩, hk1, p2, f2, ⟨k2a, n2a⟩, ⟨k2b, n2b⟩⟩
  ·-- else t8
   rw [ifF bt8] at hm
   refine qK ?_
   refine qT 1 (a3 y57 hg (w3 r1 k1a k1b)) ?_
   obtain ⟨sq2, e2, hm⟩ := oB hm
   refine qA (a2 hg (w3 r1 k1a k1b)) zgo57 ((by first | exact look_c0 e2 p1 | exact look_c e2 p1 _)) ?_
   rintro _ H2 ⟨iq2, Fq2, rfl, pq2_2, g2⟩
   obtain ⟨F2, nf2, p2, f2⟩ := (by first | exact look_keep0 p1 f1 g2 | exact look_keep p1 f1 g2)
   obtain ⟨st2, r2⟩ := p2.row
   have q2 := getL r2
   obtain ⟨k2a, n2a⟩ := (by first | exact look_get g2 k1a n1a nf2 | exact look_get g2 (b1a _) n1a nf2)
   have b2a := getL k2a
   obtain ⟨k2b, n2b⟩ := (by first | exact look_get g2 k1b n1b nf2 | exact look_get g2 (b1b _) n1b nf2)
   have b2b := getL k2b
   obtain ⟨stq2_2, rq2_2⟩ := pq2_2.row
   have qq2_2 := getL rq2_2
   refine qX (a2 hg (w3 r2 k2a k2b)) ?_
   rcases Bool.eq_false_or_eq_true (decide ((peekT toks sq2.pos).kind = 103)) with hd5 | hd5
   ·-- case
    rw [ifT hd5] at hm
    refine qT 1 (a3 hg hd5 (w3 r2 k2a k2b)) ?_
    refine qP (a3 hg hd5 (w3 r2 k2a k2b)) zgo109 (atIdent_c (by first | exact rq2_2 | exact qq2_2 _) hl pq2_2.pos) ?_
    refine qU 2 (a3 hg hd5 (w3 r2 k2a k2b)) ?_
    obtain ⟨sq3, e3, hm⟩ := oB hm
    refine qA (a3 hg hd5 (w3 r2 k2a k2b)) zgo57 ((by first | exact look_c0 e3 pq2_2 | exact look_c e3 pq2_2 _)) ?_
    rintro _ H3 ⟨iq3, Fq3, rfl, pq3_3, g3⟩
    obtain ⟨F3, nf3, p3, f3⟩ := (by first | exact look_keep0 p2 f2 g3 | exact look_keep p2 f2 g3)
    obtain ⟨st3, r3⟩ := p3.row
    have q3 := getL r3
    obtain ⟨k3a, n3a⟩ := (by first | exact look_get g3 k2a n2a nf3 | exact look_get g3 (b2a _) n2a nf3)
    have b3a := getL k3a
    obtain ⟨k3b, n3b⟩ := (by first | exact look_get g3 k2b n2b nf3 | exact look_get g3 (b2b _) n2b nf3)
    have b3b := getL k3b
    have pq2_3 := (by first | exact look_keepq0 pq2_2 g3 | exact look_keepq pq2_2 g3)
    obtain ⟨stq2_3, rq2_3⟩ := pq2_3.row
    have qq2_3 := getL rq2_3
    obtain ⟨stq3_3, rq3_3⟩ := pq3_3.row
    have qq3_3 := getL rq3_3
    refine qU 1 (a5 y9 y72 hg hd5 (w3 r3 k3a k3b)) ?_
    refine qP (a3 hg hd5 (w3 r3 k3a k3b)) zgo56 (at_c (by first | exact rq3_3 | exact qq3_3 _) hl pq3_3.pos [[40]] (by decide)) ?_
    refine qX (a3 hg hd5 (w3 r3 k3a k3b)) ?_
    refine qI (a3 hg hd5 (w3 r3 k3a k3b)) (fun bt22 => ?_) (fun bt22 => ?_)
    ·-- if t22
     rw [ifT bt22] at hm
     refine qL [0, 1] (a3 hg hd5 (w3 r3 k3a k3b)) ?_
     refine qT 2 (a4 y57 hg hd5 (w3 r3 k3a k3b)) ?_
     obtain ⟨s4, e4, hm⟩ := oB hm
     refine qN (a3 hg hd5 (w3 r3 k3a k3b)) (FC.apX (wrap_c toks ip 31 161 [] [.optr (H0.length) 0] zgo161 (stbL [(0, gO), (H0.length, .row [.optr ip 0])]) (m191_w (n := n) IH (H0.length) )) e4 p3 ⟨⟨k3a, n3a⟩, ⟨k3b, n3b⟩, trivial⟩) ?_
     rintro _ H4 ⟨rfl, F4, p4, g4⟩
     obtain ⟨f4, ⟨st4, r4⟩, ⟨k4a, n4a⟩, ⟨k4b, n4b⟩⟩ := nx2 f3 p4 g4 k3a n3a k3b n3b
     repeat refine wS ?_
     refine awp_exit ?_
     simp only [thenQ, blockQ, reduceIte, Nat.reduceEqDiff, Nat.succ_ne_self, if_true, if_false]
     try simp only [thenQ, blockQ]
     injection hm with hm
     subst hm
     exact ⟨(k1, _, F4), Nat.lt_succ_self _, ⟨rfl, rfl, trivial⟩, hk1, p4, f4, ⟨k4a, n4a⟩, ⟨k4b, n4b⟩⟩
    ·-- else t22
     rw [ifF bt22] at hm
     refine qK ?_
     refine qL [0, 1] (a3 hg hd5 (w3 r3 k3a k3b)) ?_
     refine qT 2 (a4 y57 hg hd5 (w3 r3 k3a k3b)) ?_
     obtain ⟨s4, e4, hm⟩ := oB hm
     refine qN (a3 hg hd5 (w3 r3 k3a k3b)) (FC.apX (wrap_c toks ip 32 162 [] [.optr (H0.length) 0] zgo162 (stbL [(0, gO), (H0.length, .row [.optr ip 0])]) (m192_w (n := n) IH (H0.length) )) e4 p3 ⟨⟨k3a, n3a⟩, ⟨k3b, n3b⟩, trivial⟩) ?_
     rintro _ H4 ⟨rfl, F4, p4, g4⟩
     obtain ⟨f4, ⟨st4, r4⟩, ⟨k4a, n4a⟩, ⟨k4b, n4b⟩⟩ := nx2 f3 p4 g4 k3a n3a k3b n3b
     try simp only [thenQ, blockQ]
     injection hm with hm
     subst hm
     exact ⟨(k1, _, F4), Nat.lt_succ_self _, ⟨rfl, rfl, trivial⟩, hk1, p4, f4, ⟨k4a, n4a⟩, ⟨k4b, n4b⟩⟩
   ·-- case
    rw [ifF hd5] at hm
    refine qT 1 (a3 hg hd5 (w3 r2 k2a k2b)) ?_
    refine qP (a3 hg hd5 (w3 r2 k2a k2b)) zgo109 (atIdent_c (by first | exact rq2_2 | exact qq2_2 _) hl pq2_2.pos) ?_
    refine qX (a5 y9 y72 hg hd5 (w3 r2 k2a k2b)) ?_
    refine qF (a3 hg hd5 (w3 r2 k2a k2b)) ?_
    refine qK ?_
    refine qL [0, 1] (a3 hg hd5 (w3 r2 k2a k2b)) ?_
    refine qT 2 (a4 y57 hg hd5 (w3 r2 k2a k2b)) ?_
    obtain ⟨s3, e3, hm⟩ := oB hm
    refine qN (a3 hg hd5 (w3 r2 k2a k2b)) (FC.apX (wrap_c toks ip 32 162 [] [.optr (H0.length) 0] zgo162 (stbL [(0, gO), (H0.length, .row [.optr ip 0])]) (m192_w (n := n) IH (H0.length) )) e3 p2 ⟨⟨k2a, n2a⟩, ⟨k2b, n2b⟩, trivial⟩) ?_
    rintro _ H3 ⟨rfl, F3, p3, g3⟩
    obtain ⟨f3, ⟨st3, r3⟩, ⟨k3a, n3a⟩, ⟨k3b, n3b⟩⟩ := nx2 f2 p3 g3 k2a n2a k2b n2b
    have q3 := getL r3
    have b3a := getL k3a
    have b3b := getL k3b
    try simp only [thenQ, blockQ]
    injection hm with hm
    subst hm
    exact ⟨(k1, _, F3), Nat.lt_succ_self _, ⟨rfl, rfl, trivial⟩, hk1, p3, f3, ⟨k3a, n3a⟩, ⟨k3b, n3b⟩⟩
 ·-- else t5
  unfold loopM at hk1
  rw [ifF bt5] at hk1
  injection hk1 with hk1
  subst hk1
  have hm := hmo1
  repeat refine wS ?_
  refine awp_exit ?_
  simp only [thenQ, blockQ, reduceIte, Nat.reduceEqDiff, Nat.succ_ne_self, if_true, if_false]
  refine enX ?_
  injection hm with hm
  subst hm
  exact finX p1 f1
end Go.Abs
namespace Go.Abs
open Go.Proofs
def m157 (toks : List Tk) (n : Nat) (R : Rec) (l : Nat) (s0 : PS) : Option PS := if l < 5 then ((bumpM toks) s0).bind fun s1 => ((R (.binary (l + 1))) s1).bind fun s2 => some s2 else none
theorem m157_w {toks : List Tk} {ip n : Nat} {R : Rec} (IH : IHs toks ip R) (b0 b1 : Nat) (l : Nat) : FC Tryz.prog toks ip 138 [.optr b0 0, .optr b1 0] (m157 toks n R l) unitR (EnvL [(0, gO), (b0, .row [.optr ip 0]), (b1, .row [.int .i64 ((l : Nat) : Int)])]) := by
 refine fc_of fun s0 s' F0 H0 hm p0 i0 => ?_
 obtain ⟨⟨k0a, n0a⟩, ⟨k0b, n0b⟩, ⟨k0c, n0c⟩, _⟩ := i0
 obtain ⟨st0, r0⟩ := p0.row
 have hl := lim_le p0.len
 have f0 := Fr.refl F0 H0
 unfold m157 at hm
 split at hm
 case isFalse => cases hm
 rename_i hl5
 have gw : IntKind.i64.wrap (((l : Nat) : Int) + 1) = ((l + 1 : Nat) : Int) := by rw [wrap_id (by omega) (by omega)]; omega
 refine aF (N := 8) Tryz.func138 rfl rfl (by simp) fun hb' => ?_
 refine qT 1 (a3 y57 gw (w4 r0 k0a k0b k0c)) ?_
 obtain ⟨s1, e1, hm⟩ := oB hm
 refine qN (a2 gw (w4 r0 k0a k0b k0c)) (FN.apX (bump_c toks ip) e1 p0) ?_
 rintro _ H1 ⟨rfl, F1, p1, g1⟩
 obtain ⟨f1, ⟨st1, r1⟩, ⟨k1a, n1a⟩, ⟨k1b, n1b⟩, ⟨k1c, n1c⟩⟩ := nx3 f0 p1 g1 k0a n0a k0b n0b k0c n0c
 refine qT 3 (a4 y3 y57 gw (w4 r1 k1a k1b k1c)) ?_
 obtain ⟨s2, e2, hm⟩ := oB hm
 refine qN (a2 gw (w4 r1 k1a k1b k1c)) (FG.apX (IH (.binary (l + 1))) e2 p1 ⟨k1a, n1a⟩) ?_
 rintro _ H2 ⟨rfl, F2, p2, g2⟩
 obtain ⟨f2, ⟨st2, r2⟩, ⟨k2a, n2a⟩, ⟨k2b, n2b⟩, ⟨k2c, n2c⟩⟩ := nx3 f1 p2 g2 k1a n1a k1b n1b k1c n1c
 refine enX ?_
 injection hm with hm
 subst hm
 exact finX p2 f2
def m135 (toks : List Tk) (n : Nat) (R : Rec) (l : Nat) (s0 : PS) : Option PS := if l = 5 then ((R .unary) s0).bind fun s1 => some s1 else if l < 5 then ((R (.binary (l + 1))) s0).bind fun s1 => if l = 2 then (if atT (peekT toks s1.pos) (opsL l) = true then ((wrapM 39 (m157 toks n R (l))) s1).bind fun s3 => some s3 else some s1) else loopM (fun s2 => atT (peekT toks s2.pos) (opsL l)) (fun s2 => ((wrapM 39 (m157 toks n R (l))) s2).bind fun s3 => some s3) n s1 else none
theorem m135_w {toks : List Tk} {ip n : Nat} {R : Rec} (IH : IHs toks ip R) (l : Nat) : FG toks ip 120 [.optr ip 0, .int .i64 ((l : Nat) : Int)] (m135 toks n R l) (frv (.binary l)) := by
 intro s0 s' F0 H0 hm p0 i0
 obtain ⟨⟨hg, n0a⟩, _⟩ := i0
 obtain ⟨st0, r0⟩ := p0.row
 have q0 := getL r0
 have hl := lim_le p0.len
 have f0 := Fr.refl F0 H0
 have k0a := getL hg [.row [.optr ip 0], .row [.int .i64 ((l : Nat) : Int)]]
 have b0a := getL k0a
 have k0b : (H0 ++ [.row [.optr ip 0], .row [.int .i64 ((l : Nat) : Int)]])[H0.length]? = some (.row [.optr ip 0]) := by simp
 have n0b := p0.new0
 have b0b := getL k0b
 have k0c : (H0 ++ [.row [.optr ip 0], .row [.int .i64 ((l : Nat) : Int)]])[H0.length + 1]? = some (.row [.int .i64 ((l : Nat) : Int)]) := by simp
 have n0c := p0.new 1
 have b0c := getL k0c
 unfold m135 at hm
 have hcs : l = 5 ∨ (l ≠ 5 ∧ l < 5) := by
  by_cases h1 : l = 5
  ·exact .inl h1
  by_cases h2 : l < 5
  ·exact .inr ⟨h1, h2⟩
  rw [if_neg h1, if_neg h2] at hm; cases hm
 refine aF (N := 21) Tryz.func120 rfl rfl (by simp) fun hb' => ?_
 refine qE (a5 y3 y57 r0 q0 hg) ?_
 rcases hcs with h5 | ⟨h5, hlv⟩
 ·-- case
  rw [if_pos h5] at hm
  have g5 : decide (((l : Nat) : Int) = 5) = true := decide_eq_true (by omega)
  refine qE (a5 y3 r0 q0 hg g5) ?_
  repeat refine wS ?_
  refine awp_cond_true rfl (by simp only [jN, seval, vint, qC, r0, q0, hg, g5] <;> with_reducible rfl) ?_
  refine qT 1 (a5 y57 r0 q0 hg g5) ?_
  obtain ⟨s1, e1, hm⟩ := oB hm
  refine oC (by simp only [kC, seval, vint, qC, r0, q0, hg, g5] <;> with_reducible rfl) (by simp only [kC, seval, vint, qC, r0, q0, hg, g5]) (by decide) zgo135 ((by first | exact FG.ap0 (IH .unary) e1 p0 ⟨k0a, n0a⟩ | exact FG.ap' (IH .unary) e1 p0 ⟨k0a, n0a⟩ | exact FG.ap (IH .unary) e1 p0 ⟨k0a, n0a⟩)) ?_
  rintro _ H1 ⟨rfl, F1, p1, g1⟩
  have f1 := f0.stX g1
  obtain ⟨st1, r1⟩ := p1.row
  have q1 := getL r1
  obtain ⟨k1a, n1a⟩ := g1.gtX k0a n0a
  have b1a := getL k1a
  obtain ⟨k1b, n1b⟩ := g1.gtX k0b n0b
  have b1b := getL k1b
  obtain ⟨k1c, n1c⟩ := g1.gtX k0c n0c
  have b1c := getL k1c
  refine oN ?_
  repeat refine wS ?_
  refine wT ⟨.inr rfl, _, rfl, ?_⟩
  injection hm with hm
  subst hm
  exact finX p1 f1
 ·-- case
  rw [if_neg h5, if_pos hlv] at hm
  have g5 : decide (((l : Nat) : Int) = 5) = false := decide_eq_false (by omega)
  have gw : IntKind.i64.wrap (((l : Nat) : Int) + 1) = ((l + 1 : Nat) : Int) := by rw [wrap_id (by omega) (by omega)]; omega
  refine qE (a5 y3 r0 q0 hg (a2 g5 gw)) ?_
  refine qF (a5 r0 q0 hg g5 gw) ?_
  refine qK ?_
  refine qT 3 (a5 y3 y57 r0 q0 (a3 hg g5 gw)) ?_
  obtain ⟨s1, e1, hm⟩ := oB hm
  refine oC (by simp only [kC, seval, vint, qC, r0, q0, hg, g5, gw] <;> with_reducible rfl) (by simp only [kC, seval, vint, qC, r0, q0, hg, g5, gw]) (by decide) zgo120 ((by first | exact FG.ap0 (IH (.binary (l + 1))) e1 p0 ⟨k0a, n0a⟩ | exact FG.ap' (IH (.binary (l + 1))) e1 p0 ⟨k0a, n0a⟩ | exact FG.ap (IH (.binary (l + 1))) e1 p0 ⟨k0a, n0a⟩)) ?_
  rintro _ H1 ⟨rfl, F1, p1, g1⟩
  have f1 := f0.stX g1
  obtain ⟨st1, r1⟩ := p1.row
  have q1 := getL r1
  obtain ⟨k1a, n1a⟩ := g1.gtX k0a n0a
  have b1a := getL k1a
  obtain ⟨k1b, n1b⟩ := g1.gtX k0b n0b
  have b1b := getL k1b
  obtain ⟨k1c, n1c⟩ := g1.gtX k0c n0c
  have b1c := getL k1c
  refine oN ?_
  repeat refine wS ?_
  have hL : (l = 2 ∧ (if atT (peekT toks s1.pos) (opsL l) = true then ((wrapM 39 (m157 toks n R (l))) s1).bind fun s3 => some s3 else some s1) = some s') ∨ (l ≠ 2 ∧ loopM (fun s2 => atT (peekT toks s2.pos) (opsL l)) (fun s2 => ((wrapM 39 (m157 toks n R (l))) s2).bind fun s3 => some s3) n s1 = some s') := by
   by_cases h2 : l = 2
   ·rw [if_pos h2] at hm; exact .inl ⟨h2, hm⟩
   ·rw [if_neg h2] at hm; exact .inr ⟨h2, hm⟩
  refine awp_block ?_
  refine awp_loopX (σ := Nat × PS × List Nat) (fun (z : Nat × PS × List Nat) => [(2, .optr H0.length 0), (3, .optr (H0.length + 1) 0)]) (fun (z : Nat × PS × List Nat) =>  fun H2 => ((l = 2 ∧ (if atT (peekT toks z.2.1.pos) (opsL l) = true then ((wrapM 39 (m157 toks n R (l))) z.2.1).bind fun s3 => some s3 else some z.2.1) = some s') ∨ (l ≠ 2 ∧ loopM (fun s2 => atT (peekT toks s2.pos) (opsL l)) (fun s2 => ((wrapM 39 (m157 toks n R (l))) s2).bind fun s3 => some s3) z.1 z.2.1 = some s')) ∧ PSt toks ip z.2.1 z.2.2 H2 ∧ Fr F0 z.2.2 H0 H2 ∧ (H2[0]? = some (gO) ∧ (0) ∉ z.2.2) ∧ (H2[H0.length]? = some (.row [.optr ip 0]) ∧ (H0.length) ∉ z.2.2) ∧ (H2[H0.length + 1]? = some (.row [.int .i64 ((l : Nat) : Int)]) ∧ (H0.length + 1) ∉ z.2.2)) (fun (z : Nat × PS × List Nat) => z.1) ((n, s1, F1)) ⟨(by first | rfl | (simp only [jN, seval, vint, qC, hg, g5, gw, r1, q1, k1a, b1a, k1b, b1b, k1c, b1c] <;> first | done | with_reducible rfl)), (by first | rfl | (simp only [jN, seval, vint, qC, hg, g5, gw, r1, q1, k1a, b1a, k1b, b1b, k1c, b1c] <;> first | done | with_reducible rfl)), trivial⟩ (⟨hL, (by first | exact p1 | exact p1.app _), (by first | exact f1 | exact f1.app _), ⟨(by first | exact k1a | exact b1a _), n1a⟩, ⟨(by first | exact k1b | exact b1b _), n1b⟩, ⟨(by first | exact k1c | exact b1c _), n1c⟩⟩) ?_
  intro z H2 hg
  obtain ⟨k2, s2, F2⟩ := z
  obtain ⟨hk2, p2, f2, ⟨k2a, n2a⟩, ⟨k2b, n2b⟩, ⟨k2c, n2c⟩⟩ := hg
  simp only at hk2 p2 f2 k2a n2a k2b n2b k2c n2c
  obtain ⟨st2, r2⟩ := p2.row
  have q2 := getL r2
  have b2a := getL k2a
  have b2b := getL k2b
  have b2c := getL k2c
  rcases hk2 with ⟨h2, hm⟩ | ⟨h2, hk2⟩
  ·-- case
   have g2 : decide (((l : Nat) : Int) = 2) = true := decide_eq_true (by omega)
   repeat refine wS ?_
   refine dp_draw (by kernel_rfl) ?_
   refine pT 2 (a5 y3 y57 hg g5 (a5 gw r2 q2 k2a (a5 b2a k2b b2b k2c (a2 b2c g2)))) ?_
   refine pK (a5 hg g5 gw r2 (a5 q2 k2a b2a k2b (a4 b2b k2c b2c g2))) zgo136 (fun hc => binops_c l hlv) ?_
   refine pK (a5 hg g5 gw r2 (a5 q2 k2a b2a k2b (a4 b2b k2c b2c g2))) zgo56 (fun hc => at_c (gtH r2) hl p2.pos (opsL l) (opsL_le _)) ?_
   refine pX (a5 hg g5 gw r2 (a5 q2 k2a b2a k2b (a4 b2b k2c b2c g2))) ?_
   refine qI (a5 hg g5 gw r2 (a5 q2 k2a b2a k2b (a4 b2b k2c b2c g2))) (fun bt15 => ?_) (fun bt15 => ?_)
   ·-- if t15
    rw [ifT bt15] at hm
    refine qK ?_
    refine qB ?_
    refine qT 2 (a5 y57 hg g5 gw (a5 r2 q2 k2a b2a (a5 k2b b2b k2c b2c g2))) ?_
    obtain ⟨s3, e3, hm⟩ := oB hm
    refine qN (a5 hg g5 gw g2 (w4 r2 k2a k2b k2c)) (FC.apX (wrap_c toks ip 39 138 [] [.optr (H0.length) 0, .optr (H0.length + 1) 0] zgo138 (stbL [(0, gO), (H0.length, .row [.optr ip 0]), (H0.length + 1, .row [.int .i64 ((l : Nat) : Int)])]) (m157_w (n := n) IH (H0.length) (H0.length + 1) (l))) e3 p2 ⟨⟨k2a, n2a⟩, ⟨k2b, n2b⟩, ⟨k2c, n2c⟩, trivial⟩) ?_
    rintro _ H3 ⟨rfl, F3, p3, g3⟩
    have f3 := f2.stX g3
    obtain ⟨st3, r3⟩ := p3.row
    have q3 := getL r3
    obtain ⟨k3a, n3a⟩ := g3.gtX k2a n2a
    have b3a := getL k3a
    obtain ⟨k3b, n3b⟩ := g3.gtX k2b n2b
    have b3b := getL k3b
    obtain ⟨k3c, n3c⟩ := g3.gtX k2c n2c
    have b3c := getL k3c
    refine qE (a5 y3 hg g5 gw (a5 g2 r3 q3 k3a (a5 b3a k3b b3b k3c b3c))) ?_
    repeat refine wS ?_
    refine awp_cond_true rfl (by simp only [jN, seval, vint, qC, hg, g5, gw, g2, r3, q3, k3a, b3a, k3b, b3b, k3c, b3c] <;> with_reducible rfl) ?_
    repeat refine wS ?_
    refine wT ⟨.inr rfl, _, rfl, ?_⟩
    injection hm with hm
    subst hm
    exact finX p3 f3
   ·-- else t15
    rw [ifF bt15] at hm
    repeat refine wS ?_
    refine awp_exit ?_
    simp only [thenQ, blockQ, reduceIte, Nat.reduceEqDiff, Nat.succ_ne_self, if_true, if_false]
    refine enX ?_
    injection hm with hm
    subst hm
    exact finX p2 f2
  ·-- case
   have g2 : decide (((l : Nat) : Int) = 2) = false := decide_eq_false (by omega)
   cases k2 with
   | zero => cases hk2
   | succ k2 => ?_
   unfold loopM at hk2
   repeat refine wS ?_
   refine dp_draw (by kernel_rfl) ?_
   refine pT 2 (a5 y3 y57 hg g5 (a5 gw r2 q2 k2a (a5 b2a k2b b2b k2c (a2 b2c g2)))) ?_
   refine pK (a5 hg g5 gw r2 (a5 q2 k2a b2a k2b (a4 b2b k2c b2c g2))) zgo136 (fun hc => binops_c l hlv) ?_
   refine pK (a5 hg g5 gw r2 (a5 q2 k2a b2a k2b (a4 b2b k2c b2c g2))) zgo56 (fun hc => at_c (gtH r2) hl p2.pos (opsL l) (opsL_le _)) ?_
   refine pX (a5 hg g5 gw r2 (a5 q2 k2a b2a k2b (a4 b2b k2c b2c g2))) ?_
   refine qI (a5 hg g5 gw r2 (a5 q2 k2a b2a k2b (a4 b2b k2c b2c g2))) (fun bt15 => ?_) (fun bt15 => ?_)
   ·-- if t15
    rw [ifT bt15] at hk2
    obtain ⟨sB, hm, hk2⟩ := oB hk2
    refine qK ?_
    refine qB ?_
    refine qT 2 (a5 y57 hg g5 gw (a5 r2 q2 k2a b2a (a5 k2b b2b k2c b2c g2))) ?_
    obtain ⟨s3, e3, hm⟩ := oB hm
    refine qN (a5 hg g5 gw g2 (w4 r2 k2a k2b k2c)) (FC.apX (wrap_c toks ip 39 138 [] [.optr (H0.length) 0, .optr (H0.length + 1) 0] zgo138 (stbL [(0, gO), (H0.length, .row [.optr ip 0]), (H0.length + 1, .row [.int .i64 ((l : Nat) : Int)])]) (m157_w (n := n) IH (H0.length) (H0.length + 1) (l))) e3 p2 ⟨⟨k2a, n2a⟩, ⟨k2b, n2b⟩, ⟨k2c, n2c⟩, trivial⟩) ?_
    rintro _ H3 ⟨rfl, F3, p3, g3⟩
    have f3 := f2.stX g3
    obtain ⟨st3, r3⟩ := p3.row
    have q3 := getL r3
    obtain ⟨k3a, n3a⟩ := g3.gtX k2a n2a
    have b3a := getL k3a
    obtain ⟨k3b, n3b⟩ := g3.gtX k2b n2b
    have b3b := getL k3b
    obtain ⟨k3c, n3c⟩ := g3.gtX k2c n2c
    have b3c := getL k3c
    refine qE (a5 y3 hg g5 gw (a5 g2 r3 q3 k3a (a5 b3a k3b b3b k3c b3c))) ?_
    refine qF (a5 hg g5 gw g2 (a5 r3 q3 k3a b3a (a4 k3b b3b k3c b3c))) ?_
    refine qK ?_
    try simp only [thenQ, blockQ]
    injection hm with hm
    subst hm
    exact ⟨(k2, _, F3), Nat.lt_succ_self _, ⟨rfl, rfl, trivial⟩, .inr ⟨h2, hk2⟩, p3, f3, ⟨k3a, n3a⟩, ⟨k3b, n3b⟩, ⟨k3c, n3c⟩⟩
   ·-- else t15
    rw [ifF bt15] at hk2
    have hm := hk2
    repeat refine wS ?_
    refine awp_exit ?_
    simp only [thenQ, blockQ, reduceIte, Nat.reduceEqDiff, Nat.succ_ne_self, if_true, if_false]
    refine enX ?_
    injection hm with hm
    subst hm
    exact finX p2 f2
end Go.Abs
namespace Go.Abs
theorem frv_st (a b : PS) : frv .statement a b = .bool b.flag := rfl
def dropM (s : PS) : Option PS := match s.stack with
 | [] => none
 | f :: fs => match f.kids.getLast? with
  | none => none
  | some _ => some { s with stack := ⟨f.kind, f.kids.dropLast⟩ :: fs }
theorem dropM_inv {s s1 : PS} (h : dropM s = some s1) : ∃ (f : Frm) (gs : List Frm) (ks : List St) (x : St), s.stack = f :: gs ∧ f.kids = ks ++ [x] ∧ s1 = ⟨s.pos, ⟨f.kind, ks⟩ :: gs, s.flag⟩ := by
 unfold dropM at h
 split at h
 ·cases h
 ·rename_i f gs hs
  split at h
  ·cases h
  ·rename_i x hx
   cases h
   have hne : f.kids ≠ [] := by intro e; rw [e] at hx; cases hx
   refine ⟨f, gs, f.kids.dropLast, x, hs, ?_, rfl⟩
   rw [List.getLast?_eq_some_getLast hne] at hx
   injection hx with hx
   rw [← hx]; exact (List.dropLast_concat_getLast hne).symm
section
variable {P : Program} {toks : List Tk} {ip : Nat} {f : FuncId} {args : List PV} {m : PS → Option PS} {rv : PS → PS → PV} {I : PS → List Nat → Heap → Prop} {s s' : PS} {F : List Nat} {H : Heap}
end
def implM : PS → Option PS := fun _ => none
theorem fg_none {toks : List Tk} {ip : Nat} {f : FuncId} {args : List PV} {rv : PS → PS → PV} : FG toks ip f args implM rv := FG.none fun _ => rfl
end Go.Abs
namespace Go.Abs
open Go.Proofs
def m146 (toks : List Tk) (n : Nat) (R : Rec) (s0 : PS) : Option PS := ((expectM toks [123]) s0).bind fun s1 => (loopM (fun s2 => (((!s2.flag && !atT (peekT toks s2.pos) [[125]]) && !decide ((peekT toks s2.pos).kind = 100)) && !atT (peekT toks s2.pos) kwsL)) (fun s2 => ((R .statement) s2).bind fun s3 => some s3) n ({ s1 with flag := false })).bind fun s2 => if (!s2.flag) = true then (((missM 0) s2).bind fun s3 => ((expectM toks [125]) s3).bind fun s4 => some s4) else (((expectM toks [125]) s2).bind fun s3 => some s3)
theorem m146_w {toks : List Tk} {ip n : Nat} {R : Rec} (IH : IHs toks ip R) (b0 : Nat) : FC Tryz.prog toks ip 127 [.optr b0 0] (m146 toks n R ) unitR (EnvL [(0, gO), (b0, .row [.optr ip 0])]) := by
 refine fc_of fun s0 s' F0 H0 hm p0 i0 => ?_
 obtain ⟨⟨k0a, n0a⟩, ⟨k0b, n0b⟩, _⟩ := i0
 obtain ⟨st0, r0⟩ := p0.row
 have hl := lim_le p0.len
 have f0 := Fr.refl F0 H0
 unfold m146 at hm
 refine aF (N := 31) Tryz.func127 rfl rfl (by simp) fun hb' => ?_
 refine qT 1 (a3 y57 frv_st (w3 r0 k0a k0b)) ?_
 obtain ⟨s1, e1, hm⟩ := oB hm
 refine qN (a2 frv_st (w3 r0 k0a k0b)) (FN.apX (expect_c toks ip [123]) e1 p0) ?_
 rintro _ H1 ⟨rfl, F1, p1, g1⟩
 obtain ⟨f1, ⟨st1, r1⟩, ⟨k1a, n1a⟩, ⟨k1b, n1b⟩⟩ := nx2 f0 p1 g1 k0a n0a k0b n0b
 have q1 := getL r1
 have b1a := getL k1a
 have b1b := getL k1b
 refine qE (a2 frv_st (w3 r1 k1a k1b)) ?_
 repeat refine wS ?_
 obtain ⟨sL2, eL2, hm⟩ := oB hm
 have hmo2 := hm
 clear hm
 refine awp_block ?_
 refine awp_loopX (σ := Nat × PS × List Nat) (fun (z : Nat × PS × List Nat) => [(0, .optr (b0) 0), (1, .bool z.2.1.flag), (2, .optr ip 0)]) (fun (z : Nat × PS × List Nat) =>  fun H2 => loopM (fun s2 => (((!s2.flag && !atT (peekT toks s2.pos) [[125]]) && !decide ((peekT toks s2.pos).kind = 100)) && !atT (peekT toks s2.pos) kwsL)) (fun s2 => ((R .statement) s2).bind fun s3 => some s3) z.1 z.2.1 = some sL2 ∧ PSt toks ip z.2.1 z.2.2 H2 ∧ Fr F0 z.2.2 H0 H2 ∧ (H2[0]? = some (gO) ∧ (0) ∉ z.2.2) ∧ (H2[b0]? = some (.row [.optr ip 0]) ∧ (b0) ∉ z.2.2)) (fun (z : Nat × PS × List Nat) => z.1) ((n, { s1 with flag := false }, F1)) ⟨(by first | rfl | (simp only [jN, seval, vint, qC, frv_st, r1, q1, k1a, b1a, k1b, b1b] <;> first | done | with_reducible rfl)), (by first | rfl | (simp only [jN, seval, vint, qC, frv_st, r1, q1, k1a, b1a, k1b, b1b] <;> first | done | with_reducible rfl)), (by first | rfl | (simp only [jN, seval, vint, qC, frv_st, r1, q1, k1a, b1a, k1b, b1b] <;> first | done | with_reducible rfl)), trivial⟩ (⟨eL2, (by first | exact p1 | exact p1.app _ | exact p1.flg false), (by first | exact f1 | exact f1.app _), ⟨(by first | exact k1a | exact b1a _), n1a⟩, ⟨(by first | exact k1b | exact b1b _), n1b⟩⟩) ?_
 intro z H2 hg
 obtain ⟨k2, s2, F2⟩ := z
 obtain ⟨hk2, p2, f2, ⟨k2a, n2a⟩, ⟨k2b, n2b⟩⟩ := hg
 simp only at hk2 p2 f2 k2a n2a k2b n2b
 obtain ⟨st2, r2⟩ := p2.row
 have b2a := getL k2a
 cases k2 with
 | zero => cases hk2
 | succ k2 => ?_
 repeat refine wS ?_
 refine dp_draw (by kernel_rfl) ?_
 refine pT 5 (a5 y9 y57 y72 frv_st (w3 r2 k2a k2b)) ?_
 refine pK (a2 frv_st (w3 r2 k2a k2b)) zgo56 (fun hc => at_c (gtH r2) hl p2.pos [[125]] (by decide)) ?_
 refine pT 4 (a3 y57 frv_st (w3 r2 k2a k2b)) ?_
 refine pK (a2 frv_st (w3 r2 k2a k2b)) zgo23 (fun hc => atEOF_c (gtH r2) hl p2.pos) ?_
 refine pT 4 (a3 y57 frv_st (w3 r2 k2a k2b)) ?_
 refine pK (a2 frv_st (w3 r2 k2a k2b)) zgo84 (fun hc => itemKeywords_c (by first | exact k2a | exact b2a _)) ?_
 refine pK (a2 frv_st (w3 r2 k2a k2b)) zgo56 (fun hc => at_c (gtH r2) hl p2.pos (kwsL) (by decide)) ?_
 refine pX (a2 frv_st (w3 r2 k2a k2b)) ?_
 refine qI (a2 frv_st (w3 r2 k2a k2b)) (fun bt22 => ?_) (fun bt22 => ?_)
 ·-- if t22
  unfold loopM at hk2
  rw [ifT bt22] at hk2
  obtain ⟨sB2, hm, hk2⟩ := oB hk2
  refine qK ?_
  refine qB ?_
  refine qL [0, 1, 2] (a2 frv_st (w3 r2 k2a k2b)) ?_
  refine qT 1 (a3 y57 frv_st (w3 r2 k2a k2b)) ?_
  obtain ⟨s3, e3, hm⟩ := oB hm
  refine qA (a2 frv_st (w3 r2 k2a k2b)) zgo128 (FG.apX (IH .statement) e3 p2 ⟨k2a, n2a⟩) ?_
  rintro _ H3 ⟨rfl, F3, p3, g3⟩
  obtain ⟨f3, ⟨st3, r3⟩, ⟨k3a, n3a⟩, ⟨k3b, n3b⟩⟩ := nx2 f2 p3 g3 k2a n2a k2b n2b
  refine qX (a2 frv_st (w3 r3 k3a k3b)) ?_
  try simp only [thenQ, blockQ]
  injection hm with hm
  subst hm
  exact ⟨(k2, _, F3), Nat.lt_succ_self _, ⟨rfl, rfl, rfl, trivial⟩, hk2, p3, f3, ⟨k3a, n3a⟩, ⟨k3b, n3b⟩⟩
 ·-- else t22
  unfold loopM at hk2
  rw [ifF bt22] at hk2
  injection hk2 with hk2
  subst hk2
  have hm := hmo2
  repeat refine wS ?_
  refine awp_exit ?_
  simp only [thenQ, blockQ, reduceIte, Nat.reduceEqDiff, Nat.succ_ne_self, if_true, if_false]
  refine qL [0, 1, 2] (a2 frv_st (w3 r2 k2a k2b)) ?_
  refine qE (a2 frv_st (w3 r2 k2a k2b)) ?_
  refine qI (a2 frv_st (w3 r2 k2a k2b)) (fun bt26 => ?_) (fun bt26 => ?_)
  ·-- if t26
   rw [ifT bt26] at hm
   refine qT 1 (a3 y57 frv_st (w3 r2 k2a k2b)) ?_
   obtain ⟨s3, e3, hm⟩ := oB hm
   refine qN (a2 frv_st (w3 r2 k2a k2b)) (FN.apX (absent_c toks ip) e3 p2) ?_
   rintro _ H3 ⟨rfl, F3, p3, g3⟩
   obtain ⟨f3, ⟨st3, r3⟩, ⟨k3a, n3a⟩, ⟨k3b, n3b⟩⟩ := nx2 f2 p3 g3 k2a n2a k2b n2b
   refine qT 1 (a3 y57 frv_st (w3 r3 k3a k3b)) ?_
   obtain ⟨s4, e4, hm⟩ := oB hm
   refine qN (a2 frv_st (w3 r3 k3a k3b)) (FN.apX (expect_c toks ip [125]) e4 p3) ?_
   rintro _ H4 ⟨rfl, F4, p4, g4⟩
   obtain ⟨f4, ⟨st4, r4⟩, ⟨k4a, n4a⟩, ⟨k4b, n4b⟩⟩ := nx2 f3 p4 g4 k3a n3a k3b n3b
   refine enX ?_
   injection hm with hm
   subst hm
   exact finX p4 f4
  ·-- else t26
   rw [ifF bt26] at hm
   refine qK ?_
   refine qT 1 (a3 y57 frv_st (w3 r2 k2a k2b)) ?_
   obtain ⟨s3, e3, hm⟩ := oB hm
   refine qN (a2 frv_st (w3 r2 k2a k2b)) (FN.apX (expect_c toks ip [125]) e3 p2) ?_
   rintro _ H3 ⟨rfl, F3, p3, g3⟩
   obtain ⟨f3, ⟨st3, r3⟩, ⟨k3a, n3a⟩, ⟨k3b, n3b⟩⟩ := nx2 f2 p3 g3 k2a n2a k2b n2b
   refine enX ?_
   injection hm with hm
   subst hm
   exact finX p3 f3
def m121 (toks : List Tk) (n : Nat) (R : Rec) (s0 : PS) : Option PS := ((nodeM 21 (m146 toks n R )) s0).bind fun s1 => some s1
theorem m121_w {toks : List Tk} {ip n : Nat} {R : Rec} (IH : IHs toks ip R) : FG toks ip 106 [.optr ip 0] (m121 toks n R ) (frv .block) := by
 intro s0 s' F0 H0 hm p0 i0
 obtain ⟨⟨hg, n0a⟩, _⟩ := i0
 obtain ⟨st0, r0⟩ := p0.row
 have q0 := getL r0
 have hl := lim_le p0.len
 have f0 := Fr.refl F0 H0
 have k0a := getL hg [.row [.optr ip 0]]
 have b0a := getL k0a
 have k0b : (H0 ++ [.row [.optr ip 0]])[H0.length]? = some (.row [.optr ip 0]) := by simp
 have n0b := p0.new0
 have b0b := getL k0b
 unfold m121 at hm
 refine aF (N := 5) Tryz.func106 rfl rfl (by simp) fun hb' => ?_
 refine qE (a4 y57 r0 q0 hg) ?_
 refine qT 2 (a4 y57 r0 q0 hg) ?_
 obtain ⟨s1, e1, hm⟩ := oB hm
 refine qN (a2 hg (w1 r0)) (FC.apX (node_c toks ip 21 127 [] [.optr (H0.length) 0] zgo127 (stbL [(0, gO), (H0.length, .row [.optr ip 0])]) (m146_w (n := n) IH (H0.length) )) e1 p0 ⟨⟨k0a, n0a⟩, ⟨k0b, n0b⟩, trivial⟩) ?_
 rintro _ H1 ⟨rfl, F1, p1, g1⟩
 have f1 := f0.stX g1
 obtain ⟨st1, r1⟩ := p1.row
 have q1 := getL r1
 obtain ⟨k1a, n1a⟩ := g1.gtX k0a n0a
 have b1a := getL k1a
 obtain ⟨k1b, n1b⟩ := g1.gtX k0b n0b
 have b1b := getL k1b
 refine enX ?_
 injection hm with hm
 subst hm
 exact finX p1 f1
def m173 (toks : List Tk) (n : Nat) (R : Rec) (b : Bool) (s0 : PS) : Option PS := if atT (peekT toks s0.pos) [[59]] = true then (((acceptM toks [[59]]) s0).bind fun s1 => some s1) else (((acceptM toks [[59]]) s0).bind fun s1 => if (!b) = true then (((missM 108) s1).bind fun s2 => some s2) else (some s1))
theorem m173_w {toks : List Tk} {ip n : Nat} {R : Rec} (IH : IHs toks ip R) (b0 b1 : Nat) (b : Bool) : FC Tryz.prog toks ip 147 [.optr b0 0, .optr b1 0] (m173 toks n R b) unitR (EnvL [(0, gO), (b0, .row [.optr ip 0]), (b1, .row [.bool b])]) := by
 refine fc_of fun s0 s' F0 H0 hm p0 i0 => ?_
 obtain ⟨⟨k0a, n0a⟩, ⟨k0b, n0b⟩, ⟨k0c, n0c⟩, _⟩ := i0
 obtain ⟨st0, r0⟩ := p0.row
 have hl := lim_le p0.len
 have f0 := Fr.refl F0 H0
 unfold m173 at hm
 refine aF (N := 12) Tryz.func147 rfl rfl (by simp) fun hb' => ?_
 rcases Bool.eq_false_or_eq_true (atT (peekT toks s0.pos) [[59]]) with hd0 | hd0
 ·-- case
  rw [ifT hd0] at hm
  refine qT 2 (a5 y9 y57 y72 hd0 (w4 r0 k0a k0b k0c)) ?_
  obtain ⟨s1, e1, hm⟩ := oB hm
  refine qA (a2 hd0 (w4 r0 k0a k0b k0c)) zgo62 (FN.apX (accept_c toks ip [[59]] (by decide)) e1 p0) ?_
  rintro _ H1 ⟨rfl, F1, p1, g1⟩
  obtain ⟨f1, ⟨st1, r1⟩, ⟨k1a, n1a⟩, ⟨k1b, n1b⟩, ⟨k1c, n1c⟩⟩ := nx3 f0 p1 g1 k0a n0a k0b n0b k0c n0c
  refine qX (a3 y4 hd0 (w4 r1 k1a k1b k1c)) ?_
  refine qF (a2 hd0 (w4 r1 k1a k1b k1c)) ?_
  refine qK ?_
  refine enX ?_
  injection hm with hm
  subst hm
  exact finX p1 f1
 ·-- case
  rw [ifF hd0] at hm
  refine qT 2 (a5 y9 y57 y72 hd0 (w4 r0 k0a k0b k0c)) ?_
  obtain ⟨s1, e1, hm⟩ := oB hm
  refine qA (a2 hd0 (w4 r0 k0a k0b k0c)) zgo62 (FN.apX (accept_c toks ip [[59]] (by decide)) e1 p0) ?_
  rintro _ H1 ⟨rfl, F1, p1, g1⟩
  obtain ⟨f1, ⟨st1, r1⟩, ⟨k1a, n1a⟩, ⟨k1b, n1b⟩, ⟨k1c, n1c⟩⟩ := nx3 f0 p1 g1 k0a n0a k0b n0b k0c n0c
  refine qX (a3 y4 hd0 (w4 r1 k1a k1b k1c)) ?_
  refine qI (a2 hd0 (w4 r1 k1a k1b k1c)) (fun bt9 => ?_) (fun bt9 => ?_)
  ·-- if t9
   rw [ifT bt9] at hm
   refine qT 1 (a3 y57 hd0 (w4 r1 k1a k1b k1c)) ?_
   obtain ⟨s2, e2, hm⟩ := oB hm
   refine qN (a2 hd0 (w4 r1 k1a k1b k1c)) (FN.apX (missingToken_c toks ip) e2 p1) ?_
   rintro _ H2 ⟨rfl, F2, p2, g2⟩
   obtain ⟨f2, ⟨st2, r2⟩, ⟨k2a, n2a⟩, ⟨k2b, n2b⟩, ⟨k2c, n2c⟩⟩ := nx3 f1 p2 g2 k1a n1a k1b n1b k1c n1c
   refine enX ?_
   injection hm with hm
   subst hm
   exact finX p2 f2
  ·-- else t9
   rw [ifF bt9] at hm
   refine qK ?_
   refine enX ?_
   injection hm with hm
   subst hm
   exact finX p1 f1
def m147 (toks : List Tk) (n : Nat) (R : Rec) (s0 : PS) : Option PS := if atT (peekT toks s0.pos) [[108, 101, 116]] = true then (((nodeM 22 (R .letS)) s0).bind fun s1 => some { s1 with flag := false }) else (if atT (peekT toks s0.pos) [[119, 104, 105, 108, 101]] = true then (((nodeM 24 (m169 toks n R )) s0).bind fun s1 => some { s1 with flag := false }) else (if atT (peekT toks s0.pos) [[114, 101, 116, 117, 114, 110]] = true then (((nodeM 25 (R .returnStmt)) s0).bind fun s1 => some { s1 with flag := false }) else (if atT (peekT toks s0.pos) [[105, 102], [109, 97, 116, 99, 104], [123]] = true then (((R .primary) s0).bind fun s1 => if decide (((s1.pos : Nat) : Int) = ((s0.pos : Nat) : Int)) = true then ((dropM s1).bind fun s2 => ((unexpectedM toks) s2).bind fun s3 => some { s3 with flag := false }) else (if atT (peekT toks s1.pos) [[125]] = true then (some { s1 with flag := true }) else (if atT (peekT toks s1.pos) [[61]] = true then (((wrapM 23 (m172 toks n R )) s1).bind fun s2 => some { s2 with flag := false }) else (((wrapM 26 (m173 toks n R (atT (peekT toks s0.pos) [[105, 102], [109, 97, 116, 99, 104], [123]]))) s1).bind fun s2 => some { s2 with flag := false })))) else (((R .expr) s0).bind fun s1 => if decide (((s1.pos : Nat) : Int) = ((s0.pos : Nat) : Int)) = true then ((dropM s1).bind fun s2 => ((unexpectedM toks) s2).bind fun s3 => some { s3 with flag := false }) else (if atT (peekT toks s1.pos) [[125]] = true then (some { s1 with flag := true }) else (if atT (peekT toks s1.pos) [[61]] = true then (((wrapM 23 (m172 toks n R )) s1).bind fun s2 => some { s2 with flag := false }) else (((wrapM 26 (m173 toks n R (atT (peekT toks s0.pos) [[105, 102], [109, 97, 116, 99, 104], [123]]))) s1).bind fun s2 => some { s2 with flag := false })))))))
theorem m147_w {toks : List Tk} {ip n : Nat} {R : Rec} (IH : IHs toks ip R) : FG toks ip 128 [.optr ip 0] (m147 toks n R ) (frv .statement) := by
 intro s0 s' F0 H0 hm p0 i0
 obtain ⟨⟨hg, n0a⟩, _⟩ := i0
 obtain ⟨st0, r0⟩ := p0.row
 have q0 := getL r0
 have hl := lim_le p0.len
 have f0 := Fr.refl F0 H0
 have k0a := getL hg [.row [.optr ip 0], .row [.bool (atT (peekT toks s0.pos) [[105, 102], [109, 97, 116, 99, 104], [123]])]]
 have b0a := getL k0a
 have k0b : (H0 ++ [.row [.optr ip 0], .row [.bool (atT (peekT toks s0.pos) [[105, 102], [109, 97, 116, 99, 104], [123]])]])[H0.length]? = some (.row [.optr ip 0]) := by simp
 have n0b := p0.new0
 have b0b := getL k0b
 have k0c : (H0 ++ [.row [.optr ip 0], .row [.bool (atT (peekT toks s0.pos) [[105, 102], [109, 97, 116, 99, 104], [123]])]])[H0.length + 1]? = some (.row [.bool (atT (peekT toks s0.pos) [[105, 102], [109, 97, 116, 99, 104], [123]])]) := by simp
 have n0c := p0.new 1
 have b0c := getL k0c
 unfold m147 at hm
 refine aF (N := 89) Tryz.func128 rfl rfl (by simp) fun hb' => ?_
 refine qE (a5 y57 frv_st r0 q0 hg) ?_
 refine qB ?_
 refine qT 2 (a5 y9 y57 y72 frv_st (a3 r0 q0 hg)) ?_
 refine qP (a4 frv_st r0 q0 hg) zgo56 (at_c (gtH r0) hl p0.pos [[108, 101, 116]] (by decide)) ?_
 refine qX (a4 frv_st r0 q0 hg) ?_
 refine qI (a4 frv_st r0 q0 hg) (fun bt6 => ?_) (fun bt6 => ?_)
 ·-- if t6
  rw [ifT bt6] at hm
  repeat refine wS ?_
  have k0a := getL hg [.row [.optr ip 0]]
  have b0a := getL k0a
  have k0b : (H0 ++ [.row [.optr ip 0]])[H0.length]? = some (.row [.optr ip 0]) := by simp
  have b0b := getL k0b
  refine wR ?_
  refine qU 3 (a5 y57 frv_st r0 q0 hg) ?_
  obtain ⟨s1, e1, hm⟩ := oB hm
  refine qN (a3 frv_st hg (w1 r0)) (FC.apX (node_c toks ip 22 142 [.optr ip 0] [] zgo142 (stbL [(0, gO)]) (FG.fc (IH .letS))) e1 p0 ⟨⟨k0a, n0a⟩, trivial⟩) ?_
  rintro _ H1 ⟨rfl, F1, p1, g1⟩
  have f1 := f0.stX g1
  obtain ⟨st1, r1⟩ := p1.row
  have q1 := getL r1
  obtain ⟨k1a, n1a⟩ := g1.gtX k0a n0a
  have b1a := getL k1a
  obtain ⟨k1b, n1b⟩ := g1.gtX k0b n0b
  have b1b := getL k1b
  refine qE (a5 frv_st hg r1 q1 (a4 k1a b1a k1b b1b)) ?_
  repeat refine wS ?_
  refine wT ⟨.inr rfl, _, rfl, ?_⟩
  injection hm with hm
  subst hm
  exact ⟨rfl, F1, (by first | exact p1.flg _ | exact (p1.flg _).app _), (by first | exact f1 | exact f1.of_app | exact f1.app _)⟩
 ·-- else t6
  rw [ifF bt6] at hm
  refine qT 2 (a5 y9 y57 y72 frv_st (a3 r0 q0 hg)) ?_
  refine qP (a4 frv_st r0 q0 hg) zgo56 (at_c (gtH r0) hl p0.pos [[119, 104, 105, 108, 101]] (by decide)) ?_
  refine qX (a4 frv_st r0 q0 hg) ?_
  refine qI (a4 frv_st r0 q0 hg) (fun bt14 => ?_) (fun bt14 => ?_)
  ·-- if t14
   rw [ifT bt14] at hm
   repeat refine wS ?_
   have k0a := getL hg [.row [.optr ip 0]]
   have b0a := getL k0a
   have k0b : (H0 ++ [.row [.optr ip 0]])[H0.length]? = some (.row [.optr ip 0]) := by simp
   have b0b := getL k0b
   refine wR ?_
   refine qU 2 (a5 y57 frv_st r0 q0 hg) ?_
   obtain ⟨s1, e1, hm⟩ := oB hm
   refine qN (a3 frv_st hg (w1 r0)) (FC.apX (node_c toks ip 24 143 [] [.optr (H0.length) 0] zgo143 (stbL [(0, gO), (H0.length, .row [.optr ip 0])]) (m169_w (n := n) IH (H0.length) )) e1 p0 ⟨⟨k0a, n0a⟩, ⟨k0b, n0b⟩, trivial⟩) ?_
   rintro _ H1 ⟨rfl, F1, p1, g1⟩
   have f1 := f0.stX g1
   obtain ⟨st1, r1⟩ := p1.row
   have q1 := getL r1
   obtain ⟨k1a, n1a⟩ := g1.gtX k0a n0a
   have b1a := getL k1a
   obtain ⟨k1b, n1b⟩ := g1.gtX k0b n0b
   have b1b := getL k1b
   refine qE (a5 frv_st hg r1 q1 (a4 k1a b1a k1b b1b)) ?_
   repeat refine wS ?_
   refine wT ⟨.inr rfl, _, rfl, ?_⟩
   injection hm with hm
   subst hm
   exact ⟨rfl, F1, (by first | exact p1.flg _ | exact (p1.flg _).app _), (by first | exact f1 | exact f1.of_app | exact f1.app _)⟩
  ·-- else t14
   rw [ifF bt14] at hm
   refine qT 2 (a5 y9 y57 y72 frv_st (a3 r0 q0 hg)) ?_
   refine qP (a4 frv_st r0 q0 hg) zgo56 (at_c (gtH r0) hl p0.pos [[114, 101, 116, 117, 114, 110]] (by decide)) ?_
   refine qX (a4 frv_st r0 q0 hg) ?_
   refine qI (a4 frv_st r0 q0 hg) (fun bt21 => ?_) (fun bt21 => ?_)
   ·-- if t21
    rw [ifT bt21] at hm
    repeat refine wS ?_
    have k0a := getL hg [.row [.optr ip 0]]
    have b0a := getL k0a
    have k0b : (H0 ++ [.row [.optr ip 0]])[H0.length]? = some (.row [.optr ip 0]) := by simp
    have b0b := getL k0b
    refine wR ?_
    refine qU 3 (a5 y57 frv_st r0 q0 hg) ?_
    obtain ⟨s1, e1, hm⟩ := oB hm
    refine qN (a3 frv_st hg (w1 r0)) (FC.apX (node_c toks ip 25 144 [.optr ip 0] [] zgo144 (stbL [(0, gO)]) (FG.fc (IH .returnStmt))) e1 p0 ⟨⟨k0a, n0a⟩, trivial⟩) ?_
    rintro _ H1 ⟨rfl, F1, p1, g1⟩
    have f1 := f0.stX g1
    obtain ⟨st1, r1⟩ := p1.row
    have q1 := getL r1
    obtain ⟨k1a, n1a⟩ := g1.gtX k0a n0a
    have b1a := getL k1a
    obtain ⟨k1b, n1b⟩ := g1.gtX k0b n0b
    have b1b := getL k1b
    refine qL [] (a5 frv_st hg r1 q1 (a4 k1a b1a k1b b1b)) ?_
    refine qE (a5 frv_st hg r1 q1 (a4 k1a b1a k1b b1b)) ?_
    repeat refine wS ?_
    refine wT ⟨.inr rfl, _, rfl, ?_⟩
    injection hm with hm
    subst hm
    exact ⟨rfl, F1, (by first | exact p1.flg _ | exact (p1.flg _).app _), (by first | exact f1 | exact f1.of_app | exact f1.app _)⟩
   ·-- else t21
    rw [ifF bt21] at hm
    refine qK ?_
    refine qE (a5 y3 y57 y59 frv_st (a3 r0 q0 hg)) ?_
    refine qL [1, 3] (a4 frv_st r0 q0 hg) ?_
    refine qT 2 (a5 y9 y57 y72 frv_st (a3 r0 q0 hg)) ?_
    refine qP (a4 frv_st r0 q0 hg) zgo56 (at_c (gtH r0) hl p0.pos [[105, 102], [109, 97, 116, 99, 104], [123]] (by decide)) ?_
    refine qX (a5 y4 frv_st r0 q0 hg) ?_
    refine qE (a5 y4 frv_st r0 q0 hg) ?_
    refine qI (a4 frv_st r0 q0 hg) (fun bt36 => ?_) (fun bt36 => ?_)
    ·-- if t36
     rw [ifT bt36] at hm
     refine qT 1 (a5 y57 frv_st r0 q0 hg) ?_
     obtain ⟨s1, e1, hm⟩ := oB hm
     refine oC (by simp only [kC, seval, vint, qC, frv_st, r0, q0, hg] <;> with_reducible rfl) (by simp only [kC, seval, vint, qC, frv_st, r0, q0, hg]) (by decide) zgo145 ((by first | exact FG.ap0 (IH .primary) e1 p0 ⟨k0a, n0a⟩ | exact FG.ap' (IH .primary) e1 p0 ⟨k0a, n0a⟩ | exact FG.ap (IH .primary) e1 p0 ⟨k0a, n0a⟩)) ?_
     rintro _ H1 ⟨rfl, F1, p1, g1⟩
     have f1 := f0.stX g1
     obtain ⟨st1, r1⟩ := p1.row
     have q1 := getL r1
     obtain ⟨k1a, n1a⟩ := g1.gtX k0a n0a
     have b1a := getL k1a
     obtain ⟨k1b, n1b⟩ := g1.gtX k0b n0b
     have b1b := getL k1b
     obtain ⟨k1c, n1c⟩ := g1.gtX k0c n0c
     have b1c := getL k1c
     refine oN ?_
     refine qB ?_
     refine qE (a5 y3 y57 y59 frv_st (a5 hg r1 q1 k1a (a5 b1a k1b b1b k1c b1c))) ?_
     refine qI (a5 frv_st hg r1 q1 (a5 k1a b1a k1b b1b (a2 k1c b1c))) (fun bt44 => ?_) (fun bt44 => ?_)
     ·-- if t44
      rw [ifT bt44] at hm
      repeat refine wS ?_
      obtain ⟨s2, e2, hm⟩ := oB hm
      obtain ⟨ft, gs, ks, xl, hs, hkids, hsm⟩ := dropM_inv e2
      obtain ⟨is0, c0, R0, ids0, cid0, cv0, cells00, rest0, sp⟩ := p1.split hs
      have h1 := sp.h1
      have h2 := sp.h2
      have h3 := sp.h3
      have h4 := sp.h4
      have h5 := sp.h5
      have hch := sp.ch
      rw [hkids] at hch
      obtain ⟨ic, cc, crest, hcv, hcid, hic, hcc, hccm⟩ := hch.msl_inv
      have hmx : maxLen = 9223372036854775807 := by decide
      have hip := lG h1
      have his := lG h2
      have hicl := lG hic
      have gw : IntKind.i64.wrap (((gs.length + 1 : Nat) : Int) - 1) = ((gs.length : Nat) : Int) := by rw [wrap_id (by omega) (by omega)]; omega
      have gi := ix_nat (n := gs.length + 1) (i := gs.length) (by omega)
      have gw2 : IntKind.i64.wrap (((ks.length + 1 : Nat) : Int) - 1) = ((ks.length : Nat) : Int) := by rw [wrap_id (by omega) (by omega)]; omega
      obtain ⟨RC, hRC⟩ : ∃ RC, RC = flatE (ks.map St.enc) ++ (xl.enc.cells ++ crest) := ⟨_, rfl⟩
      rw [← hRC] at hic
      have gR2 : R0[gs.length * 3 + 2]? = some (.msl ic 0 (ks.length + 1) cc) := by
       have := congrArg (fun z => z[2]?) sp.top
       simp only [List.getElem?_take, List.getElem?_drop] at this
       rw [← hcv]; simpa using this
      have bR2 : (gs.length * 3 + 2 + 1 ≤ R0.length) = True := by simp; omega
      have nic : ic ≠ is0 := fun e => sp.hi2 (by rw [hcid]; simp [e])
      have nis : ∀ k, (is0 = H1.length + k) = False := fun k => by simp; omega
      have hst : st1 = .msl is0 0 (gs.length + 1) c0 := by
       have h := r1
       rw [h1] at h
       simp only [Option.some.injEq, AObj.row.injEq, List.cons.injEq, and_true, true_and] at h
       exact h.symm
      refine dp_draw (by kernel_rfl) ?_
      refine pX (a5 y3 y36 y38 y57 (a5 y59 frv_st hg r1 (a5 q1 k1a b1a k1b (a5 b1b k1c b1c hst (a5 nis h2 hic gw (a5 gi gw2 tN gR2 bR2)))))) ?_
      refine qL [1, 5] (a5 frv_st hg r1 q1 (a5 k1a b1a k1b b1b (a2 k1c b1c))) ?_
      repeat refine wS ?_
      refine awp_draw 0 (by kernel_rfl) ?_
      refine d_take (bm := [0, 0, 2, 6, 14, 0, 32, 96, 224, 480, 992, 2046, 4095, 8191, 16383]) 11 (fresh := H1.length + 7) (by kernel_rfl) (by simp only [jD, jO, jN, seval, y3, y36, y38, vint, qC, frv_st, hst, nis, h2, hic, gw, gi, gw2, tN, gR2, bR2] <;> with_reducible rfl) (by decide) (by decide) ?_
      refine dops_sliceM (id := ic) (n := ks.length + 1) (c := cc) (kk := .i64) (k := ks.length) (by simp only [kC, seval, vint, qC, frv_st, hst, nis, h2, hic, gw, gi, gw2, tN, gR2, bR2]) rfl (by decide) (by decide) zte36 (by simp only [kC, seval, vint, qC, frv_st, hst, nis, h2, hic, gw, gi, gw2, tN, gR2, bR2] <;> first | done | rfl) (by simp only [kC, seval, vint, qC, frv_st, hst, nis, h2, hic, gw, gi, gw2, tN, gR2, bR2] <;> first | done | rfl) (by omega) ?_
      refine d_end (bm := [0, 0, 2, 6, 14, 0, 32, 96, 224, 480, 992, 2046, 4095, 8191, 16383]) (fresh := H1.length + 7) (by kernel_rfl) (by simp only [jD, jO, jN, seval, y36, y38, vint, qC, frv_st, hst, nis, h2, hic, gw, gi, gw2, tN, gR2, bR2] <;> with_reducible rfl) (by decide) ?_
      refine awp_abs (fun H2 => ∃ F2, PSt toks ip s2 F2 H2 ∧ Fr F0 F2 H0 H2 ∧ (H2[0]? = some (gO) ∧ (0) ∉ F2) ∧ (H2[H0.length]? = some (.row [.optr ip 0]) ∧ (H0.length) ∉ F2) ∧ (H2[H0.length + 1]? = some (.row [.bool (atT (peekT toks s0.pos) [[105, 102], [109, 97, 116, 99, 104], [123]])]) ∧ (H0.length + 1) ∉ F2)) ?_ ?_
      ·obtain ⟨k1, k2⟩ := sp.retop (H3 := H1.set is0 (.row (R0.set (gs.length * 3 + 2) (.msl ic 0 ks.length cc)))) (kids' := ks) (cid' := [ic]) (by simp) (List.getElem?_set_self his) (fun j hj hn _ => List.getElem?_set_ne (Ne.symm hn)) (.of (rest := xl.enc.cells ++ crest) rfl (by rw [List.getElem?_set_ne (Ne.symm nic), hic, hRC]) (by simp [St.enc_cells]; omega) hccm) (fun i hi => .inl (by rw [hcid]; exact hi))
       exact ⟨_, by rw [hsm]; exact k1, f1.trans k2, k2.get k1a n1a, k2.get k1b n1b, k2.get k1c n1c⟩
      rintro H2 ⟨F2, p2, f2, ⟨k2a, n2a⟩, ⟨k2b, n2b⟩, ⟨k2c, n2c⟩⟩
      obtain ⟨st2, r2⟩ := p2.row
      have q2 := getL r2
      have b2a := getL k2a
      have b2b := getL k2b
      have b2c := getL k2c
      refine qT 1 (a5 y57 frv_st hg r2 (a5 q2 k2a b2a k2b (a3 b2b k2c b2c))) ?_
      obtain ⟨s3, e3, hm⟩ := oB hm
      refine qN (a5 frv_st hg r2 q2 (a5 k2a b2a k2b b2b (a2 k2c b2c))) (FN.apX (unexpected_c toks ip) e3 p2) ?_
      rintro _ H3 ⟨rfl, F3, p3, g3⟩
      have f3 := f2.stX g3
      obtain ⟨st3, r3⟩ := p3.row
      have q3 := getL r3
      obtain ⟨k3a, n3a⟩ := g3.gtX k2a n2a
      have b3a := getL k3a
      obtain ⟨k3b, n3b⟩ := g3.gtX k2b n2b
      have b3b := getL k3b
      obtain ⟨k3c, n3c⟩ := g3.gtX k2c n2c
      have b3c := getL k3c
      refine qL [] (a5 frv_st hg r3 q3 (a5 k3a b3a k3b b3b (a2 k3c b3c))) ?_
      refine qE (a5 frv_st hg r3 q3 (a5 k3a b3a k3b b3b (a2 k3c b3c))) ?_
      repeat refine wS ?_
      refine wT ⟨.inr rfl, _, rfl, ?_⟩
      injection hm with hm
      subst hm
      exact ⟨rfl, F3, (by first | exact p3.flg _ | exact (p3.flg _).app _), (by first | exact f3 | exact f3.of_app | exact f3.app _)⟩
     ·-- else t44
      rw [ifF bt44] at hm
      refine qT 2 (a5 y9 y57 y72 frv_st (a5 hg r1 q1 k1a (a5 b1a k1b b1b k1c b1c))) ?_
      refine qP (a5 frv_st hg r1 q1 (a5 k1a b1a k1b b1b (a2 k1c b1c))) zgo56 (at_c (gtH r1) hl p1.pos [[125]] (by decide)) ?_
      refine qX (a5 frv_st hg r1 q1 (a5 k1a b1a k1b b1b (a2 k1c b1c))) ?_
      refine qI (a5 frv_st hg r1 q1 (a5 k1a b1a k1b b1b (a2 k1c b1c))) (fun bt78 => ?_) (fun bt78 => ?_)
      ·-- if t78
       rw [ifT bt78] at hm
       refine qL [] (a5 frv_st hg r1 q1 (a5 k1a b1a k1b b1b (a2 k1c b1c))) ?_
       refine qE (a5 frv_st hg r1 q1 (a5 k1a b1a k1b b1b (a2 k1c b1c))) ?_
       repeat refine wS ?_
       refine wT ⟨.inr rfl, _, rfl, ?_⟩
       injection hm with hm
       subst hm
       exact ⟨rfl, F1, (by first | exact p1.flg _ | exact (p1.flg _).app _), (by first | exact f1 | exact f1.of_app | exact f1.app _)⟩
      ·-- else t78
       rw [ifF bt78] at hm
       refine qL [1, 4] (a5 frv_st hg r1 q1 (a5 k1a b1a k1b b1b (a2 k1c b1c))) ?_
       refine qT 2 (a5 y9 y57 y72 frv_st (a5 hg r1 q1 k1a (a5 b1a k1b b1b k1c b1c))) ?_
       refine qP (a5 frv_st hg r1 q1 (a5 k1a b1a k1b b1b (a2 k1c b1c))) zgo56 (at_c (gtH r1) hl p1.pos [[61]] (by decide)) ?_
       refine qX (a5 frv_st hg r1 q1 (a5 k1a b1a k1b b1b (a2 k1c b1c))) ?_
       refine qI (a5 frv_st hg r1 q1 (a5 k1a b1a k1b b1b (a2 k1c b1c))) (fun bt82 => ?_) (fun bt82 => ?_)
       ·-- if t82
        rw [ifT bt82] at hm
        refine qT 2 (a5 y57 frv_st hg r1 (a5 q1 k1a b1a k1b (a3 b1b k1c b1c))) ?_
        obtain ⟨s2, e2, hm⟩ := oB hm
        refine qN (a3 frv_st hg (w4 r1 k1a k1b k1c)) (FC.apX (wrap_c toks ip 23 146 [] [.optr (H0.length) 0] zgo146 (stbL [(0, gO), (H0.length, .row [.optr ip 0])]) (m172_w (n := n) IH (H0.length) )) e2 p1 ⟨⟨k1a, n1a⟩, ⟨k1b, n1b⟩, trivial⟩) ?_
        rintro _ H2 ⟨rfl, F2, p2, g2⟩
        have f2 := f1.stX g2
        obtain ⟨st2, r2⟩ := p2.row
        have q2 := getL r2
        obtain ⟨k2a, n2a⟩ := g2.gtX k1a n1a
        have b2a := getL k2a
        obtain ⟨k2b, n2b⟩ := g2.gtX k1b n1b
        have b2b := getL k2b
        obtain ⟨k2c, n2c⟩ := g2.gtX k1c n1c
        have b2c := getL k2c
        refine qE (a5 frv_st hg r2 q2 (a5 k2a b2a k2b b2b (a2 k2c b2c))) ?_
        repeat refine wS ?_
        refine wT ⟨.inr rfl, _, rfl, ?_⟩
        injection hm with hm
        subst hm
        exact ⟨rfl, F2, (by first | exact p2.flg _ | exact (p2.flg _).app _), (by first | exact f2 | exact f2.of_app | exact f2.app _)⟩
       ·-- else t82
        rw [ifF bt82] at hm
        refine qT 2 (a5 y57 frv_st hg r1 (a5 q1 k1a b1a k1b (a3 b1b k1c b1c))) ?_
        obtain ⟨s2, e2, hm⟩ := oB hm
        refine qN (a3 frv_st hg (w4 r1 k1a k1b k1c)) (FC.apX (wrap_c toks ip 26 147 [] [.optr (H0.length) 0, .optr (H0.length + 1) 0] zgo147 (stbL [(0, gO), (H0.length, .row [.optr ip 0]), (H0.length + 1, .row [.bool (atT (peekT toks s0.pos) [[105, 102], [109, 97, 116, 99, 104], [123]])])]) (m173_w (n := n) IH (H0.length) (H0.length + 1) (atT (peekT toks s0.pos) [[105, 102], [109, 97, 116, 99, 104], [123]]))) e2 p1 ⟨⟨k1a, n1a⟩, ⟨k1b, n1b⟩, ⟨k1c, n1c⟩, trivial⟩) ?_
        rintro _ H2 ⟨rfl, F2, p2, g2⟩
        have f2 := f1.stX g2
        obtain ⟨st2, r2⟩ := p2.row
        have q2 := getL r2
        obtain ⟨k2a, n2a⟩ := g2.gtX k1a n1a
        have b2a := getL k2a
        obtain ⟨k2b, n2b⟩ := g2.gtX k1b n1b
        have b2b := getL k2b
        obtain ⟨k2c, n2c⟩ := g2.gtX k1c n1c
        have b2c := getL k2c
        refine qE (a5 frv_st hg r2 q2 (a5 k2a b2a k2b b2b (a2 k2c b2c))) ?_
        repeat refine wS ?_
        refine wT ⟨.inr rfl, _, rfl, ?_⟩
        injection hm with hm
        subst hm
        exact ⟨rfl, F2, (by first | exact p2.flg _ | exact (p2.flg _).app _), (by first | exact f2 | exact f2.of_app | exact f2.app _)⟩
    ·-- else t36
     rw [ifF bt36] at hm
     refine qT 1 (a5 y57 frv_st r0 q0 hg) ?_
     obtain ⟨s1, e1, hm⟩ := oB hm
     refine oC (by simp only [kC, seval, vint, qC, frv_st, r0, q0, hg] <;> with_reducible rfl) (by simp only [kC, seval, vint, qC, frv_st, r0, q0, hg]) (by decide) zgo94 ((by first | exact FG.ap0 (IH .expr) e1 p0 ⟨k0a, n0a⟩ | exact FG.ap' (IH .expr) e1 p0 ⟨k0a, n0a⟩ | exact FG.ap (IH .expr) e1 p0 ⟨k0a, n0a⟩)) ?_
     rintro _ H1 ⟨rfl, F1, p1, g1⟩
     have f1 := f0.stX g1
     obtain ⟨st1, r1⟩ := p1.row
     have q1 := getL r1
     obtain ⟨k1a, n1a⟩ := g1.gtX k0a n0a
     have b1a := getL k1a
     obtain ⟨k1b, n1b⟩ := g1.gtX k0b n0b
     have b1b := getL k1b
     obtain ⟨k1c, n1c⟩ := g1.gtX k0c n0c
     have b1c := getL k1c
     refine oN ?_
     refine qB ?_
     refine qE (a5 y3 y57 y59 frv_st (a5 hg r1 q1 k1a (a5 b1a k1b b1b k1c b1c))) ?_
     refine qI (a5 frv_st hg r1 q1 (a5 k1a b1a k1b b1b (a2 k1c b1c))) (fun bt44 => ?_) (fun bt44 => ?_)
     ·-- if t44
      rw [ifT bt44] at hm
      repeat refine wS ?_
      obtain ⟨s2, e2, hm⟩ := oB hm
      obtain ⟨ft, gs, ks, xl, hs, hkids, hsm⟩ := dropM_inv e2
      obtain ⟨is0, c0, R0, ids0, cid0, cv0, cells00, rest0, sp⟩ := p1.split hs
      have h1 := sp.h1
      have h2 := sp.h2
      have h3 := sp.h3
      have h4 := sp.h4
      have h5 := sp.h5
      have hch := sp.ch
      rw [hkids] at hch
      obtain ⟨ic, cc, crest, hcv, hcid, hic, hcc, hccm⟩ := hch.msl_inv
      have hmx : maxLen = 9223372036854775807 := by decide
      have hip := lG h1
      have his := lG h2
      have hicl := lG hic
      have gw : IntKind.i64.wrap (((gs.length + 1 : Nat) : Int) - 1) = ((gs.length : Nat) : Int) := by rw [wrap_id (by omega) (by omega)]; omega
      have gi := ix_nat (n := gs.length + 1) (i := gs.length) (by omega)
      have gw2 : IntKind.i64.wrap (((ks.length + 1 : Nat) : Int) - 1) = ((ks.length : Nat) : Int) := by rw [wrap_id (by omega) (by omega)]; omega
      obtain ⟨RC, hRC⟩ : ∃ RC, RC = flatE (ks.map St.enc) ++ (xl.enc.cells ++ crest) := ⟨_, rfl⟩
      rw [← hRC] at hic
      have gR2 : R0[gs.length * 3 + 2]? = some (.msl ic 0 (ks.length + 1) cc) := by
       have := congrArg (fun z => z[2]?) sp.top
       simp only [List.getElem?_take, List.getElem?_drop] at this
       rw [← hcv]; simpa using this
      have bR2 : (gs.length * 3 + 2 + 1 ≤ R0.length) = True := by simp; omega
      have nic : ic ≠ is0 := fun e => sp.hi2 (by rw [hcid]; simp [e])
      have nis : ∀ k, (is0 = H1.length + k) = False := fun k => by simp; omega
      have hst : st1 = .msl is0 0 (gs.length + 1) c0 := by
       have h := r1
       rw [h1] at h
       simp only [Option.some.injEq, AObj.row.injEq, List.cons.injEq, and_true, true_and] at h
       exact h.symm
      refine dp_draw (by kernel_rfl) ?_
      refine pX (a5 y3 y36 y38 y57 (a5 y59 frv_st hg r1 (a5 q1 k1a b1a k1b (a5 b1b k1c b1c hst (a5 nis h2 hic gw (a5 gi gw2 tN gR2 bR2)))))) ?_
      refine qL [1, 5] (a5 frv_st hg r1 q1 (a5 k1a b1a k1b b1b (a2 k1c b1c))) ?_
      repeat refine wS ?_
      refine awp_draw 0 (by kernel_rfl) ?_
      refine d_take (bm := [0, 0, 2, 6, 14, 0, 32, 96, 224, 480, 992, 2046, 4095, 8191, 16383]) 11 (fresh := H1.length + 7) (by kernel_rfl) (by simp only [jD, jO, jN, seval, y3, y36, y38, vint, qC, frv_st, hst, nis, h2, hic, gw, gi, gw2, tN, gR2, bR2] <;> with_reducible rfl) (by decide) (by decide) ?_
      refine dops_sliceM (id := ic) (n := ks.length + 1) (c := cc) (kk := .i64) (k := ks.length) (by simp only [kC, seval, vint, qC, frv_st, hst, nis, h2, hic, gw, gi, gw2, tN, gR2, bR2]) rfl (by decide) (by decide) zte36 (by simp only [kC, seval, vint, qC, frv_st, hst, nis, h2, hic, gw, gi, gw2, tN, gR2, bR2] <;> first | done | rfl) (by simp only [kC, seval, vint, qC, frv_st, hst, nis, h2, hic, gw, gi, gw2, tN, gR2, bR2] <;> first | done | rfl) (by omega) ?_
      refine d_end (bm := [0, 0, 2, 6, 14, 0, 32, 96, 224, 480, 992, 2046, 4095, 8191, 16383]) (fresh := H1.length + 7) (by kernel_rfl) (by simp only [jD, jO, jN, seval, y36, y38, vint, qC, frv_st, hst, nis, h2, hic, gw, gi, gw2, tN, gR2, bR2] <;> with_reducible rfl) (by decide) ?_
      refine awp_abs (fun H2 => ∃ F2, PSt toks ip s2 F2 H2 ∧ Fr F0 F2 H0 H2 ∧ (H2[0]? = some (gO) ∧ (0) ∉ F2) ∧ (H2[H0.length]? = some (.row [.optr ip 0]) ∧ (H0.length) ∉ F2) ∧ (H2[H0.length + 1]? = some (.row [.bool (atT (peekT toks s0.pos) [[105, 102], [109, 97, 116, 99, 104], [123]])]) ∧ (H0.length + 1) ∉ F2)) ?_ ?_
      ·obtain ⟨k1, k2⟩ := sp.retop (H3 := H1.set is0 (.row (R0.set (gs.length * 3 + 2) (.msl ic 0 ks.length cc)))) (kids' := ks) (cid' := [ic]) (by simp) (List.getElem?_set_self his) (fun j hj hn _ => List.getElem?_set_ne (Ne.symm hn)) (.of (rest := xl.enc.cells ++ crest) rfl (by rw [List.getElem?_set_ne (Ne.symm nic), hic, hRC]) (by simp [St.enc_cells]; omega) hccm) (fun i hi => .inl (by rw [hcid]; exact hi))
       exact ⟨_, by rw [hsm]; exact k1, f1.trans k2, k2.get k1a n1a, k2.get k1b n1b, k2.get k1c n1c⟩
      rintro H2 ⟨F2, p2, f2, ⟨k2a, n2a⟩, ⟨k2b, n2b⟩, ⟨k2c, n2c⟩⟩
      obtain ⟨st2, r2⟩ := p2.row
      have q2 := getL r2
      have b2a := getL k2a
      have b2b := getL k2b
      have b2c := getL k2c
      refine qT 1 (a5 y57 frv_st hg r2 (a5 q2 k2a b2a k2b (a3 b2b k2c b2c))) ?_
      obtain ⟨s3, e3, hm⟩ := oB hm
      refine qN (a5 frv_st hg r2 q2 (a5 k2a b2a k2b b2b (a2 k2c b2c))) (FN.apX (unexpected_c toks ip) e3 p2) ?_
      rintro _ H3 ⟨rfl, F3, p3, g3⟩
      have f3 := f2.stX g3
      obtain ⟨st3, r3⟩ := p3.row
      have q3 := getL r3
      obtain ⟨k3a, n3a⟩ := g3.gtX k2a n2a
      have b3a := getL k3a
      obtain ⟨k3b, n3b⟩ := g3.gtX k2b n2b
      have b3b := getL k3b
      obtain ⟨k3c, n3c⟩ := g3.gtX k2c n2c
      have b3c := getL k3c
      refine qL [] (a5 frv_st hg r3 q3 (a5 k3a b3a k3b b3b (a2 k3c b3c))) ?_
      refine qE (a5 frv_st hg r3 q3 (a5 k3a b3a k3b b3b (a2 k3c b3c))) ?_
      repeat refine wS ?_
      refine wT ⟨.inr rfl, _, rfl, ?_⟩
      injection hm with hm
      subst hm
      exact ⟨rfl, F3, (by first | exact p3.flg _ | exact (p3.flg _).app _), (by first | exact f3 | exact f3.of_app | exact f3.app _)⟩
     ·-- else t44
      rw [ifF bt44] at hm
      refine qT 2 (a5 y9 y57 y72 frv_st (a5 hg r1 q1 k1a (a5 b1a k1b b1b k1c b1c))) ?_
      refine qP (a5 frv_st hg r1 q1 (a5 k1a b1a k1b b1b (a2 k1c b1c))) zgo56 (at_c (gtH r1) hl p1.pos [[125]] (by decide)) ?_
      refine qX (a5 frv_st hg r1 q1 (a5 k1a b1a k1b b1b (a2 k1c b1c))) ?_
      refine qI (a5 frv_st hg r1 q1 (a5 k1a b1a k1b b1b (a2 k1c b1c))) (fun bt78 => ?_) (fun bt78 => ?_)
      ·-- if t78
       rw [ifT bt78] at hm
       refine qL [] (a5 frv_st hg r1 q1 (a5 k1a b1a k1b b1b (a2 k1c b1c))) ?_
       refine qE (a5 frv_st hg r1 q1 (a5 k1a b1a k1b b1b (a2 k1c b1c))) ?_
       repeat refine wS ?_
       refine wT ⟨.inr rfl, _, rfl, ?_⟩
       injection hm with hm
       subst hm
       exact ⟨rfl, F1, (by first | exact p1.flg _ | exact (p1.flg _).app _), (by first | exact f1 | exact f1.of_app | exact f1.app _)⟩
      ·-- else t78
       rw [ifF bt78] at hm
       refine qL [1, 4] (a5 frv_st hg r1 q1 (a5 k1a b1a k1b b1b (a2 k1c b1c))) ?_
       refine qT 2 (a5 y9 y57 y72 frv_st (a5 hg r1 q1 k1a (a5 b1a k1b b1b k1c b1c))) ?_
       refine qP (a5 frv_st hg r1 q1 (a5 k1a b1a k1b b1b (a2 k1c b1c))) zgo56 (at_c (gtH r1) hl p1.pos [[61]] (by decide)) ?_
       refine qX (a5 frv_st hg r1 q1 (a5 k1a b1a k1b b1b (a2 k1c b1c))) ?_
       refine qI (a5 frv_st hg r1 q1 (a5 k1a b1a k1b b1b (a2 k1c b1c))) (fun bt82 => ?_) (fun bt82 => ?_)
       ·-- if t82
        rw [ifT bt82] at hm
        refine qT 2 (a5 y57 frv_st hg r1 (a5 q1 k1a b1a k1b (a3 b1b k1c b1c))) ?_
        obtain ⟨s2, e2, hm⟩ := oB hm
        refine qN (a3 frv_st hg (w4 r1 k1a k1b k1c)) (FC.apX (wrap_c toks ip 23 146 [] [.optr (H0.length) 0] zgo146 (stbL [(0, gO), (H0.length, .row [.optr ip 0])]) (m172_w (n := n) IH (H0.length) )) e2 p1 ⟨⟨k1a, n1a⟩, ⟨k1b, n1b⟩, trivial⟩) ?_
        rintro _ H2 ⟨rfl, F2, p2, g2⟩
        have f2 := f1.stX g2
        obtain ⟨st2, r2⟩ := p2.row
        have q2 := getL r2
        obtain ⟨k2a, n2a⟩ := g2.gtX k1a n1a
        have b2a := getL k2a
        obtain ⟨k2b, n2b⟩ := g2.gtX k1b n1b
        have b2b := getL k2b
        obtain ⟨k2c, n2c⟩ := g2.gtX k1c n1c
        have b2c := getL k2c
        refine qE (a5 frv_st hg r2 q2 (a5 k2a b2a k2b b2b (a2 k2c b2c))) ?_
        repeat refine wS ?_
        refine wT ⟨.inr rfl, _, rfl, ?_⟩
        injection hm with hm
        subst hm
        exact ⟨rfl, F2, (by first | exact p2.flg _ | exact (p2.flg _).app _), (by first | exact f2 | exact f2.of_app | exact f2.app _)⟩
       ·-- else t82
        rw [ifF bt82] at hm
        refine qT 2 (a5 y57 frv_st hg r1 (a5 q1 k1a b1a k1b (a3 b1b k1c b1c))) ?_
        obtain ⟨s2, e2, hm⟩ := oB hm
        refine qN (a3 frv_st hg (w4 r1 k1a k1b k1c)) (FC.apX (wrap_c toks ip 26 147 [] [.optr (H0.length) 0, .optr (H0.length + 1) 0] zgo147 (stbL [(0, gO), (H0.length, .row [.optr ip 0]), (H0.length + 1, .row [.bool (atT (peekT toks s0.pos) [[105, 102], [109, 97, 116, 99, 104], [123]])])]) (m173_w (n := n) IH (H0.length) (H0.length + 1) (atT (peekT toks s0.pos) [[105, 102], [109, 97, 116, 99, 104], [123]]))) e2 p1 ⟨⟨k1a, n1a⟩, ⟨k1b, n1b⟩, ⟨k1c, n1c⟩, trivial⟩) ?_
        rintro _ H2 ⟨rfl, F2, p2, g2⟩
        have f2 := f1.stX g2
        obtain ⟨st2, r2⟩ := p2.row
        have q2 := getL r2
        obtain ⟨k2a, n2a⟩ := g2.gtX k1a n1a
        have b2a := getL k2a
        obtain ⟨k2b, n2b⟩ := g2.gtX k1b n1b
        have b2b := getL k2b
        obtain ⟨k2c, n2c⟩ := g2.gtX k1c n1c
        have b2c := getL k2c
        refine qE (a5 frv_st hg r2 q2 (a5 k2a b2a k2b b2b (a2 k2c b2c))) ?_
        repeat refine wS ?_
        refine wT ⟨.inr rfl, _, rfl, ?_⟩
        injection hm with hm
        subst hm
        exact ⟨rfl, F2, (by first | exact p2.flg _ | exact (p2.flg _).app _), (by first | exact f2 | exact f2.of_app | exact f2.app _)⟩
end Go.Abs
namespace Go.Abs
open Go.Proofs
def m96 (toks : List Tk) (n : Nat) (R : Rec) (s0 : PS) : Option PS := ((bumpM toks) s0).bind fun s1 => (loopM (fun s2 => (!decide ((peekT toks s2.pos).kind = 100) && !atT (peekT toks s2.pos) kwsL)) (fun s2 => ((bumpM toks) s2).bind fun s3 => some s3) n s1).bind fun s2 => some s2
theorem m96_w {toks : List Tk} {ip n : Nat} {R : Rec} (IH : IHs toks ip R) (b0 : Nat) : FC Tryz.prog toks ip 83 [.optr b0 0] (m96 toks n R ) unitR (EnvL [(0, gO), (b0, .row [.optr ip 0])]) := by
 refine fc_of fun s0 s' F0 H0 hm p0 i0 => ?_
 obtain ⟨⟨k0a, n0a⟩, ⟨k0b, n0b⟩, _⟩ := i0
 obtain ⟨st0, r0⟩ := p0.row
 have hl := lim_le p0.len
 have f0 := Fr.refl F0 H0
 unfold m96 at hm
 refine aF (N := 14) Tryz.func83 rfl rfl (by simp) fun hb' => ?_
 refine qT 1 (a2 y57 (w3 r0 k0a k0b)) ?_
 obtain ⟨s1, e1, hm⟩ := oB hm
 refine qN (w3 r0 k0a k0b) (FN.apX (bump_c toks ip) e1 p0) ?_
 rintro _ H1 ⟨rfl, F1, p1, g1⟩
 obtain ⟨f1, ⟨st1, r1⟩, ⟨k1a, n1a⟩, ⟨k1b, n1b⟩⟩ := nx2 f0 p1 g1 k0a n0a k0b n0b
 have q1 := getL r1
 have b1a := getL k1a
 have b1b := getL k1b
 repeat refine wS ?_
 obtain ⟨sL2, eL2, hm⟩ := oB hm
 have hmo2 := hm
 clear hm
 refine awp_block ?_
 refine awp_loopX (σ := Nat × PS × List Nat) (fun (z : Nat × PS × List Nat) => [(0, .optr (b0) 0), (1, .optr ip 0)]) (fun (z : Nat × PS × List Nat) =>  fun H2 => loopM (fun s2 => (!decide ((peekT toks s2.pos).kind = 100) && !atT (peekT toks s2.pos) kwsL)) (fun s2 => ((bumpM toks) s2).bind fun s3 => some s3) z.1 z.2.1 = some sL2 ∧ PSt toks ip z.2.1 z.2.2 H2 ∧ Fr F0 z.2.2 H0 H2 ∧ (H2[0]? = some (gO) ∧ (0) ∉ z.2.2) ∧ (H2[b0]? = some (.row [.optr ip 0]) ∧ (b0) ∉ z.2.2)) (fun (z : Nat × PS × List Nat) => z.1) ((n, s1, F1)) ⟨(by first | rfl | (simp only [jN, seval, vint, qC, r1, q1, k1a, b1a, k1b, b1b] <;> first | done | with_reducible rfl)), (by first | rfl | (simp only [jN, seval, vint, qC, r1, q1, k1a, b1a, k1b, b1b] <;> first | done | with_reducible rfl)), trivial⟩ (⟨eL2, (by first | exact p1 | exact p1.app _ | exact p1.flg false), (by first | exact f1 | exact f1.app _), ⟨(by first | exact k1a | exact b1a _), n1a⟩, ⟨(by first | exact k1b | exact b1b _), n1b⟩⟩) ?_
 intro z H2 hg
 obtain ⟨k2, s2, F2⟩ := z
 obtain ⟨hk2, p2, f2, ⟨k2a, n2a⟩, ⟨k2b, n2b⟩⟩ := hg
 simp only at hk2 p2 f2 k2a n2a k2b n2b
 obtain ⟨st2, r2⟩ := p2.row
 have b2a := getL k2a
 cases k2 with
 | zero => cases hk2
 | succ k2 => ?_
 repeat refine wS ?_
 refine dp_draw (by kernel_rfl) ?_
 refine pT 1 (a2 y57 (w3 r2 k2a k2b)) ?_
 refine pK (w3 r2 k2a k2b) zgo23 (fun hc => atEOF_c (gtH r2) hl p2.pos) ?_
 refine pT 3 (a2 y57 (w3 r2 k2a k2b)) ?_
 refine pK (w3 r2 k2a k2b) zgo84 (fun hc => itemKeywords_c (by first | exact k2a | exact b2a _)) ?_
 refine pK (w3 r2 k2a k2b) zgo56 (fun hc => at_c (gtH r2) hl p2.pos (kwsL) (by decide)) ?_
 refine pX (w3 r2 k2a k2b) ?_
 refine qI (w3 r2 k2a k2b) (fun bt11 => ?_) (fun bt11 => ?_)
 ·-- if t11
  unfold loopM at hk2
  rw [ifT bt11] at hk2
  obtain ⟨sB2, hm, hk2⟩ := oB hk2
  refine qK ?_
  refine qB ?_
  refine qT 1 (a2 y57 (w3 r2 k2a k2b)) ?_
  obtain ⟨s3, e3, hm⟩ := oB hm
  refine qN (w3 r2 k2a k2b) (FN.apX (bump_c toks ip) e3 p2) ?_
  rintro _ H3 ⟨rfl, F3, p3, g3⟩
  obtain ⟨f3, ⟨st3, r3⟩, ⟨k3a, n3a⟩, ⟨k3b, n3b⟩⟩ := nx2 f2 p3 g3 k2a n2a k2b n2b
  try simp only [thenQ, blockQ]
  injection hm with hm
  subst hm
  exact ⟨(k2, _, F3), Nat.lt_succ_self _, ⟨rfl, rfl, trivial⟩, hk2, p3, f3, ⟨k3a, n3a⟩, ⟨k3b, n3b⟩⟩
 ·-- else t11
  unfold loopM at hk2
  rw [ifF bt11] at hk2
  injection hk2 with hk2
  subst hk2
  have hm := hmo2
  repeat refine wS ?_
  refine awp_exit ?_
  simp only [thenQ, blockQ, reduceIte, Nat.reduceEqDiff, Nat.succ_ne_self, if_true, if_false]
  refine enX ?_
  injection hm with hm
  subst hm
  exact finX p2 f2
def m77 (toks : List Tk) (n : Nat) (R : Rec) (s0 : PS) : Option PS := ((nodeM 46 (m96 toks n R )) s0).bind fun s1 => some s1
theorem m77_w {toks : List Tk} {ip n : Nat} {R : Rec} (IH : IHs toks ip R) : FG toks ip 59 [.optr ip 0] (m77 toks n R ) unitR := by
 intro s0 s' F0 H0 hm p0 i0
 obtain ⟨⟨hg, n0a⟩, _⟩ := i0
 obtain ⟨st0, r0⟩ := p0.row
 have q0 := getL r0
 have hl := lim_le p0.len
 have f0 := Fr.refl F0 H0
 have k0a := getL hg [.row [.optr ip 0]]
 have b0a := getL k0a
 have k0b : (H0 ++ [.row [.optr ip 0]])[H0.length]? = some (.row [.optr ip 0]) := by simp
 have n0b := p0.new0
 have b0b := getL k0b
 unfold m77 at hm
 refine aF (N := 5) Tryz.func59 rfl rfl (by simp) fun hb' => ?_
 refine qE (a4 y57 r0 q0 hg) ?_
 refine qT 2 (a4 y57 r0 q0 hg) ?_
 obtain ⟨s1, e1, hm⟩ := oB hm
 refine qN (a2 hg (w1 r0)) (FC.apX (node_c toks ip 46 83 [] [.optr (H0.length) 0] zgo83 (stbL [(0, gO), (H0.length, .row [.optr ip 0])]) (m96_w (n := n) IH (H0.length) )) e1 p0 ⟨⟨k0a, n0a⟩, ⟨k0b, n0b⟩, trivial⟩) ?_
 rintro _ H1 ⟨rfl, F1, p1, g1⟩
 have f1 := f0.stX g1
 obtain ⟨st1, r1⟩ := p1.row
 have q1 := getL r1
 obtain ⟨k1a, n1a⟩ := g1.gtX k0a n0a
 have b1a := getL k1a
 obtain ⟨k1b, n1b⟩ := g1.gtX k0b n0b
 have b1b := getL k1b
 refine enX ?_
 injection hm with hm
 subst hm
 exact finX p1 f1
def m82 (toks : List Tk) (n : Nat) (R : Rec) (k : Int) (s0 : PS) : Option PS := if decide (k = 2) = true then (((implM ) s0).bind fun s1 => some s1) else (if decide (k = 3) = true then (((R (.function true)) s0).bind fun s1 => some s1) else (if decide (k = 4) = true then (if decide (k = 4) = true then (((m101 toks n R (k)) s0).bind fun s1 => some s1) else (if decide (k = 6) = true then (((expectIdentM toks) s0).bind fun s1 => ((m103 toks n R ) s1).bind fun s2 => some s2) else (if decide (k = 7) = true then (((implM ) s0).bind fun s1 => some s1) else (if decide (k = 8) = true then (((expectIdentM toks) s0).bind fun s1 => ((expectM toks [58]) s1).bind fun s2 => ((R .typeExpr) s2).bind fun s3 => ((expectM toks [61]) s3).bind fun s4 => ((R .expr) s4).bind fun s5 => ((expectM toks [59]) s5).bind fun s6 => some s6) else (if decide (k = 9) = true then (((expectIdentM toks) s0).bind fun s1 => ((expectM toks [40]) s1).bind fun s2 => ((R (.params ([41]))) s2).bind fun s3 => ((expectM toks [61]) s3).bind fun s4 => ((R .expr) s4).bind fun s5 => ((expectM toks [59]) s5).bind fun s6 => some s6) else (some s0)))))) else (if decide (k = 5) = true then (((m101 toks n R (k)) s0).bind fun s1 => some s1) else (if decide (k = 6) = true then (((expectIdentM toks) s0).bind fun s1 => ((m103 toks n R ) s1).bind fun s2 => some s2) else (if decide (k = 7) = true then (((implM ) s0).bind fun s1 => some s1) else (if decide (k = 8) = true then (((expectIdentM toks) s0).bind fun s1 => ((expectM toks [58]) s1).bind fun s2 => ((R .typeExpr) s2).bind fun s3 => ((expectM toks [61]) s3).bind fun s4 => ((R .expr) s4).bind fun s5 => ((expectM toks [59]) s5).bind fun s6 => some s6) else (if decide (k = 9) = true then (((expectIdentM toks) s0).bind fun s1 => ((expectM toks [40]) s1).bind fun s2 => ((R (.params ([41]))) s2).bind fun s3 => ((expectM toks [61]) s3).bind fun s4 => ((R .expr) s4).bind fun s5 => ((expectM toks [59]) s5).bind fun s6 => some s6) else (some s0))))))))
theorem m82_w {toks : List Tk} {ip n : Nat} {R : Rec} (IH : IHs toks ip R) (k : Int) : FG toks ip 64 [.optr ip 0, .int .i64 k] (m82 toks n R k) (frv (.itemBody k)) := by
 intro s0 s' F0 H0 hm p0 i0
 obtain ⟨⟨hg, n0a⟩, _⟩ := i0
 obtain ⟨st0, r0⟩ := p0.row
 have hl := lim_le p0.len
 have f0 := Fr.refl F0 H0
 have k0a := hg
 unfold m82 at hm
 refine aF (N := 57) Tryz.func64 rfl rfl (by simp) fun hb' => ?_
 refine qE (w2 r0 k0a) ?_
 refine qB ?_
 refine qE (a2 y3 (w2 r0 k0a)) ?_
 refine qI (w2 r0 k0a) (fun bt5 => ?_) (fun bt5 => ?_)
 ·-- if t5
  rw [ifT bt5] at hm
  obtain ⟨s1, e1, hm⟩ := oB hm
  refine qW 1 (w2 r0 k0a) (FG.apX (fg_none (toks := toks) (ip := ip) (f := 86) (args := [.optr ip 0]) (rv := unitR) ) e1 p0 ⟨k0a, n0a⟩) ?_
  rintro _ H1 ⟨rfl, F1, p1, g1⟩
  obtain ⟨f1, ⟨st1, r1⟩, ⟨k1a, n1a⟩⟩ := nx1 f0 p1 g1 k0a n0a
  refine enX ?_
  injection hm with hm
  subst hm
  exact finX p1 f1
 ·-- else t5
  rw [ifF bt5] at hm
  refine qE (a2 y3 (w2 r0 k0a)) ?_
  refine qI (w2 r0 k0a) (fun bt9 => ?_) (fun bt9 => ?_)
  ·-- if t9
   rw [ifT bt9] at hm
   obtain ⟨s1, e1, hm⟩ := oB hm
   refine qW 1 (w2 r0 k0a) (FG.apX (IH (.function true)) e1 p0 ⟨k0a, n0a⟩) ?_
   rintro _ H1 ⟨rfl, F1, p1, g1⟩
   obtain ⟨f1, ⟨st1, r1⟩, ⟨k1a, n1a⟩⟩ := nx1 f0 p1 g1 k0a n0a
   refine enX ?_
   injection hm with hm
   subst hm
   exact finX p1 f1
  ·-- else t9
   rw [ifF bt9] at hm
   refine qE (a2 y3 (w2 r0 k0a)) ?_
   refine qI (w2 r0 k0a) (fun bt13 => ?_) (fun bt13 => ?_)
   ·-- if t13
    rw [ifT bt13] at hm
    refine qK ?_
    refine qI (w2 r0 k0a) (fun bt13 => ?_) (fun bt13 => ?_)
    ·-- if t13
     rw [ifT bt13] at hm
     obtain ⟨s1, e1, hm⟩ := oB hm
     refine qW 2 (w2 r0 k0a) (FG.apX (m101_w (n := n) IH (k)) e1 p0 ⟨k0a, n0a⟩) ?_
     rintro _ H1 ⟨rfl, F1, p1, g1⟩
     obtain ⟨f1, ⟨st1, r1⟩, ⟨k1a, n1a⟩⟩ := nx1 f0 p1 g1 k0a n0a
     refine enX ?_
     injection hm with hm
     subst hm
     exact finX p1 f1
    ·-- else t13
     rw [ifF bt13] at hm
     refine qE (a2 y3 (w2 r0 k0a)) ?_
     refine qI (w2 r0 k0a) (fun bt19 => ?_) (fun bt19 => ?_)
     ·-- if t19
      rw [ifT bt19] at hm
      obtain ⟨s1, e1, hm⟩ := oB hm
      refine qW 1 (w2 r0 k0a) (FN.apX (expectIdent_c toks ip) e1 p0) ?_
      rintro _ H1 ⟨rfl, F1, p1, g1⟩
      obtain ⟨f1, ⟨st1, r1⟩, ⟨k1a, n1a⟩⟩ := nx1 f0 p1 g1 k0a n0a
      obtain ⟨s2, e2, hm⟩ := oB hm
      refine qW 1 (w2 r1 k1a) (FG.apX (m103_w (n := n) IH ) e2 p1 ⟨k1a, n1a⟩) ?_
      rintro _ H2 ⟨rfl, F2, p2, g2⟩
      obtain ⟨f2, ⟨st2, r2⟩, ⟨k2a, n2a⟩⟩ := nx1 f1 p2 g2 k1a n1a
      refine enX ?_
      injection hm with hm
      subst hm
      exact finX p2 f2
     ·-- else t19
      rw [ifF bt19] at hm
      refine qE (a2 y3 (w2 r0 k0a)) ?_
      refine qI (w2 r0 k0a) (fun bt25 => ?_) (fun bt25 => ?_)
      ·-- if t25
       rw [ifT bt25] at hm
       obtain ⟨s1, e1, hm⟩ := oB hm
       refine qW 1 (w2 r0 k0a) (FG.apX (fg_none (toks := toks) (ip := ip) (f := 91) (args := [.optr ip 0]) (rv := unitR) ) e1 p0 ⟨k0a, n0a⟩) ?_
       rintro _ H1 ⟨rfl, F1, p1, g1⟩
       obtain ⟨f1, ⟨st1, r1⟩, ⟨k1a, n1a⟩⟩ := nx1 f0 p1 g1 k0a n0a
       refine enX ?_
       injection hm with hm
       subst hm
       exact finX p1 f1
      ·-- else t25
       rw [ifF bt25] at hm
       refine qE (a2 y3 (w2 r0 k0a)) ?_
       refine qI (w2 r0 k0a) (fun bt29 => ?_) (fun bt29 => ?_)
       ·-- if t29
        rw [ifT bt29] at hm
        obtain ⟨s1, e1, hm⟩ := oB hm
        refine qW 1 (w2 r0 k0a) (FN.apX (expectIdent_c toks ip) e1 p0) ?_
        rintro _ H1 ⟨rfl, F1, p1, g1⟩
        obtain ⟨f1, ⟨st1, r1⟩, ⟨k1a, n1a⟩⟩ := nx1 f0 p1 g1 k0a n0a
        refine qL [0] (w2 r1 k1a) ?_
        obtain ⟨s2, e2, hm⟩ := oB hm
        refine qW 1 (w2 r1 k1a) (FN.apX (expect_c toks ip [58]) e2 p1) ?_
        rintro _ H2 ⟨rfl, F2, p2, g2⟩
        obtain ⟨f2, ⟨st2, r2⟩, ⟨k2a, n2a⟩⟩ := nx1 f1 p2 g2 k1a n1a
        obtain ⟨s3, e3, hm⟩ := oB hm
        refine qW 1 (w2 r2 k2a) (FG.apX (IH .typeExpr) e3 p2 ⟨k2a, n2a⟩) ?_
        rintro _ H3 ⟨rfl, F3, p3, g3⟩
        obtain ⟨f3, ⟨st3, r3⟩, ⟨k3a, n3a⟩⟩ := nx1 f2 p3 g3 k2a n2a
        obtain ⟨s4, e4, hm⟩ := oB hm
        refine qW 1 (w2 r3 k3a) (FN.apX (expect_c toks ip [61]) e4 p3) ?_
        rintro _ H4 ⟨rfl, F4, p4, g4⟩
        obtain ⟨f4, ⟨st4, r4⟩, ⟨k4a, n4a⟩⟩ := nx1 f3 p4 g4 k3a n3a
        obtain ⟨s5, e5, hm⟩ := oB hm
        refine qW 1 (w2 r4 k4a) (FG.apX (IH .expr) e5 p4 ⟨k4a, n4a⟩) ?_
        rintro _ H5 ⟨rfl, F5, p5, g5⟩
        obtain ⟨f5, ⟨st5, r5⟩, ⟨k5a, n5a⟩⟩ := nx1 f4 p5 g5 k4a n4a
        obtain ⟨s6, e6, hm⟩ := oB hm
        refine qW 1 (w2 r5 k5a) (FN.apX (expect_c toks ip [59]) e6 p5) ?_
        rintro _ H6 ⟨rfl, F6, p6, g6⟩
        obtain ⟨f6, ⟨st6, r6⟩, ⟨k6a, n6a⟩⟩ := nx1 f5 p6 g6 k5a n5a
        refine enX ?_
        injection hm with hm
        subst hm
        exact finX p6 f6
       ·-- else t29
        rw [ifF bt29] at hm
        refine qE (a2 y3 (w2 r0 k0a)) ?_
        refine qI (w2 r0 k0a) (fun bt43 => ?_) (fun bt43 => ?_)
        ·-- if t43
         rw [ifT bt43] at hm
         refine qL [0] (w2 r0 k0a) ?_
         obtain ⟨s1, e1, hm⟩ := oB hm
         refine qW 1 (w2 r0 k0a) (FN.apX (expectIdent_c toks ip) e1 p0) ?_
         rintro _ H1 ⟨rfl, F1, p1, g1⟩
         obtain ⟨f1, ⟨st1, r1⟩, ⟨k1a, n1a⟩⟩ := nx1 f0 p1 g1 k0a n0a
         obtain ⟨s2, e2, hm⟩ := oB hm
         refine qW 1 (w2 r1 k1a) (FN.apX (expect_c toks ip [40]) e2 p1) ?_
         rintro _ H2 ⟨rfl, F2, p2, g2⟩
         obtain ⟨f2, ⟨st2, r2⟩, ⟨k2a, n2a⟩⟩ := nx1 f1 p2 g2 k1a n1a
         obtain ⟨s3, e3, hm⟩ := oB hm
         refine qW 1 (w2 r2 k2a) (FG.apX (IH (.params ([41]))) e3 p2 ⟨k2a, n2a⟩) ?_
         rintro _ H3 ⟨rfl, F3, p3, g3⟩
         obtain ⟨f3, ⟨st3, r3⟩, ⟨k3a, n3a⟩⟩ := nx1 f2 p3 g3 k2a n2a
         obtain ⟨s4, e4, hm⟩ := oB hm
         refine qW 1 (w2 r3 k3a) (FN.apX (expect_c toks ip [61]) e4 p3) ?_
         rintro _ H4 ⟨rfl, F4, p4, g4⟩
         obtain ⟨f4, ⟨st4, r4⟩, ⟨k4a, n4a⟩⟩ := nx1 f3 p4 g4 k3a n3a
         obtain ⟨s5, e5, hm⟩ := oB hm
         refine qW 1 (w2 r4 k4a) (FG.apX (IH .expr) e5 p4 ⟨k4a, n4a⟩) ?_
         rintro _ H5 ⟨rfl, F5, p5, g5⟩
         obtain ⟨f5, ⟨st5, r5⟩, ⟨k5a, n5a⟩⟩ := nx1 f4 p5 g5 k4a n4a
         obtain ⟨s6, e6, hm⟩ := oB hm
         refine qW 1 (w2 r5 k5a) (FN.apX (expect_c toks ip [59]) e6 p5) ?_
         rintro _ H6 ⟨rfl, F6, p6, g6⟩
         obtain ⟨f6, ⟨st6, r6⟩, ⟨k6a, n6a⟩⟩ := nx1 f5 p6 g6 k5a n5a
         refine enX ?_
         injection hm with hm
         subst hm
         exact finX p6 f6
        ·-- else t43
         rw [ifF bt43] at hm
         refine qK ?_
         refine enX ?_
         injection hm with hm
         subst hm
         exact finX p0 f0
   ·-- else t13
    rw [ifF bt13] at hm
    refine qE (a2 y3 (w2 r0 k0a)) ?_
    refine qI (w2 r0 k0a) (fun bt13 => ?_) (fun bt13 => ?_)
    ·-- if t13
     rw [ifT bt13] at hm
     obtain ⟨s1, e1, hm⟩ := oB hm
     refine qW 2 (w2 r0 k0a) (FG.apX (m101_w (n := n) IH (k)) e1 p0 ⟨k0a, n0a⟩) ?_
     rintro _ H1 ⟨rfl, F1, p1, g1⟩
     obtain ⟨f1, ⟨st1, r1⟩, ⟨k1a, n1a⟩⟩ := nx1 f0 p1 g1 k0a n0a
     refine enX ?_
     injection hm with hm
     subst hm
     exact finX p1 f1
    ·-- else t13
     rw [ifF bt13] at hm
     refine qE (a2 y3 (w2 r0 k0a)) ?_
     refine qI (w2 r0 k0a) (fun bt19 => ?_) (fun bt19 => ?_)
     ·-- if t19
      rw [ifT bt19] at hm
      obtain ⟨s1, e1, hm⟩ := oB hm
      refine qW 1 (w2 r0 k0a) (FN.apX (expectIdent_c toks ip) e1 p0) ?_
      rintro _ H1 ⟨rfl, F1, p1, g1⟩
      obtain ⟨f1, ⟨st1, r1⟩, ⟨k1a, n1a⟩⟩ := nx1 f0 p1 g1 k0a n0a
      obtain ⟨s2, e2, hm⟩ := oB hm
      refine qW 1 (w2 r1 k1a) (FG.apX (m103_w (n := n) IH ) e2 p1 ⟨k1a, n1a⟩) ?_
      rintro _ H2 ⟨rfl, F2, p2, g2⟩
      obtain ⟨f2, ⟨st2, r2⟩, ⟨k2a, n2a⟩⟩ := nx1 f1 p2 g2 k1a n1a
      refine enX ?_
      injection hm with hm
      subst hm
      exact finX p2 f2
     ·-- else t19
      rw [ifF bt19] at hm
      refine qE (a2 y3 (w2 r0 k0a)) ?_
      refine qI (w2 r0 k0a) (fun bt25 => ?_) (fun bt25 => ?_)
      ·-- if t25
       rw [ifT bt25] at hm
       obtain ⟨s1, e1, hm⟩ := oB hm
       refine qW 1 (w2 r0 k0a) (FG.apX (fg_none (toks := toks) (ip := ip) (f := 91) (args := [.optr ip 0]) (rv := unitR) ) e1 p0 ⟨k0a, n0a⟩) ?_
       rintro _ H1 ⟨rfl, F1, p1, g1⟩
       obtain ⟨f1, ⟨st1, r1⟩, ⟨k1a, n1a⟩⟩ := nx1 f0 p1 g1 k0a n0a
       refine enX ?_
       injection hm with hm
       subst hm
       exact finX p1 f1
      ·-- else t25
       rw [ifF bt25] at hm
       refine qE (a2 y3 (w2 r0 k0a)) ?_
       refine qI (w2 r0 k0a) (fun bt29 => ?_) (fun bt29 => ?_)
       ·-- if t29
        rw [ifT bt29] at hm
        refine qL [0] (w2 r0 k0a) ?_
        obtain ⟨s1, e1, hm⟩ := oB hm
        refine qW 1 (w2 r0 k0a) (FN.apX (expectIdent_c toks ip) e1 p0) ?_
        rintro _ H1 ⟨rfl, F1, p1, g1⟩
        obtain ⟨f1, ⟨st1, r1⟩, ⟨k1a, n1a⟩⟩ := nx1 f0 p1 g1 k0a n0a
        obtain ⟨s2, e2, hm⟩ := oB hm
        refine qW 1 (w2 r1 k1a) (FN.apX (expect_c toks ip [58]) e2 p1) ?_
        rintro _ H2 ⟨rfl, F2, p2, g2⟩
        obtain ⟨f2, ⟨st2, r2⟩, ⟨k2a, n2a⟩⟩ := nx1 f1 p2 g2 k1a n1a
        obtain ⟨s3, e3, hm⟩ := oB hm
        refine qW 1 (w2 r2 k2a) (FG.apX (IH .typeExpr) e3 p2 ⟨k2a, n2a⟩) ?_
        rintro _ H3 ⟨rfl, F3, p3, g3⟩
        obtain ⟨f3, ⟨st3, r3⟩, ⟨k3a, n3a⟩⟩ := nx1 f2 p3 g3 k2a n2a
        obtain ⟨s4, e4, hm⟩ := oB hm
        refine qW 1 (w2 r3 k3a) (FN.apX (expect_c toks ip [61]) e4 p3) ?_
        rintro _ H4 ⟨rfl, F4, p4, g4⟩
        obtain ⟨f4, ⟨st4, r4⟩, ⟨k4a, n4a⟩⟩ := nx1 f3 p4 g4 k3a n3a
        obtain ⟨s5, e5, hm⟩ := oB hm
        refine qW 1 (w2 r4 k4a) (FG.apX (IH .expr) e5 p4 ⟨k4a, n4a⟩) ?_
        rintro _ H5 ⟨rfl, F5, p5, g5⟩
        obtain ⟨f5, ⟨st5, r5⟩, ⟨k5a, n5a⟩⟩ := nx1 f4 p5 g5 k4a n4a
        obtain ⟨s6, e6, hm⟩ := oB hm
        refine qW 1 (w2 r5 k5a) (FN.apX (expect_c toks ip [59]) e6 p5) ?_
        rintro _ H6 ⟨rfl, F6, p6, g6⟩
        obtain ⟨f6, ⟨st6, r6⟩, ⟨k6a, n6a⟩⟩ := nx1 f5 p6 g6 k5a n5a
        refine enX ?_
        injection hm with hm
        subst hm
        exact finX p6 f6
       ·-- else t29
        rw [ifF bt29] at hm
        refine qL [0, 4] (w2 r0 k0a) ?_
        refine qE (a2 y3 (w2 r0 k0a)) ?_
        refine qI (w2 r0 k0a) (fun bt43 => ?_) (fun bt43 => ?_)
        ·-- if t43
         rw [ifT bt43] at hm
         obtain ⟨s1, e1, hm⟩ := oB hm
         refine qW 1 (w2 r0 k0a) (FN.apX (expectIdent_c toks ip) e1 p0) ?_
         rintro _ H1 ⟨rfl, F1, p1, g1⟩
         obtain ⟨f1, ⟨st1, r1⟩, ⟨k1a, n1a⟩⟩ := nx1 f0 p1 g1 k0a n0a
         obtain ⟨s2, e2, hm⟩ := oB hm
         refine qW 1 (w2 r1 k1a) (FN.apX (expect_c toks ip [40]) e2 p1) ?_
         rintro _ H2 ⟨rfl, F2, p2, g2⟩
         obtain ⟨f2, ⟨st2, r2⟩, ⟨k2a, n2a⟩⟩ := nx1 f1 p2 g2 k1a n1a
         obtain ⟨s3, e3, hm⟩ := oB hm
         refine qW 1 (w2 r2 k2a) (FG.apX (IH (.params ([41]))) e3 p2 ⟨k2a, n2a⟩) ?_
         rintro _ H3 ⟨rfl, F3, p3, g3⟩
         obtain ⟨f3, ⟨st3, r3⟩, ⟨k3a, n3a⟩⟩ := nx1 f2 p3 g3 k2a n2a
         obtain ⟨s4, e4, hm⟩ := oB hm
         refine qW 1 (w2 r3 k3a) (FN.apX (expect_c toks ip [61]) e4 p3) ?_
         rintro _ H4 ⟨rfl, F4, p4, g4⟩
         obtain ⟨f4, ⟨st4, r4⟩, ⟨k4a, n4a⟩⟩ := nx1 f3 p4 g4 k3a n3a
         obtain ⟨s5, e5, hm⟩ := oB hm
         refine qW 1 (w2 r4 k4a) (FG.apX (IH .expr) e5 p4 ⟨k4a, n4a⟩) ?_
         rintro _ H5 ⟨rfl, F5, p5, g5⟩
         obtain ⟨f5, ⟨st5, r5⟩, ⟨k5a, n5a⟩⟩ := nx1 f4 p5 g5 k4a n4a
         obtain ⟨s6, e6, hm⟩ := oB hm
         refine qW 1 (w2 r5 k5a) (FN.apX (expect_c toks ip [59]) e6 p5) ?_
         rintro _ H6 ⟨rfl, F6, p6, g6⟩
         obtain ⟨f6, ⟨st6, r6⟩, ⟨k6a, n6a⟩⟩ := nx1 f5 p6 g6 k5a n5a
         refine enX ?_
         injection hm with hm
         subst hm
         exact finX p6 f6
        ·-- else t43
         rw [ifF bt43] at hm
         refine qK ?_
         refine enX ?_
         injection hm with hm
         subst hm
         exact finX p0 f0
def m79 (toks : List Tk) (n : Nat) (R : Rec) (k : Int) (s0 : PS) : Option PS := ((acceptM toks [[112, 117, 98]]) s0).bind fun s1 => ((bumpM toks) s1).bind fun s2 => ((R (.itemBody (k))) s2).bind fun s3 => some s3
theorem m79_w {toks : List Tk} {ip n : Nat} {R : Rec} (IH : IHs toks ip R) (b0 b1 : Nat) (k : Int) : FC Tryz.prog toks ip 61 [.optr b0 0, .optr b1 0] (m79 toks n R k) unitR (EnvL [(0, gO), (b0, .row [.optr ip 0]), (b1, .row [.int .i64 k])]) := by
 refine fc_of fun s0 s' F0 H0 hm p0 i0 => ?_
 obtain ⟨⟨k0a, n0a⟩, ⟨k0b, n0b⟩, ⟨k0c, n0c⟩, _⟩ := i0
 obtain ⟨st0, r0⟩ := p0.row
 have hl := lim_le p0.len
 have f0 := Fr.refl F0 H0
 unfold m79 at hm
 refine aF (N := 10) Tryz.func61 rfl rfl (by simp) fun hb' => ?_
 refine qT 2 (a4 y9 y57 y72 (w4 r0 k0a k0b k0c)) ?_
 obtain ⟨s1, e1, hm⟩ := oB hm
 refine qN (w4 r0 k0a k0b k0c) (FN.apX (accept_c toks ip [[112, 117, 98]] (by decide)) e1 p0) ?_
 rintro _ H1 ⟨rfl, F1, p1, g1⟩
 obtain ⟨f1, ⟨st1, r1⟩, ⟨k1a, n1a⟩, ⟨k1b, n1b⟩, ⟨k1c, n1c⟩⟩ := nx3 f0 p1 g1 k0a n0a k0b n0b k0c n0c
 refine qT 1 (a2 y57 (w4 r1 k1a k1b k1c)) ?_
 obtain ⟨s2, e2, hm⟩ := oB hm
 refine qN (w4 r1 k1a k1b k1c) (FN.apX (bump_c toks ip) e2 p1) ?_
 rintro _ H2 ⟨rfl, F2, p2, g2⟩
 obtain ⟨f2, ⟨st2, r2⟩, ⟨k2a, n2a⟩, ⟨k2b, n2b⟩, ⟨k2c, n2c⟩⟩ := nx3 f1 p2 g2 k1a n1a k1b n1b k1c n1c
 refine qT 2 (a3 y3 y57 (w4 r2 k2a k2b k2c)) ?_
 obtain ⟨s3, e3, hm⟩ := oB hm
 refine qN (w4 r2 k2a k2b k2c) (FG.apX (IH (.itemBody (k))) e3 p2 ⟨k2a, n2a⟩) ?_
 rintro _ H3 ⟨rfl, F3, p3, g3⟩
 obtain ⟨f3, ⟨st3, r3⟩, ⟨k3a, n3a⟩, ⟨k3b, n3b⟩, ⟨k3c, n3c⟩⟩ := nx3 f2 p3 g3 k2a n2a k2b n2b k2c n2c
 refine enX ?_
 injection hm with hm
 subst hm
 exact finX p3 f3
def m51 (toks : List Tk) (n : Nat) (R : Rec) (s0 : PS) : Option PS := if atT (peekT toks s0.pos) [[112, 117, 98]] = true then (lookM toks s0).bind fun sq1 => if (decide (itemKindI (peekT toks sq1.pos).text = 0) || !decide ((peekT toks sq1.pos).kind = 104)) = true then ((m77 toks n R) s0).bind fun s3 => some s3 else ((nodeM (itemKindI (peekT toks sq1.pos).text) (m79 toks n R (itemKindI (peekT toks sq1.pos).text))) s0).bind fun s3 => some s3 else if (decide (itemKindI (peekT toks s0.pos).text = 0) || !decide ((peekT toks s0.pos).kind = 104)) = true then ((m77 toks n R) s0).bind fun s1 => some s1 else ((nodeM (itemKindI (peekT toks s0.pos).text) (m79 toks n R (itemKindI (peekT toks s0.pos).text))) s0).bind fun s1 => some s1
theorem m51_w {toks : List Tk} {ip n : Nat} {R : Rec} (IH : IHs toks ip R) : FG toks ip 24 [.optr ip 0] (m51 toks n R ) (frv .item) := by
 intro s0 s' F0 H0 hm p0 i0
 obtain ⟨⟨hg, n0a⟩, _⟩ := i0
 obtain ⟨st0, r0⟩ := p0.row
 have q0 := getL r0
 have hl := lim_le p0.len
 have f0 := Fr.refl F0 H0
 have k0a := getL hg [.row [.optr ip 0]]
 have b0a := getL k0a
 have k0b : (H0 ++ [.row [.optr ip 0]])[H0.length]? = some (.row [.optr ip 0]) := by simp
 have n0b := p0.new0
 have b0b := getL k0b
 unfold m51 at hm
 refine aF (N := 28) Tryz.func24 rfl rfl (by simp) fun hb' => ?_
 refine qE (a4 y57 r0 q0 hg) ?_
 refine qT 1 (a4 y57 r0 q0 hg) ?_
 refine qP (a3 r0 q0 hg) zgo55 (peek_a (gtH r0) hl p0.pos) ?_
 refine qX (a4 y32 r0 q0 hg) ?_
 refine qT 2 (a5 y9 y57 y72 r0 (a2 q0 hg)) ?_
 refine qP (a3 r0 q0 hg) zgo56 (at_c (gtH r0) hl p0.pos [[112, 117, 98]] (by decide)) ?_
 refine oN ?_
 refine qI (a3 r0 q0 hg) (fun bt8 => ?_) (fun bt8 => ?_)
 ·-- if t8
  rw [ifT bt8] at hm
  refine qT 1 (a4 y57 r0 q0 hg) ?_
  obtain ⟨sq1, e1, hm⟩ := oB hm
  refine qA (a3 r0 q0 hg) zgo57 (look_c e1 p0 [.row [.optr ip 0], .row [.int .i64 (peekT toks s0.pos).kind, .str (peekT toks s0.pos).text]]) ?_
  rintro _ H1 ⟨iq1, Fq1, rfl, pq1, g1⟩
  obtain ⟨F1, nf, p1, f1⟩ := look_keep p0 f0 g1
  obtain ⟨st1, r1⟩ := p1.row
  have q1 := getL r1
  obtain ⟨k1a, n1a⟩ := look_get g1 (getL hg [.row [.optr ip 0], .row [.int .i64 (peekT toks s0.pos).kind, .str (peekT toks s0.pos).text]]) n0a nf
  obtain ⟨k1b, n1b⟩ := look_get g1 (show (H0 ++ [.row [.optr ip 0], .row [.int .i64 (peekT toks s0.pos).kind, .str (peekT toks s0.pos).text]])[H0.length]? = some (.row [.optr ip 0]) by simp) p0.new0 nf
  obtain ⟨k1c, n1c⟩ := look_get g1 (show (H0 ++ [.row [.optr ip 0], .row [.int .i64 (peekT toks s0.pos).kind, .str (peekT toks s0.pos).text]])[H0.length + 1]? = some (.row [.int .i64 (peekT toks s0.pos).kind, .str (peekT toks s0.pos).text]) by simp) (p0.new 1) nf
  obtain ⟨stq1, rq1⟩ := pq1.row
  have qq1 := getL rq1
  have nb12 : (H0.length + 1 = H1.length) = False := by have := lG k1c; simp; omega
  refine qP (a5 hg r1 q1 k1a (a3 k1b k1c nb12)) zgo55 (peek_a (by first | exact rq1 | exact qq1 _) hl pq1.pos) ?_
  refine qX (a5 y32 hg r1 q1 (a4 k1a k1b k1c nb12)) ?_
  repeat refine wS ?_
  refine awp_abs (fun H2 => ∃ F2, PSt toks ip s0 F2 H2 ∧ Fr F0 F2 H0 H2 ∧ (H2[0]? = some gO ∧ 0 ∉ F2) ∧ (H2[H0.length]? = some (.row [.optr ip 0]) ∧ H0.length ∉ F2) ∧ H2[H0.length + 1]? = some (.row [.int .i64 (peekT toks sq1.pos).kind, .str (peekT toks sq1.pos).text])) ?_ ?_
  ·have hb := lG k1c
   have hne : ∀ b, b ≠ H0.length + 1 → ∀ o, (H1.set (H0.length + 1) o)[b]? = H1[b]? := fun b hb o => List.getElem?_set_ne (Ne.symm hb)
   refine ⟨F1, p1.fr fun i hi => hne i (fun e => n1c (e ▸ hi)) _, ⟨by rw [lS]; exact f1.len, fun id h1 h2 => by rw [hne id (by omega)]; exact f1.same id h1 h2, f1.ids⟩, ⟨by rw [hne 0 (by omega)]; exact k1a, n1a⟩, ⟨by rw [hne _ (by omega)]; exact k1b, n1b⟩, by rw [List.getElem?_set_self hb]⟩
  rintro H2 ⟨F2, p2, f2, ⟨k2a, n2a⟩, ⟨k2b, n2b⟩, kt2⟩
  obtain ⟨st2, r2⟩ := p2.row
  have q2 := getL r2
  have b2a := getL k2a
  have b2b := getL k2b
  have qt2 := getL kt2
  refine wR ?_
  refine qU 2 (a5 y9 y32 hg nb12 (a5 r2 q2 k2a k2b (a4 kt2 b2a b2b qt2))) ?_
  refine qP (a5 hg nb12 r2 q2 (a5 k2a k2b kt2 b2a (a2 b2b qt2))) zgo58 (itemKind_c (by first | exact k2a | exact b2a _) (peekT toks sq1.pos).text) ?_
  refine qX (a5 y3 hg nb12 r2 (a5 q2 k2a k2b kt2 (a3 b2a b2b qt2))) ?_
  refine gE (a5 y3 y32 hg nb12 (a5 r2 q2 k2a k2b (a4 kt2 b2a b2b qt2))) ?_
  refine qI (a5 hg r1 q1 k1a (a3 k1b k1c nb12)) (fun bt21 => ?_) (fun bt21 => ?_)
  ·-- if t21
   rw [ifT bt21] at hm
   refine qL [1] (a5 hg r1 q1 k1a (a3 k1b k1c nb12)) ?_
   repeat refine wS ?_
   have k2a := getL k2a [.row [.int .i64 (itemKindI (peekT toks sq1.pos).text)]]
   have k2b := getL k2b [.row [.int .i64 (itemKindI (peekT toks sq1.pos).text)]]
   have k2c : (H2 ++ [.row [.int .i64 (itemKindI (peekT toks sq1.pos).text)]])[H2.length]? = some (.row [.int .i64 (itemKindI (peekT toks sq1.pos).text)]) := by simp
   have n2c := p2.new0
   have b2a := getL k2a
   have b2b := getL k2b
   have b2c := getL k2c
   refine wR ?_
   refine qU 1 (a5 y57 hg nb12 r2 (a5 q2 k2a k2b kt2 (a3 b2a b2b qt2))) ?_
   obtain ⟨s3, e3, hm⟩ := oB hm
   refine oC (by simp only [kC, seval, vint, qC, hg, nb12, r2, q2, k2a, k2b, kt2, b2a, b2b, qt2] <;> with_reducible rfl) (by simp only [kC, seval, vint, qC, hg, nb12, r2, q2, k2a, k2b, kt2, b2a, b2b, qt2]) (by decide) zgo59 ((by first | exact FG.ap0 (m77_w (n := n) IH) e3 p2 ⟨k2a, n2a⟩ | exact FG.ap' (m77_w (n := n) IH) e3 p2 ⟨k2a, n2a⟩ | exact FG.ap (m77_w (n := n) IH) e3 p2 ⟨k2a, n2a⟩)) ?_
   rintro _ H3 ⟨rfl, F3, p3, g3⟩
   have f3 := f2.stX g3
   obtain ⟨st3, r3⟩ := p3.row
   have q3 := getL r3
   obtain ⟨k3a, n3a⟩ := g3.gtX k2a n2a
   have b3a := getL k3a
   obtain ⟨k3b, n3b⟩ := g3.gtX k2b n2b
   have b3b := getL k3b
   obtain ⟨k3c, n3c⟩ := g3.gtX k2c n2c
   have b3c := getL k3c
   refine oN ?_
   repeat refine wS ?_
   refine wT ⟨.inr rfl, _, rfl, ?_⟩
   injection hm with hm
   subst hm
   exact finX p3 f3
  ·-- else t21
   rw [ifF bt21] at hm
   refine qK ?_
   refine qL [1, 3] (a5 hg r1 q1 k1a (a3 k1b k1c nb12)) ?_
   repeat refine wS ?_
   have k2a := getL k2a [.row [.int .i64 (itemKindI (peekT toks sq1.pos).text)]]
   have k2b := getL k2b [.row [.int .i64 (itemKindI (peekT toks sq1.pos).text)]]
   have k2c : (H2 ++ [.row [.int .i64 (itemKindI (peekT toks sq1.pos).text)]])[H2.length]? = some (.row [.int .i64 (itemKindI (peekT toks sq1.pos).text)]) := by simp
   have n2c := p2.new0
   have b2a := getL k2a
   have b2b := getL k2b
   have b2c := getL k2c
   refine wR ?_
   refine qU 3 (a5 y3 y57 hg nb12 (a5 r2 q2 k2a k2b (a4 kt2 b2a b2b qt2))) ?_
   obtain ⟨s3, e3, hm⟩ := oB hm
   refine qN (a5 hg nb12 kt2 qt2 (w3 r2 k2a k2b)) (FC.apX (node_c toks ip (itemKindI (peekT toks sq1.pos).text) 61 [] [.optr (H0.length) 0, .optr (H2.length) 0] zgo61 (stbL [(0, gO), (H0.length, .row [.optr ip 0]), (H2.length, .row [.int .i64 (itemKindI (peekT toks sq1.pos).text)])]) (m79_w (n := n) IH (H0.length) (H2.length) (itemKindI (peekT toks sq1.pos).text))) e3 p2 ⟨⟨k2a, n2a⟩, ⟨k2b, n2b⟩, ⟨k2c, n2c⟩, trivial⟩) ?_
   rintro _ H3 ⟨rfl, F3, p3, g3⟩
   have f3 := f2.stX g3
   obtain ⟨st3, r3⟩ := p3.row
   have q3 := getL r3
   obtain ⟨k3a, n3a⟩ := g3.gtX k2a n2a
   have b3a := getL k3a
   obtain ⟨k3b, n3b⟩ := g3.gtX k2b n2b
   have b3b := getL k3b
   obtain ⟨k3c, n3c⟩ := g3.gtX k2c n2c
   have b3c := getL k3c
   refine enX ?_
   injection hm with hm
   subst hm
   exact finX p3 f3
 ·-- else t8
  rw [ifF bt8] at hm
  refine qK ?_
  refine qT 2 (a5 y9 y32 r0 q0 hg) ?_
  refine qP (a3 r0 q0 hg) zgo58 (itemKind_c (getL hg _) (peekT toks s0.pos).text) ?_
  refine qX (a4 y3 r0 q0 hg) ?_
  repeat refine wS ?_
  have k0c : (H0 ++ [.row [.optr ip 0], .row [.int .i64 (peekT toks s0.pos).kind, .str (peekT toks s0.pos).text], .row [.int .i64 (itemKindI (peekT toks s0.pos).text)]])[H0.length + 2]? = some (.row [.int .i64 (itemKindI (peekT toks s0.pos).text)]) := by simp
  have n0c := p0.new 2
  have b0c := getL k0c
  have k0b : (H0 ++ [.row [.optr ip 0], .row [.int .i64 (peekT toks s0.pos).kind, .str (peekT toks s0.pos).text], .row [.int .i64 (itemKindI (peekT toks s0.pos).text)]])[H0.length]? = some (.row [.optr ip 0]) := by simp
  have b0b := getL k0b
  have k0a := getL hg [.row [.optr ip 0], .row [.int .i64 (peekT toks s0.pos).kind, .str (peekT toks s0.pos).text], .row [.int .i64 (itemKindI (peekT toks s0.pos).text)]]
  have b0a := getL k0a
  refine g_eval (by simp only [jG, jO, jN, seval, y3, y32, vint, qC, r0, q0, hg] <;> with_reducible rfl) (by decide) (by repeat (first | exact Fin.base _ | with_reducible apply Fin.keep | apply Fin.drop)) ?_
  refine qI (a3 r0 q0 hg) (fun bt21 => ?_) (fun bt21 => ?_)
  ·-- if t21
   rw [ifT bt21] at hm
   refine qL [1] (a3 r0 q0 hg) ?_
   refine qT 1 (a4 y57 r0 q0 hg) ?_
   obtain ⟨s1, e1, hm⟩ := oB hm
   refine oC (by simp only [kC, seval, vint, qC, r0, q0, hg] <;> with_reducible rfl) (by simp only [kC, seval, vint, qC, r0, q0, hg]) (by decide) zgo59 ((by first | exact FG.ap0 (m77_w (n := n) IH) e1 p0 ⟨k0a, n0a⟩ | exact FG.ap' (m77_w (n := n) IH) e1 p0 ⟨k0a, n0a⟩ | exact FG.ap (m77_w (n := n) IH) e1 p0 ⟨k0a, n0a⟩)) ?_
   rintro _ H1 ⟨rfl, F1, p1, g1⟩
   have f1 := f0.stX g1
   obtain ⟨st1, r1⟩ := p1.row
   have q1 := getL r1
   obtain ⟨k1a, n1a⟩ := g1.gtX k0a n0a
   have b1a := getL k1a
   obtain ⟨k1b, n1b⟩ := g1.gtX k0b n0b
   have b1b := getL k1b
   obtain ⟨k1c, n1c⟩ := g1.gtX k0c n0c
   have b1c := getL k1c
   refine oN ?_
   repeat refine wS ?_
   refine wT ⟨.inr rfl, _, rfl, ?_⟩
   injection hm with hm
   subst hm
   exact finX p1 f1
  ·-- else t21
   rw [ifF bt21] at hm
   refine qK ?_
   refine qL [1, 3] (a3 r0 q0 hg) ?_
   refine qT 3 (a5 y3 y57 r0 q0 hg) ?_
   obtain ⟨s1, e1, hm⟩ := oB hm
   refine qN (a2 hg (w1 r0)) (FC.apX (node_c toks ip (itemKindI (peekT toks s0.pos).text) 61 [] [.optr (H0.length) 0, .optr (H0.length + 2) 0] zgo61 (stbL [(0, gO), (H0.length, .row [.optr ip 0]), (H0.length + 2, .row [.int .i64 (itemKindI (peekT toks s0.pos).text)])]) (m79_w (n := n) IH (H0.length) (H0.length + 2) (itemKindI (peekT toks s0.pos).text))) e1 p0 ⟨⟨k0a, n0a⟩, ⟨k0b, n0b⟩, ⟨k0c, n0c⟩, trivial⟩) ?_
   rintro _ H1 ⟨rfl, F1, p1, g1⟩
   have f1 := f0.stX g1
   obtain ⟨st1, r1⟩ := p1.row
   have q1 := getL r1
   obtain ⟨k1a, n1a⟩ := g1.gtX k0a n0a
   have b1a := getL k1a
   obtain ⟨k1b, n1b⟩ := g1.gtX k0b n0b
   have b1b := getL k1b
   obtain ⟨k1c, n1c⟩ := g1.gtX k0c n0c
   have b1c := getL k1c
   refine enX ?_
   injection hm with hm
   subst hm
   exact finX p1 f1
end Go.Abs
namespace Go.Abs
def stepR (toks : List Tk) (n : Nat) (R : Rec) : Rec
 | .block => m121 toks n R | .statement => m147 toks n R | .letS => m168 toks n R | .returnStmt => m170 toks n R | .expr => m107 toks n R | .binary l => m135 toks n R l | .unary => m154 toks n R | .arguments => m184 toks n R
 | .postfx => m177 toks n R | .primary => m171 toks n R | .ifExpr => m186 toks n R | .matchE => m187 toks n R | .structLit => m188 toks n R | .lambda => m189 toks n R | .pattern => m182 toks n R | .path b => m133 toks n R b
 | .typeExpr => m106 toks n R | .typeParams => m118 toks n R | .params c => m108 toks n R c | .function b => m100 toks n R b | .itemBody k => m82 toks n R k | .item => m51 toks n R
def recN (toks : List Tk) (n : Nat) : Nat → Rec
 | 0 => fun _ _ => none
 | k + 1 => stepR toks n (recN toks n k)
theorem ihs (toks : List Tk) (ip n : Nat) : ∀ k, IHs toks ip (recN toks n k)
 | 0 => fun fn => FG.none fun _ => rfl
 | k + 1 => fun fn => match fn with
  | .block => m121_w (n := n) (ihs toks ip n k) | .statement => m147_w (n := n) (ihs toks ip n k) | .letS => m168_w (n := n) (ihs toks ip n k) | .returnStmt => m170_w (n := n) (ihs toks ip n k) | .expr => m107_w (n := n) (ihs toks ip n k)
  | .binary l => m135_w (n := n) (ihs toks ip n k) l | .unary => m154_w (n := n) (ihs toks ip n k) | .arguments => m184_w (n := n) (ihs toks ip n k) | .postfx => m177_w (n := n) (ihs toks ip n k) | .primary => m171_w (n := n) (ihs toks ip n k)
  | .ifExpr => m186_w (n := n) (ihs toks ip n k) | .matchE => m187_w (n := n) (ihs toks ip n k) | .structLit => m188_w (n := n) (ihs toks ip n k) | .lambda => m189_w (n := n) (ihs toks ip n k) | .pattern => m182_w (n := n) (ihs toks ip n k) | .path b => m133_w (n := n) (ihs toks ip n k) b
  | .typeExpr => m106_w (n := n) (ihs toks ip n k) | .typeParams => m118_w (n := n) (ihs toks ip n k) | .params c => m108_w (n := n) (ihs toks ip n k) c | .function b => m100_w (n := n) (ihs toks ip n k) b | .itemBody j => m82_w (n := n) (ihs toks ip n k) j | .item => m51_w (n := n) (ihs toks ip n k)
end Go.Abs
namespace Go.Abs
open Go.Proofs
def topM (s : PS) : Option St := match s.stack with
 | [f] => some ⟨f.kind, [], f.kids⟩
 | _ => none
theorem topM_inv {s : PS} {t : St} (h : topM s = some t) : ∃ f, s.stack = [f] ∧ t = ⟨f.kind, [], f.kids⟩ := by
 unfold topM at h
 split at h
 ·rename_i f hst; injection h with h; exact ⟨f, hst, h.symm⟩
 ·cases h
def parseT (tk : List Tk) (k n : Nat) : Option St := ((loopM (fun s1 => !eofM tk s1) (fun s1 => (recN tk n k .item s1).bind fun s2 => some s2) n ⟨0, [⟨1, []⟩], false⟩).bind fun s1 => (skipM tk s1).bind topM)
theorem parse_c (src : List UInt8) (k n : Nat) {t : St} {H0 : Heap} (hs : src.length ≤ maxLen) (h2000 : (src.length : Int) ≤ 2000) (hlim : (toks src).length ≤ lim) (hG : Pre G0 H0) (hm : parseT (toks src) k n = some t) : ACalls Tryz.prog 10 [.str src] H0 fun r H' => r = .tup [t.enc, vint 0] ∧ Fr [] [] H0 H' := by
 have hk := tokz_c src hs
 rw [if_neg (by omega), if_neg (by omega)] at hk
 generalize toks src = tk at hk hm hlim
 unfold parseT at hm
 refine aF (N := 34) Tryz.func10 rfl rfl (by simp) fun hb' => ?_
 refine qE (a3 y38 zStf zStd) ?_
 refine qT 1 (a2 zStf zStd) ?_
 refine qP (a2 zStf zStd) zgo15 (hk _ (fun k o h => getL (hG k o h) _)) ?_
 refine qX (a2 zStf zStd) ?_
 refine qE (a3 y27 zStf zStd) ?_
 refine qF (a2 zStf zStd) ?_
 refine qK ?_
 refine qT 2 (a3 y38 zStf zStd) ?_
 refine aops_bsK (t := 36) (n := 1) (es := [.agg [.int .i64 1, .str [], .slice [] .full]]) (by simp only [kC, seval, vint, qC]) rfl (by decide) zte36 ztz38 rfl (by decide) (by decide) (by decide) (by simp only [kC, seval, vint, qC, abuildSK, y38, zStf, zStd] <;> first | done | rfl) ?_
 have ea1 : ∀ (a b : AObj), (H0 ++ [a]) ++ [b] = H0 ++ [a, b] := fun a b => by simp
 have ea2 : ∀ a : AObj, List.length (H0 ++ [a]) = H0.length + 1 := fun a => by simp
 rw [ea1, ea2]
 refine qX (a3 y59 zStf zStd) ?_
 repeat refine wS ?_
 have p0 : PSt tk (H0.length + 2) ⟨0, [⟨1, []⟩], false⟩ [H0.length + 2, H0.length + 1] (H0 ++ [.row [.int .i64 0, .str [], .slice [] .full], .row (flatE [.agg [.int .i64 1, .str [], .slice [] .full]]), .row [.slice (tk.map Tk.enc) .none, .int .i64 ((0 : Nat) : Int), .msl (H0.length + 1) 0 1 1]]) := ⟨H0.length + 1, 1, [.int .i64 1, .str [], .slice [] .full], [], [], by simp, by simp [flatE, PV.cells], rfl, by decide, StkOk.cons (f := ⟨1, []⟩) .nil .nil (fun i hi => by cases hi), rfl, by omega, by simp, by simp, by simp, hlim⟩
 have hG0 := hG 0 _ rfl
 have k0a := getL hG0 [.row [.int .i64 0, .str [], .slice [] .full], .row (flatE [.agg [.int .i64 1, .str [], .slice [] .full]]), .row [.slice (tk.map Tk.enc) .none, .int .i64 ((0 : Nat) : Int), .msl (H0.length + 1) 0 1 1]]
 have hH0 := lG hG0
 have n0a : 0 ∉ [H0.length + 2, H0.length + 1] := by simp
 have k0b : (H0 ++ [.row [.int .i64 0, .str [], .slice [] .full], .row (flatE [.agg [.int .i64 1, .str [], .slice [] .full]]), .row [.slice (tk.map Tk.enc) .none, .int .i64 ((0 : Nat) : Int), .msl (H0.length + 1) 0 1 1]])[H0.length]? = some (.row [.int .i64 0, .str [], .slice [] .full]) := by simp
 have n0b : H0.length ∉ [H0.length + 2, H0.length + 1] := by simp
 have f0 := Fr.refl [H0.length + 2, H0.length + 1] (H0 ++ [.row [.int .i64 0, .str [], .slice [] .full], .row (flatE [.agg [.int .i64 1, .str [], .slice [] .full]]), .row [.slice (tk.map Tk.enc) .none, .int .i64 ((0 : Nat) : Int), .msl (H0.length + 1) 0 1 1]])
 obtain ⟨sL, eL, hmA⟩ := oB hm
 obtain ⟨s9, e9, hmB⟩ := oB hmA
 have hl := lim_le p0.len
 refine awp_block ?_
 refine awp_loopX (σ := Nat × PS × List Nat) (fun (z : Nat × PS × List Nat) => [(2, .optr H0.length 0), (6, .optr (H0.length + 2) 0)]) (fun (z : Nat × PS × List Nat) =>  fun H1 => loopM (fun s1 => !eofM tk s1) (fun s1 => (recN tk n k .item s1).bind fun s2 => some s2) z.1 z.2.1 = some sL ∧ PSt tk (H0.length + 2) z.2.1 z.2.2 H1 ∧ Fr [H0.length + 2, H0.length + 1] z.2.2 (H0 ++ [.row [.int .i64 0, .str [], .slice [] .full], .row (flatE [.agg [.int .i64 1, .str [], .slice [] .full]]), .row [.slice (tk.map Tk.enc) .none, .int .i64 ((0 : Nat) : Int), .msl (H0.length + 1) 0 1 1]]) H1 ∧ (H1[0]? = some gO ∧ 0 ∉ z.2.2) ∧ (H1[H0.length]? = some (.row [.int .i64 0, .str [], .slice [] .full]) ∧ H0.length ∉ z.2.2)) (fun (z : Nat × PS × List Nat) => z.1) ((n, ⟨0, [⟨1, []⟩], false⟩, [H0.length + 2, H0.length + 1])) ⟨(by first | rfl | (simp only [jN, seval, vint, qC, zStf, zStd] <;> first | done | with_reducible rfl)), (by first | rfl | (simp only [jN, seval, vint, qC, zStf, zStd] <;> first | done | with_reducible rfl)), trivial⟩ (⟨eL, p0, f0, ⟨k0a, n0a⟩, ⟨k0b, n0b⟩⟩) ?_
 intro z H1 hg
 obtain ⟨k1, s1, F1⟩ := z
 obtain ⟨hk1, p1, f1, ⟨k1a, n1a⟩, ⟨k1b, n1b⟩⟩ := hg
 simp only at hk1 p1 f1 k1a n1a k1b n1b
 obtain ⟨st1, r1⟩ := p1.row
 cases k1 with
 | zero => cases hk1
 | succ k1 => ?_
 unfold loopM at hk1
 refine qT 1 (a3 zStf zStd (w3 r1 k1a k1b)) ?_
 refine qP (a3 zStf zStd (w3 r1 k1a k1b)) zgo23 (atEOF_c (gtH r1) hl p1.pos) ?_
 refine qX (a3 zStf zStd (w3 r1 k1a k1b)) ?_
 refine qI (a3 zStf zStd (w3 r1 k1a k1b)) (fun bt23 => ?_) (fun bt23 => ?_)
 ·-- if t23
  rw [ifT bt23] at hk1
  obtain ⟨sB, hm1, hk1⟩ := oB hk1
  obtain ⟨s2, e2, hm1⟩ := oB hm1
  injection hm1 with hm1
  subst hm1
  refine qK ?_
  refine qB ?_
  refine qW 1 (a3 zStf zStd (w3 r1 k1a k1b)) ((by exact FG.ap0 (ihs tk (H0.length + 2) n k .item) e2 p1 ⟨k1a, n1a⟩)) ?_
  rintro _ H2 ⟨rfl, F2, p2, g2⟩
  have f2 := f1.trans g2
  obtain ⟨k2a, n2a⟩ := g2.gtX k1a n1a
  obtain ⟨k2b, n2b⟩ := g2.gtX k1b n1b
  try simp only [thenQ, blockQ]
  exact ⟨(k1, _, F2), Nat.lt_succ_self _, ⟨rfl, rfl, trivial⟩, hk1, p2, f2, ⟨k2a, n2a⟩, ⟨k2b, n2b⟩⟩
 ·-- else t23
  rw [ifF bt23] at hk1
  injection hk1 with hk1
  subst hk1
  repeat refine wS ?_
  refine awp_exit ?_
  simp only [thenQ, blockQ, reduceIte, Nat.reduceEqDiff, Nat.succ_ne_self, if_true, if_false]
  refine qW 1 (a3 zStf zStd (w3 r1 k1a k1b)) ((skipTrivia_c tk (H0.length + 2)).ap0 e9 p1) ?_
  rintro _ H2 ⟨rfl, F2, p2, g2⟩
  have f2 := f1.trans g2
  obtain ⟨k2a, n2a⟩ := g2.gtX k1a n1a
  obtain ⟨k2b, n2b⟩ := g2.gtX k1b n1b
  repeat refine wS ?_
  obtain ⟨⟨fk, fks⟩, hst, rfl⟩ := topM_inv hmB
  obtain ⟨is, c, R, ids, cid, cv, cells0, rest, sp⟩ := p2.split hst
  have h1 := sp.h1
  have h2 := sp.h2
  have htop := sp.top
  have hch := sp.ch
  have heF := sp.eF
  simp only at hch
  have h4 := sp.h4
  have h3 := sp.h3
  simp only [List.length_nil, Nat.zero_mul, List.drop_zero, Nat.zero_add] at htop h1 h4
  have gD1 : (R.take 3).map PV.drop1 = [.int .i64 fk, .str [], cv.drop1] := by rw [htop]; rfl
  have gL3 : (R.take 3).length = 3 := by rw [htop]; rfl
  have b3 : (3 ≤ R.length) = True := by simp; omega
  have hcl := hch.cell.1
  have hdd := hch.cell.2.1
  have hd0 := hch.cell.2.2
  have hne1 : (H0.length = H2.length) = False := by have := lG k2b; simp; omega
  refine eE (by simp only [kA, seval, y36, y38, y59, vint, qC, zStf, zStd, k2a, k2b, h1, h2, gD1, gL3, b3, hcl, hdd, hd0, k2b, hne1] <;> with_reducible rfl) (by decide) ?_
  repeat refine wS ?_
  have hb1 := lG k2b
  have hs1 : ∀ o, (H2.set H0.length o)[H0.length]? = some o := fun o => List.getElem?_set_self hb1
  have hold : ∀ i, i < H0.length → H2[i]? = H0[i]? := fun i hi => by
   rw [f2.same i (by simp; omega) (by simp; omega), List.getElem?_append_left hi]
  cases hch with
  | nil =>
   refine wT ⟨.inr rfl, _, (ares_two (.cell 2 38) (.tmp 3) rfl (ares_cell1 zti38 (by decide) (by simp only [jL, jN, seval, vint, qC, hs1] <;> with_reducible rfl)) (ares_tmp1 (by decide))), ?_⟩
   refine ⟨?_, by have := f2.len; simp at this ⊢; omega, fun i hi _ => ?_, fun i hi => by cases hi⟩
   ·rw [St.enc_eq]; rfl
   ·rw [List.getElem?_set_ne (by omega)]; exact hold i hi
  | @msl ic c' kids rest' hH hcl' hmx =>
   obtain ⟨es, e1, e2, e3⟩ := chunk3 (c' - fks.length) rest' (by omega)
   have hicF : ic ∈ F2 := by rw [heF]; simp
   have hicn : ic ≠ H0.length := fun e => n2b (e ▸ hicF)
   have hic2 : H0.length ≤ ic := by
    rcases Nat.lt_or_ge ic H0.length with h | h
    ·have := f2.ids ic hicF (by simp; omega); simp at this; omega
    ·exact h
   have hrow : ((H2.set H0.length (.row [.int .i64 fk, .str [], .msl ic 0 fks.length c'])))[ic]? = some (.row (flatE (fks.map St.enc ++ es))) := by rw [List.getElem?_set_ne (Ne.symm hicn), hH, flatE_append, e2]
   refine awp_frz1R ic fks.length 3 H0.length (fks.map St.enc ++ es) hrow (by simp) (fun e he => ?_) (List.getElem?_set_self hb1) (Ne.symm hicn) (cs' := [.int .i64 fk, .str [], .slice (fks.map St.enc) .none]) rfl (fun i h1 h2 => ?_) ?_
   ·rcases List.mem_append.1 he with he | he
    ·obtain ⟨v, _, rfl⟩ := List.mem_map.1 he; exact v.enc_len
    ·exact e3 e he
   ·match i, h1, h2 with
    | 0, _, _ => exact .same _
    | 1, _, _ => exact .same _
    | 2, _, _ =>
     have : (fks.map St.enc ++ es).take fks.length = fks.map St.enc := by rw [List.take_append_of_le_length (by simp), List.take_of_length_le (by simp)]
     have h := Fz.msl (id := ic) (k := fks.length) (es := fks.map St.enc ++ es) c' (by omega)
     rw [this] at h
     exact h
   have hbx : (((H2.set H0.length (.row [.int .i64 fk, .str [], .msl ic 0 fks.length c'])).set ic dead).set H0.length (.row [.int .i64 fk, .str [], .slice (fks.map St.enc) .none]))[H0.length]? = some (.row [.int .i64 fk, .str [], .slice (fks.map St.enc) .none]) := List.getElem?_set_self (by simpa using hb1)
   refine wT ⟨.inr rfl, _, (ares_two (.cell 2 38) (.tmp 3) rfl (ares_cell1 zti38 (by decide) (by simp only [jL, jN, seval, vint, qC, hbx] <;> with_reducible rfl)) (ares_tmp1 (by decide))), ?_⟩
   refine ⟨?_, by have := f2.len; simp at this ⊢; omega, fun i hi _ => ?_, fun i hi => by cases hi⟩
   ·rw [St.enc_eq]; rfl
   ·rw [List.getElem?_set_ne (by omega), List.getElem?_set_ne (by omega), List.getElem?_set_ne (by omega)]; exact hold i hi
end Go.Abs
namespace Go.Abs
structure Ed where
  st : Int
  en : Int
  tx : List UInt8
def Ed.enc (t : Ed) : PV := .agg [.int .i64 t.st, .int .i64 t.en, .str t.tx]
theorem Ed.enc_eq (t : Ed) : t.enc = .agg [.int .i64 t.st, .int .i64 t.en, .str t.tx] := rfl
theorem Ed.enc_cells (t : Ed) : t.enc.cells = [.int .i64 t.st, .int .i64 t.en, .str t.tx] := rfl
theorem Ed.eta (t : Ed) : Ed.mk t.st t.en t.tx = t := rfl
theorem Ed.enc_drop1 (t : Ed) : t.enc.drop1 = t.enc := by rw [Ed.enc_eq]; rfl
theorem Ed.enc_drop0 (t : Ed) : t.enc.drop0 = t.enc := by rw [Ed.enc_eq]; rfl
theorem Ed.enc_len (t : Ed) : t.enc.cells.length = 3 := by rw [Ed.enc_cells]; rfl
theorem Ed.enc_junk (t : Ed) : t.enc.isJunk = false := by rw [Ed.enc_eq]; rfl
theorem Ed.enc_agg (t : Ed) : PV.agg t.enc.cells = t.enc := by rw [Ed.enc_cells, Ed.enc_eq]
theorem Ed.bel (n : Nat) (t : Ed) : Bel n t.enc := .agg _ (by
  intro c hc
  simp only [List.mem_cons, List.not_mem_nil, or_false] at hc
  rcases hc with rfl | rfl | rfl
  · exact .int _ _
  · exact .int _ _
  · exact .str _)
theorem bel_Ed (n : Nat) (us : List Ed) : Bel n (.slice (us.map Ed.enc) .none) := .slice _ _ (fun e he c hc => by
  obtain ⟨b, _, rfl⟩ := List.mem_map.1 he
  have := Ed.bel n b
  rw [Ed.enc_eq] at this hc
  cases this with | agg _ h => exact h c hc) (by simp)
theorem EdS : (∀ t : Ed, t.enc.cells = [.int .i64 t.st, .int .i64 t.en, .str t.tx]) ∧ (∀ t : Ed, t.enc.isJunk = false) ∧ (∀ t : Ed, t.enc.drop1 = t.enc) ∧ (∀ t : Ed, t.enc.drop0 = t.enc) ∧ (∀ (t : Ed) (b : Nat), t.enc.fits ⟨true, 3, b⟩ = true) :=
  ⟨Ed.enc_cells, Ed.enc_junk, Ed.enc_drop1, Ed.enc_drop0, fun t b => by rw [Ed.enc_eq]; rfl⟩
theorem EdF : (∀ (st : Int) (en : Int) (tx : List UInt8), PV.agg [.int .i64 st, .int .i64 en, .str tx] = (Ed.mk st en tx).enc) ∧
    (∀ t : Ed, Ed.mk t.st t.en t.tx = t) ∧
    (∀ (st : Int) (en : Int) (tx : List UInt8), (Ed.mk st en tx).st = st) ∧
    (∀ (st : Int) (en : Int) (tx : List UInt8), (Ed.mk st en tx).en = en) ∧
    (∀ (st : Int) (en : Int) (tx : List UInt8), (Ed.mk st en tx).tx = tx) :=
  ⟨fun st en tx => (Ed.enc_eq (Ed.mk st en tx)).symm, Ed.eta, fun _ _ _ => rfl, fun _ _ _ => rfl, fun _ _ _ => rfl⟩
def Ed.W (t : Ed) : Prop := t.tx.length ≤ 2 ^ 47
structure Cd where
  tree : St
  start : Int
  fin : Int
  look : Int
def Cd.enc (t : Cd) : PV := .agg [.int .i64 t.tree.kind, .str t.tree.text, .slice (t.tree.ch.map St.enc) .none, .int .i64 t.start, .int .i64 t.fin, .int .i64 t.look]
theorem Cd.enc_eq (t : Cd) : t.enc = .agg [.int .i64 t.tree.kind, .str t.tree.text, .slice (t.tree.ch.map St.enc) .none, .int .i64 t.start, .int .i64 t.fin, .int .i64 t.look] := rfl
theorem Cd.enc_cells (t : Cd) : t.enc.cells = [.int .i64 t.tree.kind, .str t.tree.text, .slice (t.tree.ch.map St.enc) .none, .int .i64 t.start, .int .i64 t.fin, .int .i64 t.look] := rfl
theorem Cd.eta (t : Cd) : Cd.mk t.tree t.start t.fin t.look = t := rfl
theorem Cd.enc_drop1 (t : Cd) : t.enc.drop1 = t.enc := by rw [Cd.enc_eq]; rfl
theorem Cd.enc_drop0 (t : Cd) : t.enc.drop0 = t.enc := by rw [Cd.enc_eq]; rfl
theorem Cd.enc_len (t : Cd) : t.enc.cells.length = 6 := by rw [Cd.enc_cells]; rfl
theorem Cd.enc_junk (t : Cd) : t.enc.isJunk = false := by rw [Cd.enc_eq]; rfl
theorem Cd.enc_agg (t : Cd) : PV.agg t.enc.cells = t.enc := by rw [Cd.enc_cells, Cd.enc_eq]
theorem Cd.bel (n : Nat) (t : Cd) : Bel n t.enc := .agg _ (by
  intro c hc
  simp only [List.mem_cons, List.not_mem_nil, or_false] at hc
  rcases hc with rfl | rfl | rfl | rfl | rfl | rfl
  · exact .int _ _
  · exact .str _
  · exact bel_St _ _
  · exact .int _ _
  · exact .int _ _
  · exact .int _ _)
theorem bel_Cd (n : Nat) (us : List Cd) : Bel n (.slice (us.map Cd.enc) .none) := .slice _ _ (fun e he c hc => by
  obtain ⟨b, _, rfl⟩ := List.mem_map.1 he
  have := Cd.bel n b
  rw [Cd.enc_eq] at this hc
  cases this with | agg _ h => exact h c hc) (by simp)
theorem bel_Cd_tok {n id : Nat} (us : List Cd) (h : id < n) : Bel n (.slice (us.map Cd.enc) (.tok id)) := by
  have := bel_Cd n us
  cases this with
  | slice _ _ h1 h2 => exact .slice _ _ h1 (fun _ e => by cases e; exact h)
theorem CdS : (∀ t : Cd, t.enc.cells = [.int .i64 t.tree.kind, .str t.tree.text, .slice (t.tree.ch.map St.enc) .none, .int .i64 t.start, .int .i64 t.fin, .int .i64 t.look]) ∧ (∀ t : Cd, t.enc.isJunk = false) ∧ (∀ t : Cd, t.enc.drop1 = t.enc) ∧ (∀ t : Cd, t.enc.drop0 = t.enc) ∧ (∀ (t : Cd) (b : Nat), t.enc.fits ⟨true, 6, b⟩ = true) :=
  ⟨Cd.enc_cells, Cd.enc_junk, Cd.enc_drop1, Cd.enc_drop0, fun t b => by rw [Cd.enc_eq]; rfl⟩
theorem CdF : (∀ (treekind : Int) (treetext : List UInt8) (treech : List (St)) (start : Int) (fin : Int) (look : Int), PV.agg [.int .i64 treekind, .str treetext, .slice (treech.map St.enc) .none, .int .i64 start, .int .i64 fin, .int .i64 look] = (Cd.mk (St.mk treekind treetext treech) start fin look).enc) ∧
    (∀ (treekind : Int) (treetext : List UInt8) (start : Int) (fin : Int) (look : Int), PV.agg [.int .i64 treekind, .str treetext, .slice [] .none, .int .i64 start, .int .i64 fin, .int .i64 look] = (Cd.mk (St.mk treekind treetext []) start fin look).enc) ∧
    (∀ t : Cd, Cd.mk t.tree t.start t.fin t.look = t) ∧
    (∀ (tree : St) (start : Int) (fin : Int) (look : Int), (Cd.mk tree start fin look).tree = tree) ∧
    (∀ (tree : St) (start : Int) (fin : Int) (look : Int), (Cd.mk tree start fin look).start = start) ∧
    (∀ (tree : St) (start : Int) (fin : Int) (look : Int), (Cd.mk tree start fin look).fin = fin) ∧
    (∀ (tree : St) (start : Int) (fin : Int) (look : Int), (Cd.mk tree start fin look).look = look) :=
  ⟨fun treekind treetext treech start fin look => (Cd.enc_eq (Cd.mk (St.mk treekind treetext treech) start fin look)).symm, fun treekind treetext start fin look => (Cd.enc_eq (Cd.mk (St.mk treekind treetext []) start fin look)).symm, Cd.eta, fun _ _ _ _ => rfl, fun _ _ _ _ => rfl, fun _ _ _ _ => rfl, fun _ _ _ _ => rfl⟩
def Cd.W (t : Cd) : Prop := t.tree.W
theorem app_Cd {us : List Cd} {u : Cd} {id : Nat} {tl : Tail} (hb : (us.length + 1) * 72 ≤ 2 ^ 47) (fresh : Nat) (H : Heap) (hH : H[id]? = some (.buf us.length 6)) :
    aappend ⟨true, 6, 72⟩ fresh H (.slice (us.map Cd.enc) (.tok id)) (.slice [u.enc] tl) = some (.slice ((us ++ [u]).map Cd.enc) (.tok id), some (id, .buf (us.length + 1) 6)) := by
  have hmx : maxLen = 9223372036854775807 := by decide
  rw [aappend_tok1 (n := us.length) hH (by simp) (by simpa using hb) (by simp; omega) (fun e he => by obtain ⟨v, _, rfl⟩ := List.mem_map.1 he; exact v.enc_len) u.enc_len (by rw [Cd.enc_cells]; rfl) (by decide)]
  simp
theorem qR : type_of% (aI @EdS (aI @EdF (aI @CdS (@CdF)))) := aI @EdS (aI @EdF (aI @CdS (@CdF)))
end Go.Abs
namespace Go.Abs
open Go.Proofs
def ftV (s : List UInt8) (k : Int) (n : Nat) : Tk := ⟨k, s.take n⟩
def ftT (s : List UInt8) : Tk := ⟨(firstT s).2, s.take (firstT s).1⟩
def punQ (s p : List UInt8) : Bool := decide (s.take p.length = p)
theorem punQ_len {s p : List UInt8} (h : punQ s p = true) : p.length ≤ s.length := by
 have h := of_decide_eq_true h
 have := congrArg List.length h
 rw [List.length_take] at this; omega
def punT (s : List UInt8) : Nat × Int := match punL.find? (punQ s) with | some p => (p.length, 107) | none => (1, 108)
theorem punL_split : punL = twoL ++ oneL.map fun x => [x] := by kernel_rfl
theorem punT_eq (c : UInt8) (r : List UInt8) : punT (c :: r) = if (c :: r).length > 1 ∧ twoL.contains ((c :: r).take 2) = true then (2, 107) else if oneL.contains c then (1, 107) else (1, 108) := by
 have h2 : ∀ p ∈ twoL, p.length = 2 := by decide
 unfold punT
 rw [punL_split, List.find?_append]
 cases h : twoL.find? (punQ (c :: r)) with
 | some p =>
  have hp := h2 p (List.mem_of_find?_eq_some h)
  have hq := List.find?_some h
  have hl := punQ_len hq
  have ht := of_decide_eq_true hq
  rw [hp] at ht hl
  rw [if_pos ⟨by omega, by rw [ht]; exact List.contains_iff_mem.2 (List.mem_of_find?_eq_some h)⟩]
  simp [hp]
 | none =>
  have hn := List.find?_eq_none.1 h
  rw [if_neg]
  ·simp only [Option.none_or, List.find?_map]
   have hf : (punQ (c :: r) ∘ fun x => [x]) = fun x => decide (c = x) := by
    funext x
    simp [punQ]
   rw [hf]
   cases h1 : oneL.find? (fun x => decide (c = x)) with
   | none =>
    have hm := List.find?_eq_none.1 h1
    rw [if_neg]
    ·rfl
    ·intro hc
     exact hm c (List.contains_iff_mem.1 hc) (by simp)
   | some x =>
    have hx := List.find?_some h1
    have : c = x := by simpa using hx
    subst this
    rw [if_pos (List.contains_iff_mem.2 (List.mem_of_find?_eq_some h1))]
    rfl
  ·rintro ⟨hl, hc⟩
   have hm := List.contains_iff_mem.1 hc
   refine hn _ hm ?_
   unfold punQ
   rw [h2 _ hm]
   simp
theorem find_at {α : Type} {p : α → Bool} {xs : List α} {i : Nat} (hi : i < xs.length) (h : p xs[i] = true) (h' : (xs.take i).any p = false) : xs.find? p = some xs[i] := by
 rw [List.find?_eq_some_iff_getElem]
 refine ⟨h, i, hi, rfl, fun j hj => ?_⟩
 rw [List.any_eq_false] at h'
 have := h' xs[j] (by rw [List.mem_take_iff_getElem]; exact ⟨j, by omega, rfl⟩)
 simpa using this
theorem find_none {α : Type} {p : α → Bool} {xs : List α} (h : xs.any p = false) : xs.find? p = none := by
 rw [List.find?_eq_none]
 intro x hx
 rw [List.any_eq_false] at h
 exact h x hx
theorem ftT_eq (c : UInt8) (r : List UInt8) : firstT (c :: r) = if 0 < runL isSpB (c :: r) then (runL isSpB (c :: r), 101) else if (c :: r).take 2 = [47, 47] then (runL notNl (c :: r), 102)
  else if 0 < runL isDigB (c :: r) then (runL isDigB (c :: r), 105) else if 0 < runL wordB (c :: r) then (if kwL.contains ((c :: r).take (runL wordB (c :: r))) then (runL wordB (c :: r), 104) else (runL wordB (c :: r), 103))
  else if c = 34 then (if 0 < litV (c :: r) then (litV (c :: r), 106) else (runL notNl (c :: r), 108)) else punT (c :: r) := by
 have hdl : isDigB c = true → isLetB c = false := by
  intro h
  have h := h
  simp only [isDigB, Bool.and_eq_true, decide_eq_true_eq, UInt8.le_iff_toNat_le] at h
  simp only [isLetB, Bool.or_eq_false_iff, Bool.and_eq_false_iff, decide_eq_false_iff_not, UInt8.le_iff_toNat_le]
  have e1 : (48 : UInt8).toNat = 48 := rfl
  have e2 : (57 : UInt8).toNat = 57 := rfl
  have e3 : (97 : UInt8).toNat = 97 := rfl
  have e4 : (65 : UInt8).toNat = 65 := rfl
  refine ⟨⟨.inl (by omega), .inl (by omega)⟩, ?_⟩
  rw [beq_eq_false_iff_ne]
  rintro rfl
  have e5 : (95 : UInt8).toNat = 95 := rfl
  omega
 simp only [runL_pos]
 rw [punT_eq]
 unfold firstT
 simp only
 by_cases a1 : isSpB c = true
 ·rw [if_pos a1, if_pos a1]
 ·rw [if_neg a1, if_neg a1]
  by_cases a2 : (c :: r).take 2 = [47, 47]
  ·rw [if_pos a2, if_pos a2]
  ·rw [if_neg a2, if_neg a2]
   by_cases a3 : isDigB c = true
   ·rw [if_pos a3, hdl a3, if_neg (by simp), if_pos a3]
   ·rw [if_neg a3, if_neg a3]
    have hw : wordB c = isLetB c := by unfold wordB; simp only [Bool.not_eq_true] at a3; rw [a3]; simp
    rw [hw]
    by_cases a4 : isLetB c = true
    ·rw [if_pos a4, if_pos a4]
    ·rw [if_neg a4, if_neg a4]
     by_cases a5 : c = 34
     ·rw [if_pos a5, if_pos a5]
      unfold litV
      simp only [List.drop_succ_cons, List.drop_zero]
      cases litG false r with
      | none => simp
      | some k => simp
     ·rw [if_neg a5, if_neg a5]
theorem ft1_c (s : List UInt8) (hs : s.length ≤ maxLen) (kd : Int) (n : Nat) (hn : n ≤ s.length) (H : Heap) (a : Nat) (ha : H[a]? = some (.row [.str s])) : ACalls Tryz.prog 34 [vint kd, vint (n : Int), .optr a 0] H fun r' H' => r' = (ftV s kd n).enc ∧ H' = H := by
 have em : maxLen = 9223372036854775807 := by decide
 have q1 : ∀ L, (H ++ L)[a]? = some (.row [.str s]) := fun L => by rw [List.getElem?_append_left (lG ha)]; exact ha
 have h3 : ((0 : Int) ≤ n ∧ (n : Int) ≤ s.length) = True := by simp; omega
 have h4 : (n ≤ s.length) = True := by simp; omega
 have h5 : ((n : Int) ≤ (s.length : Int)) = True := by simp; omega
 have h6 : ((0 : Int) ≤ (n : Int)) = True := by simp
 refine keeps_of (N := 11) Tryz.func34 rfl rfl (by simp) (Tk.bel _ _) fun hb' => ?_
 refine qE (a3 y32 q1 ha) ?_
 repeat refine wS ?_
 refine eE (by simp only [kA, seval, y9, y32, vint, qC, q1, ha, jS, h3, h4, h5, h6, tN, List.drop_zero] <;> with_reducible rfl) (by decide) ?_
 repeat refine wS ?_
 refine wT ⟨.inr rfl, _, _, (ares_cell 5 32 rfl zti32 (by decide) (by simp only [jL, jN, seval, vint, qC, q1, ha] <;> with_reducible rfl)), ?_, (by first | exact (List.append_nil _).symm | rfl)⟩
 simp only [jL, jN, seval, vint, qC]
 try rfl
end Go.Abs
namespace Go.Abs
open Go.Proofs
theorem ft_c (c : UInt8) (r : List UInt8) (hs : (c :: r).length ≤ maxLen) : PC Tryz.prog 13 [.str (c :: r)] (ftT (c :: r)).enc := by
 have em : maxLen = 9223372036854775807 := by decide
 have hft := ftT_eq c r
 obtain ⟨n0, en0⟩ : ∃ n, runL isSpB (c :: r) = n := ⟨_, rfl⟩
 have rn0 := run_c (c :: r) hs 0
 have ln0 := runL_le isSpB (c :: r)
 rw [show clsP 0 = isSpB from funext fun c => by unfold clsP; simp] at rn0
 rw [en0] at hft ln0 rn0
 obtain ⟨n1, en1⟩ : ∃ n, runL notNl (c :: r) = n := ⟨_, rfl⟩
 have rn1 := run_c (c :: r) hs 1
 have ln1 := runL_le notNl (c :: r)
 rw [show clsP 1 = notNl from funext fun c => by unfold clsP; simp] at rn1
 rw [en1] at hft ln1 rn1
 obtain ⟨n3, en3⟩ : ∃ n, runL isDigB (c :: r) = n := ⟨_, rfl⟩
 have rn3 := run_c (c :: r) hs 3
 have ln3 := runL_le isDigB (c :: r)
 rw [show clsP 3 = isDigB from funext fun c => by unfold clsP; simp] at rn3
 rw [en3] at hft ln3 rn3
 obtain ⟨n2, en2⟩ : ∃ n, runL wordB (c :: r) = n := ⟨_, rfl⟩
 have rn2 := run_c (c :: r) hs 2
 have ln2 := runL_le wordB (c :: r)
 rw [show clsP 2 = wordB from funext fun c => by unfold clsP; simp] at rn2
 rw [en2] at hft ln2 rn2
 obtain ⟨s, hse⟩ : ∃ s, c :: r = s := ⟨_, rfl⟩
 have g2 : s[0]? = some c := by rw [← hse]; rfl
 have g1 : (0 < (s.length : Int)) = True := by rw [← hse]; simp
 have h1 : 1 ≤ s.length := by rw [← hse]; simp
 have hb := firstT_bd (s := s) (by rw [← hse]; simp)
 rw [hse] at hs hft rn0 rn1 rn2 rn3 ln0 ln1 ln2 ln3 ⊢
 obtain ⟨n4, en4⟩ : ∃ n, litV s = n := ⟨_, rfl⟩
 have rn4 := literal_c s hs h1
 rw [en4] at rn4 hft
 have e34 : decide ((c.toNat : Int) = 34) = (c == 34) := u8_eq c 34 (by decide)
 have h2 : s.length > 1 ∨ ¬ s.length > 1 := by omega
 unfold ftT
 refine pc_of (N := 92) Tryz.func13 rfl rfl (by simp) (by simp [Bel.int, Bel.str]) (Tk.bel _ _) ?_
 refine qE (a2 y9 y32) ?_
 refine qE0 ?_
 refine qT 1 y9 ?_
 refine qP0 zgo35 (rn0 _) ?_
 refine qX0 ?_
 refine qE y3 ?_
 refine qI0 (fun bt14 => ?_) (fun bt14 => ?_)
 ·-- if t14
  have hp : 0 < n0 := by have := of_decide_eq_true bt14; omega
  have hv : firstT s = (n0, 101) := by rw [hft, if_pos hp]
  refine qT0 2 ?_
  refine qP0 zgo34 (ft1_c s hs _ n0 ln0 _ 0 rfl) ?_
  refine qX y32 ?_
  repeat refine wS ?_
  refine wT ⟨.inr rfl, _, (ares_cell 2 32 rfl zti32 (by decide) (by simp only [jL, jN, seval, vint, qC] <;> with_reducible rfl)), ?_⟩
  rw [hv]
  simp only [jN, seval, vint, qC]
  try rfl
 ·-- else t14
  have hp : ¬ 0 < n0 := by have := of_decide_eq_false bt14; omega
  rw [if_neg hp] at hft
  refine qK ?_
  rcases h2 with h2 | h2
  ·-- case
   have l2 : (1 < (s.length : Int)) = True := by simp; omega
   have l3 : (2 ≤ (s.length : Int)) = True := by simp; omega
   repeat refine wS ?_
   refine g_eval (by simp only [jG, jO, jN, seval, y3, y9, jS, vint, qC, l2, l3, decide_true, List.drop_zero] <;> with_reducible rfl) (by decide) (by repeat (first | exact Fin.base _ | with_reducible apply Fin.keep | apply Fin.drop)) ?_
   repeat refine wS ?_
   refine wC rfl (by simp only [jN, seval, vint, qC, l2, l3, decide_true, List.drop_zero] <;> with_reducible rfl) (fun bt25 => ?_) (fun bt25 => ?_)
   ·-- if t25
    have hv : firstT s = (n1, 102) := by rw [hft, if_pos (of_decide_eq_true bt25)]
    refine wL [1, 2, 3] (by simp only [jN, seval, vint, qC, l2, l3, decide_true, List.drop_zero] <;> with_reducible rfl) ?_
    repeat refine wS ?_
    refine wR ?_
    refine eT 2 (by simp only [kA, seval, y9, vint, qC, l2, l3, decide_true, List.drop_zero] <;> with_reducible rfl) (by decide) ?_
    refine oP (by simp only [kC, seval, vint, qC, l2, l3, decide_true, List.drop_zero] <;> with_reducible rfl) (by simp only [kC, seval, vint, qC, l2, l3, decide_true, List.drop_zero]) (by decide) zgo35 (rn1 _) ?_
    refine oP (by simp only [kC, seval, vint, qC, l2, l3, decide_true, List.drop_zero] <;> with_reducible rfl) (by simp only [kC, seval, vint, qC, l2, l3, decide_true, List.drop_zero]) (by decide) zgo34 (ft1_c s hs _ n1 ln1 _ 0 rfl) ?_
    refine e_end (by simp only [kA, seval, y32, vint, qC, l2, l3, decide_true, List.drop_zero] <;> with_reducible rfl) (by decide) ?_
    repeat refine wS ?_
    refine wT ⟨.inr rfl, _, (ares_cell 2 32 rfl zti32 (by decide) (by simp only [jL, jN, seval, vint, qC, l2, l3, decide_true, List.drop_zero] <;> with_reducible rfl)), ?_⟩
    rw [hv]
    simp only [jN, seval, vint, qC]
    try rfl
   ·-- else t25
    rw [if_neg (of_decide_eq_false bt25)] at hft
    refine qK ?_
    refine wL [1, 2, 3] (by simp only [jN, seval, vint, qC, l2, l3, decide_true, List.drop_zero] <;> with_reducible rfl) ?_
    repeat refine wS ?_
    refine wR ?_
    refine eT 1 (by simp only [kA, seval, y9, vint, qC, l2, l3, decide_true, List.drop_zero] <;> with_reducible rfl) (by decide) ?_
    refine oP (by simp only [kC, seval, vint, qC, l2, l3, decide_true, List.drop_zero] <;> with_reducible rfl) (by simp only [kC, seval, vint, qC, l2, l3, decide_true, List.drop_zero]) (by decide) zgo35 (rn3 _) ?_
    refine e_end (by simp only [kA, seval, vint, qC, l2, l3, decide_true, List.drop_zero] <;> with_reducible rfl) (by decide) ?_
    repeat refine wS ?_
    refine eE (by simp only [kA, seval, y3, vint, qC, l2, l3, decide_true, List.drop_zero] <;> with_reducible rfl) (by decide) ?_
    repeat refine wS ?_
    refine wC rfl (by simp only [jN, seval, vint, qC, l2, l3, decide_true, List.drop_zero] <;> with_reducible rfl) (fun bt33 => ?_) (fun bt33 => ?_)
    ·-- if t33
     have hp3 : 0 < n3 := by have := of_decide_eq_true bt33; omega
     have hv : firstT s = (n3, 105) := by rw [hft, if_pos hp3]
     repeat refine wS ?_
     refine wR ?_
     refine eT 2 (by simp only [kA, seval, vint, qC, l2, l3, decide_true, List.drop_zero] <;> with_reducible rfl) (by decide) ?_
     refine oP (by simp only [kC, seval, vint, qC, l2, l3, decide_true, List.drop_zero] <;> with_reducible rfl) (by simp only [kC, seval, vint, qC, l2, l3, decide_true, List.drop_zero]) (by decide) zgo34 (ft1_c s hs _ n3 ln3 _ 0 rfl) ?_
     refine e_end (by simp only [kA, seval, y32, vint, qC, l2, l3, decide_true, List.drop_zero] <;> with_reducible rfl) (by decide) ?_
     repeat refine wS ?_
     refine wT ⟨.inr rfl, _, (ares_cell 2 32 rfl zti32 (by decide) (by simp only [jL, jN, seval, vint, qC, l2, l3, decide_true, List.drop_zero] <;> with_reducible rfl)), ?_⟩
     rw [hv]
     simp only [jN, seval, vint, qC]
     try rfl
    ·-- else t33
     have hp3 : ¬ 0 < n3 := by have := of_decide_eq_false bt33; omega
     rw [if_neg hp3] at hft
     refine qK ?_
     repeat refine wS ?_
     refine wR ?_
     refine eT 1 (by simp only [kA, seval, y9, vint, qC, l2, l3, decide_true, List.drop_zero] <;> with_reducible rfl) (by decide) ?_
     refine oP (by simp only [kC, seval, vint, qC, l2, l3, decide_true, List.drop_zero] <;> with_reducible rfl) (by simp only [kC, seval, vint, qC, l2, l3, decide_true, List.drop_zero]) (by decide) zgo35 (rn2 _) ?_
     refine e_end (by simp only [kA, seval, vint, qC, l2, l3, decide_true, List.drop_zero] <;> with_reducible rfl) (by decide) ?_
     repeat refine wS ?_
     refine eE (by simp only [kA, seval, y3, vint, qC, l2, l3, decide_true, List.drop_zero] <;> with_reducible rfl) (by decide) ?_
     repeat refine wS ?_
     refine wC rfl (by simp only [jN, seval, vint, qC, l2, l3, decide_true, List.drop_zero] <;> with_reducible rfl) (fun bt40 => ?_) (fun bt40 => ?_)
     ·-- if t40
      have hp2 : 0 < n2 := by have := of_decide_eq_true bt40; omega
      rw [if_pos hp2] at hft
      have h3 : ((0 : Int) ≤ n2 ∧ (n2 : Int) ≤ s.length) = True := by simp; omega
      have h4 : (n2 ≤ s.length) = True := by simp; omega
      have h5 : ((n2 : Int) ≤ (s.length : Int)) = True := by simp; omega
      have h6 : ((0 : Int) ≤ (n2 : Int)) = True := by simp
      repeat refine wS ?_
      refine dp_draw (by kernel_rfl) ?_
      refine dp_keep (by simp only [kE, seval, vint, qC, l2, l3, decide_true, List.drop_zero, jS, h3, h4, h5, h6, tN, List.drop_zero] <;> with_reducible rfl) (by simp only [kE, seval, vint, qC, l2, l3, decide_true, List.drop_zero, jS, h3, h4, h5, h6, tN, List.drop_zero] <;> with_reducible rfl) (by simp only [kE, seval, vint, qC, l2, l3, decide_true, List.drop_zero, jS, h3, h4, h5, h6, tN, List.drop_zero]) (by decide) zgo37 (fun hc => kwR_c _) ?_
      refine dp_take 3 (by simp only [jP, jO, jN, seval, y9, jS, vint, qC, l2, l3, decide_true, List.drop_zero, jS, h3, h4, h5, h6, tN, List.drop_zero] <;> with_reducible rfl) (by decide) ?_
      refine dp_keep (by simp only [kE, seval, vint, qC, l2, l3, decide_true, List.drop_zero, jS, h3, h4, h5, h6, tN, List.drop_zero] <;> with_reducible rfl) (by simp only [kE, seval, vint, qC, l2, l3, decide_true, List.drop_zero, jS, h3, h4, h5, h6, tN, List.drop_zero] <;> with_reducible rfl) (by simp only [kE, seval, vint, qC, l2, l3, decide_true, List.drop_zero, jS, h3, h4, h5, h6, tN, List.drop_zero]) (by decide) zgo36 (fun hc => contR kwL (s.take n2) (by decide) _) ?_
      refine dp_end (by simp only [jP, jO, jN, seval, vint, qC, l2, l3, decide_true, List.drop_zero, jS, h3, h4, h5, h6, tN, List.drop_zero] <;> with_reducible rfl) (by decide) (by repeat (first | exact Fin.base _ | with_reducible apply Fin.keep | apply Fin.drop)) ?_
      repeat refine wS ?_
      refine wC rfl (by simp only [jN, seval, vint, qC, l2, l3, decide_true, List.drop_zero] <;> with_reducible rfl) (fun bt45 => ?_) (fun bt45 => ?_)
      ·-- if t45
       have hv : firstT s = (n2, 104) := by rw [hft, if_pos bt45]
       refine wL [2, 3, 6] (by simp only [jN, seval, vint, qC, l2, l3, decide_true, List.drop_zero] <;> with_reducible rfl) ?_
       repeat refine wS ?_
       refine wR ?_
       refine eT 2 (by simp only [kA, seval, vint, qC, l2, l3, decide_true, List.drop_zero] <;> with_reducible rfl) (by decide) ?_
       refine oP (by simp only [kC, seval, vint, qC, l2, l3, decide_true, List.drop_zero] <;> with_reducible rfl) (by simp only [kC, seval, vint, qC, l2, l3, decide_true, List.drop_zero]) (by decide) zgo34 (ft1_c s hs _ n2 ln2 _ 0 rfl) ?_
       refine e_end (by simp only [kA, seval, y32, vint, qC, l2, l3, decide_true, List.drop_zero] <;> with_reducible rfl) (by decide) ?_
       repeat refine wS ?_
       refine wT ⟨.inr rfl, _, (ares_cell 2 32 rfl zti32 (by decide) (by simp only [jL, jN, seval, vint, qC, l2, l3, decide_true, List.drop_zero] <;> with_reducible rfl)), ?_⟩
       rw [hv]
       simp only [jN, seval, vint, qC]
       try rfl
      ·-- else t45
       have hv : firstT s = (n2, 103) := by rw [hft, if_neg (by rw [bt45]; simp)]
       refine qK ?_
       refine wL [2, 3, 6] (by simp only [jN, seval, vint, qC, l2, l3, decide_true, List.drop_zero] <;> with_reducible rfl) ?_
       repeat refine wS ?_
       refine wR ?_
       refine eT 2 (by simp only [kA, seval, vint, qC, l2, l3, decide_true, List.drop_zero] <;> with_reducible rfl) (by decide) ?_
       refine oP (by simp only [kC, seval, vint, qC, l2, l3, decide_true, List.drop_zero] <;> with_reducible rfl) (by simp only [kC, seval, vint, qC, l2, l3, decide_true, List.drop_zero]) (by decide) zgo34 (ft1_c s hs _ n2 ln2 _ 0 rfl) ?_
       refine e_end (by simp only [kA, seval, y32, vint, qC, l2, l3, decide_true, List.drop_zero] <;> with_reducible rfl) (by decide) ?_
       repeat refine wS ?_
       refine wT ⟨.inr rfl, _, (ares_cell 2 32 rfl zti32 (by decide) (by simp only [jL, jN, seval, vint, qC, l2, l3, decide_true, List.drop_zero] <;> with_reducible rfl)), ?_⟩
       rw [hv]
       simp only [jN, seval, vint, qC]
       try rfl
     ·-- else t40
      have hp2 : ¬ 0 < n2 := by have := of_decide_eq_false bt40; omega
      rw [if_neg hp2] at hft
      refine qK ?_
      repeat refine wS ?_
      refine eE (by simp only [kA, seval, y5, y9, vint, qC, l2, l3, decide_true, List.drop_zero, g1, g2, e34] <;> with_reducible rfl) (by decide) ?_
      repeat refine wS ?_
      refine wC rfl (by simp only [jN, seval, vint, qC, l2, l3, decide_true, List.drop_zero] <;> with_reducible rfl) (fun bt54 => ?_) (fun bt54 => ?_)
      ·-- if t54
       have h34 : c = 34 := by simpa using bt54
       rw [if_pos h34] at hft
       repeat refine wS ?_
       refine wR ?_
       refine eT 1 (by simp only [kA, seval, y9, vint, qC, l2, l3, decide_true, List.drop_zero] <;> with_reducible rfl) (by decide) ?_
       refine oP (by simp only [kC, seval, vint, qC, l2, l3, decide_true, List.drop_zero] <;> with_reducible rfl) (by simp only [kC, seval, vint, qC, l2, l3, decide_true, List.drop_zero]) (by decide) zgo38 (rn4 _) ?_
       refine e_end (by simp only [kA, seval, vint, qC, l2, l3, decide_true, List.drop_zero] <;> with_reducible rfl) (by decide) ?_
       refine wL [1, 2, 3, 7] (by simp only [jN, seval, vint, qC, l2, l3, decide_true, List.drop_zero] <;> with_reducible rfl) ?_
       repeat refine wS ?_
       refine eE (by simp only [kA, seval, y3, vint, qC, l2, l3, decide_true, List.drop_zero] <;> with_reducible rfl) (by decide) ?_
       repeat refine wS ?_
       refine wC rfl (by simp only [jN, seval, vint, qC, l2, l3, decide_true, List.drop_zero] <;> with_reducible rfl) (fun bt58 => ?_) (fun bt58 => ?_)
       ·-- if t58
        have hp4 : 0 < n4 := by have := of_decide_eq_true bt58; omega
        have hv : firstT s = (n4, 106) := by rw [hft, if_pos hp4]
        have ln4 : n4 ≤ s.length := by rw [hv] at hb; exact hb.2
        repeat refine wS ?_
        refine wR ?_
        refine eT 2 (by simp only [kA, seval, vint, qC, l2, l3, decide_true, List.drop_zero] <;> with_reducible rfl) (by decide) ?_
        refine oP (by simp only [kC, seval, vint, qC, l2, l3, decide_true, List.drop_zero] <;> with_reducible rfl) (by simp only [kC, seval, vint, qC, l2, l3, decide_true, List.drop_zero]) (by decide) zgo34 (ft1_c s hs _ n4 ln4 _ 0 rfl) ?_
        refine e_end (by simp only [kA, seval, y32, vint, qC, l2, l3, decide_true, List.drop_zero] <;> with_reducible rfl) (by decide) ?_
        repeat refine wS ?_
        refine wT ⟨.inr rfl, _, (ares_cell 2 32 rfl zti32 (by decide) (by simp only [jL, jN, seval, vint, qC, l2, l3, decide_true, List.drop_zero] <;> with_reducible rfl)), ?_⟩
        rw [hv]
        simp only [jN, seval, vint, qC]
        try rfl
       ·-- else t58
        have hp4 : ¬ 0 < n4 := by have := of_decide_eq_false bt58; omega
        have hv : firstT s = (n1, 108) := by rw [hft, if_neg hp4]
        refine qK ?_
        repeat refine wS ?_
        refine wR ?_
        refine eT 2 (by simp only [kA, seval, y9, vint, qC, l2, l3, decide_true, List.drop_zero] <;> with_reducible rfl) (by decide) ?_
        refine oP (by simp only [kC, seval, vint, qC, l2, l3, decide_true, List.drop_zero] <;> with_reducible rfl) (by simp only [kC, seval, vint, qC, l2, l3, decide_true, List.drop_zero]) (by decide) zgo35 (rn1 _) ?_
        refine oP (by simp only [kC, seval, vint, qC, l2, l3, decide_true, List.drop_zero] <;> with_reducible rfl) (by simp only [kC, seval, vint, qC, l2, l3, decide_true, List.drop_zero]) (by decide) zgo34 (ft1_c s hs _ n1 ln1 _ 0 rfl) ?_
        refine e_end (by simp only [kA, seval, y32, vint, qC, l2, l3, decide_true, List.drop_zero] <;> with_reducible rfl) (by decide) ?_
        repeat refine wS ?_
        refine wT ⟨.inr rfl, _, (ares_cell 2 32 rfl zti32 (by decide) (by simp only [jL, jN, seval, vint, qC, l2, l3, decide_true, List.drop_zero] <;> with_reducible rfl)), ?_⟩
        rw [hv]
        simp only [jN, seval, vint, qC]
        try rfl
      ·-- else t54
       have h34 : ¬ c = 34 := by simpa using bt54
       rw [if_neg h34] at hft
       refine qK ?_
       repeat refine wS ?_
       refine wR ?_
       refine oP (by simp only [kC, seval, vint, qC, l2, l3, decide_true, List.drop_zero] <;> with_reducible rfl) (by simp only [kC, seval, vint, qC, l2, l3, decide_true, List.drop_zero]) (by decide) zgo39 (punR_c _) ?_
       refine e_end (by simp only [kA, seval, y9, y72, vint, qC, l2, l3, decide_true, List.drop_zero] <;> with_reducible rfl) (by decide) ?_
       repeat refine wS ?_
       refine awp_forS (σ := Unit) (punL.length) (fun (u_ : Unit) => [(1, .optr 0 0), (2, .optr 1 0), (3, .fn (.func 34) [] [.optr 0 0]), (66, .slice (punL.map PV.str) .none)]) [1, 2, 3, 66] ([]) (fun (u_ : Unit) => [.row [.str s], .row [.int .i64 0, .str []]]) (fun (i : Nat) (u_ : Unit) => (punL.take i).any (punQ s) = false) (()) (_) rfl rfl rfl rfl rfl rfl rfl rfl rfl (by decide) (by decide) (by decide) (fun _ => rfl) ((by decide)) ⟨(by first | rfl | (simp only [jN, seval, vint, qC, l2, l3, decide_true, List.drop_zero] <;> first | done | with_reducible rfl)), (by first | rfl | (simp only [jN, seval, vint, qC, l2, l3, decide_true, List.drop_zero] <;> first | done | with_reducible rfl)), (by first | rfl | (simp only [jN, seval, vint, qC, l2, l3, decide_true, List.drop_zero] <;> first | done | with_reducible rfl)), (by first | rfl | (simp only [jN, seval, vint, qC, l2, l3, decide_true, List.drop_zero] <;> first | done | with_reducible rfl)), (by first | rfl | (simp only [jN, seval, vint, qC, l2, l3, decide_true, List.drop_zero] <;> first | done | with_reducible rfl)), (by first | rfl | (simp only [jN, seval, vint, qC, l2, l3, decide_true, List.drop_zero] <;> first | done | with_reducible rfl)), trivial⟩ (by first | rfl | (simp only [jN, seval, vint, qC, l2, l3, decide_true, List.drop_zero] <;> first | done | with_reducible rfl)) (by simp) (fun _ _ _ => by first | exact Nat.zero_le _ | (simp only [List.length_append]; omega)) ?_ ?_ ?_
       ·exact fun i u hg => ⟨by simp only [List.nil_append]; repeat (first | exact hbel_nil _ | exact trivial | exact obel_row_nil _ | (refine HBel.cons ?_ ?_) | (refine obel_row_cons (by first | exact Bel.fn _ _ _ (by simp) (by intro c hc; rw [List.mem_singleton.1 hc]; exact Bel.optr _ _ (by simp)) | exact bel_strs0 _ _ | exact Tk.bel _ _ | exact bel_nil0 _ | exact bel_nil1 _ | exact Bel.int _ _ | exact Bel.bool _ | exact Bel.str _ | exact Bel.nilp | exact Bel.nilfn | exact Bel.optr _ _ (by simp) | exact bel_nil0 _ | exact bel_nil1 _ | exact bel_fn0 _ _ | assumption) ?_)), by repeat (first | exact BelL.nil | refine BelL.cons (by first | exact Bel.fn _ _ _ (by simp) (by intro c hc; rw [List.mem_singleton.1 hc]; exact Bel.optr _ _ (by simp)) | exact bel_strs0 _ _ | exact Tk.bel _ _ | exact bel_nil0 _ | exact bel_nil1 _ | exact Bel.int _ _ | exact Bel.bool _ | exact Bel.str _ | exact Bel.nilp | exact Bel.nilfn | exact Bel.optr _ _ (by simp) | exact bel_nil0 _ | exact bel_nil1 _ | exact bel_fn0 _ _ | assumption) ?_)⟩
       ·intro i u_ hi hg
        have g1 := ix_nat hi
        have g3 := get_enc PV.str hi
        obtain ⟨p, hp⟩ : ∃ p, punL[i] = p := ⟨_, rfl⟩
        rw [hp] at g3
        have hcs : p.length ≤ s.length ∨ ¬ p.length ≤ s.length := by omega
        repeat refine wS ?_
        refine eE (by simp only [kA, seval, y9, y72, vint, qC, l2, l3, decide_true, List.drop_zero, g1, tN, g3] <;> with_reducible rfl) (by decide) ?_
        rcases hcs with hc | hc
        ·-- case
         have l2 : ((p.length : Int) ≤ s.length) = True := by simp; omega
         have l4 : (p.length ≤ s.length) = True := by simp; omega
         have l5 : ((0 : Int) ≤ (p.length : Int)) = True := by simp
         repeat refine wS ?_
         refine g_eval (by simp only [jG, jO, jN, seval, y3, y9, jS, vint, qC, l2, l3, decide_true, List.drop_zero, g1, tN, g3, jS, l2, l4, l5, decide_true, List.drop_zero] <;> with_reducible rfl) (by decide) (by repeat (first | exact Fin.base _ | with_reducible apply Fin.keep | apply Fin.drop)) ?_
         repeat refine wS ?_
         refine wC rfl (by simp only [jN, seval, vint, qC, l2, l3, decide_true, List.drop_zero, g1, tN, g3, jS, l2, l4, l5, decide_true, List.drop_zero] <;> with_reducible rfl) (fun bt84 => ?_) (fun bt84 => ?_)
         ·-- if t84
          have hq : punQ s punL[i] = true := by rw [hp]; exact bt84
          have hv : firstT s = (p.length, 107) := by rw [hft]; unfold punT; rw [find_at hi hq hg, hp]
          refine wL [1, 2, 3, 9, 66, 67, 68] (by simp only [jN, seval, vint, qC, l2, l3, decide_true, List.drop_zero, g1, tN, g3, jS, l2, l4, l5, decide_true, List.drop_zero] <;> with_reducible rfl) ?_
          repeat refine wS ?_
          refine wR ?_
          refine eT 3 (by simp only [kA, seval, y9, vint, qC, l2, l3, decide_true, List.drop_zero, g1, tN, g3, jS, l2, l4, l5, decide_true, List.drop_zero] <;> with_reducible rfl) (by decide) ?_
          refine oP (by simp only [kC, seval, vint, qC, l2, l3, decide_true, List.drop_zero, g1, tN, g3, jS, l2, l4, l5, decide_true, List.drop_zero] <;> with_reducible rfl) (by simp only [kC, seval, vint, qC, l2, l3, decide_true, List.drop_zero, g1, tN, g3, jS, l2, l4, l5, decide_true, List.drop_zero]) (by decide) zgo34 (ft1_c s hs _ p.length hc _ 0 rfl) ?_
          refine e_end (by simp only [kA, seval, y32, vint, qC, l2, l3, decide_true, List.drop_zero, g1, tN, g3, jS, l2, l4, l5, decide_true, List.drop_zero] <;> with_reducible rfl) (by decide) ?_
          repeat refine wS ?_
          refine wT ⟨.inr rfl, _, (ares_cell 2 32 rfl zti32 (by decide) (by simp only [jL, jN, seval, vint, qC, l2, l3, decide_true, List.drop_zero, g1, tN, g3, jS, l2, l4, l5, decide_true, List.drop_zero] <;> with_reducible rfl)), ?_⟩
          rw [hv]
          simp only [jN, seval, vint, qC]
          try rfl
         ·-- else t84
          have hq : punQ s punL[i] = false := by rw [hp]; exact bt84
          refine qK ?_
          exact ⟨⟨rfl, rfl, trivial⟩, (), [], ⟨rfl, rfl, rfl, rfl, trivial⟩, rfl, any_take_succ hi hg hq⟩
        ·-- case
         have l2 : ((p.length : Int) ≤ s.length) = False := by simp; omega
         have hq : punQ s punL[i] = false := by rw [hp]; cases h : punQ s p with
          | false => rfl
          | true => exact absurd (punQ_len h) hc
         repeat refine wS ?_
         refine wR ?_
         refine aops_gstart ?_
         refine g_take 9 (by simp only [jG, jO, jN, seval, y3, y9, vint, qC, l2, l3, decide_true, List.drop_zero, g1, tN, g3, l2, decide_false] <;> with_reducible rfl) (by decide) ?_
         refine aops_gskip (r := .tup []) (by simp only [kE, seval, vint, qC, l2, l3, decide_true, List.drop_zero, g1, tN, g3, l2, decide_false] <;> with_reducible rfl) ?_
         refine g_take 1 (by simp only [jG, jO, jN, seval, vint, qC, l2, l3, decide_true, List.drop_zero, g1, tN, g3, l2, decide_false] <;> with_reducible rfl) (by decide) ?_
         refine aops_gskip (r := .tup []) (by simp only [kE, seval, vint, qC, l2, l3, decide_true, List.drop_zero, g1, tN, g3, l2, decide_false] <;> with_reducible rfl) ?_
         refine g_end (by simp only [jG, jO, jN, seval, vint, qC, l2, l3, decide_true, List.drop_zero, g1, tN, g3, l2, decide_false] <;> with_reducible rfl) (by decide) (by repeat (first | exact Fin.base _ | with_reducible apply Fin.keep | apply Fin.drop)) ?_
         repeat refine wS ?_
         refine wF rfl (by simp only [jN, seval, vint, qC, l2, l3, decide_true, List.drop_zero, g1, tN, g3, l2, decide_false] <;> with_reducible rfl) ?_
         refine qK ?_
         exact ⟨⟨rfl, rfl, trivial⟩, (), [], ⟨rfl, rfl, rfl, rfl, trivial⟩, rfl, any_take_succ hi hg hq⟩
       ·intro u_ hg
        rw [List.take_length] at hg
        have hv : firstT s = (1, 108) := by rw [hft]; unfold punT; rw [find_none hg]
        repeat refine wS ?_
        refine wR ?_
        refine eT 1 (by simp only [kA, seval, vint, qC, l2, l3, decide_true, List.drop_zero] <;> with_reducible rfl) (by decide) ?_
        refine oP (by simp only [kC, seval, vint, qC, l2, l3, decide_true, List.drop_zero] <;> with_reducible rfl) (by simp only [kC, seval, vint, qC, l2, l3, decide_true, List.drop_zero]) (by decide) zgo34 (ft1_c s hs _ 1 h1 _ 0 rfl) ?_
        refine e_end (by simp only [kA, seval, y32, vint, qC, l2, l3, decide_true, List.drop_zero] <;> with_reducible rfl) (by decide) ?_
        repeat refine wS ?_
        refine wT ⟨.inr rfl, _, (ares_cell 2 32 rfl zti32 (by decide) (by simp only [jL, jN, seval, vint, qC, l2, l3, decide_true, List.drop_zero] <;> with_reducible rfl)), ?_⟩
        rw [hv]
        simp only [jN, seval, vint, qC]
        try rfl
  ·-- case
   have l2 : (1 < (s.length : Int)) = False := by simp; omega
   rw [if_neg (fun q => h2 (by have := congrArg List.length q; rw [List.length_take] at this; simp only [List.length_cons, List.length_nil] at this; omega))] at hft
   repeat refine wS ?_
   refine wR ?_
   refine aops_gstart ?_
   refine gT 4 (a4 y3 y9 l2 decide_false) ?_
   refine gS (a2 l2 decide_false) ?_
   refine gS (a2 l2 decide_false) ?_
   refine gS (a2 l2 decide_false) ?_
   refine gX (a2 l2 decide_false) ?_
   refine qF (a2 l2 decide_false) ?_
   refine qK ?_
   refine qL [1, 2, 3] (a2 l2 decide_false) ?_
   refine qT 1 (a3 y9 l2 decide_false) ?_
   refine qP (a2 l2 decide_false) zgo35 (rn3 _) ?_
   refine qX (a2 l2 decide_false) ?_
   refine qE (a3 y3 l2 decide_false) ?_
   refine qI (a2 l2 decide_false) (fun bt33 => ?_) (fun bt33 => ?_)
   ·-- if t33
    have hp3 : 0 < n3 := by have := of_decide_eq_true bt33; omega
    have hv : firstT s = (n3, 105) := by rw [hft, if_pos hp3]
    refine qT 2 (a2 l2 decide_false) ?_
    refine qP (a2 l2 decide_false) zgo34 (ft1_c s hs _ n3 ln3 _ 0 rfl) ?_
    refine qX (a3 y32 l2 decide_false) ?_
    repeat refine wS ?_
    refine wT ⟨.inr rfl, _, (ares_cell 2 32 rfl zti32 (by decide) (by simp only [jL, jN, seval, vint, qC, l2, decide_false] <;> with_reducible rfl)), ?_⟩
    rw [hv]
    simp only [jN, seval, vint, qC]
    try rfl
   ·-- else t33
    have hp3 : ¬ 0 < n3 := by have := of_decide_eq_false bt33; omega
    rw [if_neg hp3] at hft
    refine qK ?_
    refine qT 1 (a3 y9 l2 decide_false) ?_
    refine qP (a2 l2 decide_false) zgo35 (rn2 _) ?_
    refine qX (a2 l2 decide_false) ?_
    refine qE (a3 y3 l2 decide_false) ?_
    refine qI (a2 l2 decide_false) (fun bt40 => ?_) (fun bt40 => ?_)
    ·-- if t40
     have hp2 : 0 < n2 := by have := of_decide_eq_true bt40; omega
     rw [if_pos hp2] at hft
     have h3 : ((0 : Int) ≤ n2 ∧ (n2 : Int) ≤ s.length) = True := by simp; omega
     have h4 : (n2 ≤ s.length) = True := by simp; omega
     have h5 : ((n2 : Int) ≤ (s.length : Int)) = True := by simp; omega
     have h6 : ((0 : Int) ≤ (n2 : Int)) = True := by simp
     repeat refine wS ?_
     refine dp_draw (by kernel_rfl) ?_
     refine dp_keep (by simp only [kE, seval, vint, qC, l2, decide_false, jS, h3, h4, h5, h6, tN, List.drop_zero] <;> with_reducible rfl) (by simp only [kE, seval, vint, qC, l2, decide_false, jS, h3, h4, h5, h6, tN, List.drop_zero] <;> with_reducible rfl) (by simp only [kE, seval, vint, qC, l2, decide_false, jS, h3, h4, h5, h6, tN, List.drop_zero]) (by decide) zgo37 (fun hc => kwR_c _) ?_
     refine dp_take 3 (by simp only [jP, jO, jN, seval, y9, jS, vint, qC, l2, decide_false, jS, h3, h4, h5, h6, tN, List.drop_zero] <;> with_reducible rfl) (by decide) ?_
     refine dp_keep (by simp only [kE, seval, vint, qC, l2, decide_false, jS, h3, h4, h5, h6, tN, List.drop_zero] <;> with_reducible rfl) (by simp only [kE, seval, vint, qC, l2, decide_false, jS, h3, h4, h5, h6, tN, List.drop_zero] <;> with_reducible rfl) (by simp only [kE, seval, vint, qC, l2, decide_false, jS, h3, h4, h5, h6, tN, List.drop_zero]) (by decide) zgo36 (fun hc => contR kwL (s.take n2) (by decide) _) ?_
     refine dp_end (by simp only [jP, jO, jN, seval, vint, qC, l2, decide_false, jS, h3, h4, h5, h6, tN, List.drop_zero] <;> with_reducible rfl) (by decide) (by repeat (first | exact Fin.base _ | with_reducible apply Fin.keep | apply Fin.drop)) ?_
     refine qI (a2 l2 decide_false) (fun bt45 => ?_) (fun bt45 => ?_)
     ·-- if t45
      have hv : firstT s = (n2, 104) := by rw [hft, if_pos bt45]
      refine qL [2, 3, 6] (a2 l2 decide_false) ?_
      refine qT 2 (a2 l2 decide_false) ?_
      refine qP (a2 l2 decide_false) zgo34 (ft1_c s hs _ n2 ln2 _ 0 rfl) ?_
      refine qX (a3 y32 l2 decide_false) ?_
      repeat refine wS ?_
      refine wT ⟨.inr rfl, _, (ares_cell 2 32 rfl zti32 (by decide) (by simp only [jL, jN, seval, vint, qC, l2, decide_false] <;> with_reducible rfl)), ?_⟩
      rw [hv]
      simp only [jN, seval, vint, qC]
      try rfl
     ·-- else t45
      have hv : firstT s = (n2, 103) := by rw [hft, if_neg (by rw [bt45]; simp)]
      refine qK ?_
      refine qL [2, 3, 6] (a2 l2 decide_false) ?_
      refine qT 2 (a2 l2 decide_false) ?_
      refine qP (a2 l2 decide_false) zgo34 (ft1_c s hs _ n2 ln2 _ 0 rfl) ?_
      refine qX (a3 y32 l2 decide_false) ?_
      repeat refine wS ?_
      refine wT ⟨.inr rfl, _, (ares_cell 2 32 rfl zti32 (by decide) (by simp only [jL, jN, seval, vint, qC, l2, decide_false] <;> with_reducible rfl)), ?_⟩
      rw [hv]
      simp only [jN, seval, vint, qC]
      try rfl
    ·-- else t40
     have hp2 : ¬ 0 < n2 := by have := of_decide_eq_false bt40; omega
     rw [if_neg hp2] at hft
     refine qK ?_
     refine qE (a5 y5 y9 l2 decide_false (a3 g1 g2 e34)) ?_
     refine qI (a2 l2 decide_false) (fun bt54 => ?_) (fun bt54 => ?_)
     ·-- if t54
      have h34 : c = 34 := by simpa using bt54
      rw [if_pos h34] at hft
      refine qT 1 (a3 y9 l2 decide_false) ?_
      refine qP (a2 l2 decide_false) zgo38 (rn4 _) ?_
      refine qX (a2 l2 decide_false) ?_
      refine qL [1, 2, 3, 7] (a2 l2 decide_false) ?_
      refine qE (a3 y3 l2 decide_false) ?_
      refine qI (a2 l2 decide_false) (fun bt58 => ?_) (fun bt58 => ?_)
      ·-- if t58
       have hp4 : 0 < n4 := by have := of_decide_eq_true bt58; omega
       have hv : firstT s = (n4, 106) := by rw [hft, if_pos hp4]
       have ln4 : n4 ≤ s.length := by rw [hv] at hb; exact hb.2
       refine qT 2 (a2 l2 decide_false) ?_
       refine qP (a2 l2 decide_false) zgo34 (ft1_c s hs _ n4 ln4 _ 0 rfl) ?_
       refine qX (a3 y32 l2 decide_false) ?_
       repeat refine wS ?_
       refine wT ⟨.inr rfl, _, (ares_cell 2 32 rfl zti32 (by decide) (by simp only [jL, jN, seval, vint, qC, l2, decide_false] <;> with_reducible rfl)), ?_⟩
       rw [hv]
       simp only [jN, seval, vint, qC]
       try rfl
      ·-- else t58
       have hp4 : ¬ 0 < n4 := by have := of_decide_eq_false bt58; omega
       have hv : firstT s = (n1, 108) := by rw [hft, if_neg hp4]
       refine qK ?_
       refine qT 2 (a3 y9 l2 decide_false) ?_
       refine qP (a2 l2 decide_false) zgo35 (rn1 _) ?_
       refine qP (a2 l2 decide_false) zgo34 (ft1_c s hs _ n1 ln1 _ 0 rfl) ?_
       refine qX (a3 y32 l2 decide_false) ?_
       repeat refine wS ?_
       refine wT ⟨.inr rfl, _, (ares_cell 2 32 rfl zti32 (by decide) (by simp only [jL, jN, seval, vint, qC, l2, decide_false] <;> with_reducible rfl)), ?_⟩
       rw [hv]
       simp only [jN, seval, vint, qC]
       try rfl
     ·-- else t54
      have h34 : ¬ c = 34 := by simpa using bt54
      rw [if_neg h34] at hft
      refine qK ?_
      repeat refine wS ?_
      refine wR ?_
      refine qP (a2 l2 decide_false) zgo39 (punR_c _) ?_
      refine qX (a4 y9 y72 l2 decide_false) ?_
      repeat refine wS ?_
      refine awp_forS (σ := Unit) (punL.length) (fun (u_ : Unit) => [(1, .optr 0 0), (2, .optr 1 0), (3, .fn (.func 34) [] [.optr 0 0]), (66, .slice (punL.map PV.str) .none)]) [1, 2, 3, 66] ([]) (fun (u_ : Unit) => [.row [.str s], .row [.int .i64 0, .str []]]) (fun (i : Nat) (u_ : Unit) => (punL.take i).any (punQ s) = false) (()) (_) rfl rfl rfl rfl rfl rfl rfl rfl rfl (by decide) (by decide) (by decide) (fun _ => rfl) ((by decide)) ⟨(by first | rfl | (simp only [jN, seval, vint, qC, l2, decide_false] <;> first | done | with_reducible rfl)), (by first | rfl | (simp only [jN, seval, vint, qC, l2, decide_false] <;> first | done | with_reducible rfl)), (by first | rfl | (simp only [jN, seval, vint, qC, l2, decide_false] <;> first | done | with_reducible rfl)), (by first | rfl | (simp only [jN, seval, vint, qC, l2, decide_false] <;> first | done | with_reducible rfl)), (by first | rfl | (simp only [jN, seval, vint, qC, l2, decide_false] <;> first | done | with_reducible rfl)), (by first | rfl | (simp only [jN, seval, vint, qC, l2, decide_false] <;> first | done | with_reducible rfl)), trivial⟩ (by first | rfl | (simp only [jN, seval, vint, qC, l2, decide_false] <;> first | done | with_reducible rfl)) (by simp) (fun _ _ _ => by first | exact Nat.zero_le _ | (simp only [List.length_append]; omega)) ?_ ?_ ?_
      ·exact fun i u hg => ⟨by simp only [List.nil_append]; repeat (first | exact hbel_nil _ | exact trivial | exact obel_row_nil _ | (refine HBel.cons ?_ ?_) | (refine obel_row_cons (by first | exact Bel.fn _ _ _ (by simp) (by intro c hc; rw [List.mem_singleton.1 hc]; exact Bel.optr _ _ (by simp)) | exact bel_strs0 _ _ | exact Tk.bel _ _ | exact bel_nil0 _ | exact bel_nil1 _ | exact Bel.int _ _ | exact Bel.bool _ | exact Bel.str _ | exact Bel.nilp | exact Bel.nilfn | exact Bel.optr _ _ (by simp) | exact bel_nil0 _ | exact bel_nil1 _ | exact bel_fn0 _ _ | assumption) ?_)), by repeat (first | exact BelL.nil | refine BelL.cons (by first | exact Bel.fn _ _ _ (by simp) (by intro c hc; rw [List.mem_singleton.1 hc]; exact Bel.optr _ _ (by simp)) | exact bel_strs0 _ _ | exact Tk.bel _ _ | exact bel_nil0 _ | exact bel_nil1 _ | exact Bel.int _ _ | exact Bel.bool _ | exact Bel.str _ | exact Bel.nilp | exact Bel.nilfn | exact Bel.optr _ _ (by simp) | exact bel_nil0 _ | exact bel_nil1 _ | exact bel_fn0 _ _ | assumption) ?_)⟩
      ·intro i u_ hi hg
       have g1 := ix_nat hi
       have g3 := get_enc PV.str hi
       obtain ⟨p, hp⟩ : ∃ p, punL[i] = p := ⟨_, rfl⟩
       rw [hp] at g3
       have hcs : p.length ≤ s.length ∨ ¬ p.length ≤ s.length := by omega
       refine qE (a5 y9 y72 l2 decide_false (a3 g1 tN g3)) ?_
       rcases hcs with hc | hc
       ·-- case
        have l2 : ((p.length : Int) ≤ s.length) = True := by simp; omega
        have l4 : (p.length ≤ s.length) = True := by simp; omega
        have l5 : ((0 : Int) ≤ (p.length : Int)) = True := by simp
        repeat refine wS ?_
        refine g_eval (by simp only [jG, jO, jN, seval, y3, y9, jS, vint, qC, l2, decide_false, g1, tN, g3, jS, l2, l4, l5, decide_true, List.drop_zero] <;> with_reducible rfl) (by decide) (by repeat (first | exact Fin.base _ | with_reducible apply Fin.keep | apply Fin.drop)) ?_
        repeat refine wS ?_
        refine wC rfl (by simp only [jN, seval, vint, qC, l2, decide_false, g1, tN, g3, jS, l2, l4, l5, decide_true, List.drop_zero] <;> with_reducible rfl) (fun bt84 => ?_) (fun bt84 => ?_)
        ·-- if t84
         have hq : punQ s punL[i] = true := by rw [hp]; exact bt84
         have hv : firstT s = (p.length, 107) := by rw [hft]; unfold punT; rw [find_at hi hq hg, hp]
         refine wL [1, 2, 3, 9, 66, 67, 68] (by simp only [jN, seval, vint, qC, l2, decide_false, g1, tN, g3, jS, l2, l4, l5, decide_true, List.drop_zero] <;> with_reducible rfl) ?_
         repeat refine wS ?_
         refine wR ?_
         refine eT 3 (by simp only [kA, seval, y9, vint, qC, l2, decide_false, g1, tN, g3, jS, l2, l4, l5, decide_true, List.drop_zero] <;> with_reducible rfl) (by decide) ?_
         refine oP (by simp only [kC, seval, vint, qC, l2, decide_false, g1, tN, g3, jS, l2, l4, l5, decide_true, List.drop_zero] <;> with_reducible rfl) (by simp only [kC, seval, vint, qC, l2, decide_false, g1, tN, g3, jS, l2, l4, l5, decide_true, List.drop_zero]) (by decide) zgo34 (ft1_c s hs _ p.length hc _ 0 rfl) ?_
         refine e_end (by simp only [kA, seval, y32, vint, qC, l2, decide_false, g1, tN, g3, jS, l2, l4, l5, decide_true, List.drop_zero] <;> with_reducible rfl) (by decide) ?_
         repeat refine wS ?_
         refine wT ⟨.inr rfl, _, (ares_cell 2 32 rfl zti32 (by decide) (by simp only [jL, jN, seval, vint, qC, l2, decide_false, g1, tN, g3, jS, l2, l4, l5, decide_true, List.drop_zero] <;> with_reducible rfl)), ?_⟩
         rw [hv]
         simp only [jN, seval, vint, qC]
         try rfl
        ·-- else t84
         have hq : punQ s punL[i] = false := by rw [hp]; exact bt84
         refine qK ?_
         exact ⟨⟨rfl, rfl, trivial⟩, (), [], ⟨rfl, rfl, rfl, rfl, trivial⟩, rfl, any_take_succ hi hg hq⟩
       ·-- case
        have l2 : ((p.length : Int) ≤ s.length) = False := by simp; omega
        have hq : punQ s punL[i] = false := by rw [hp]; cases h : punQ s p with
         | false => rfl
         | true => exact absurd (punQ_len h) hc
        repeat refine wS ?_
        refine wR ?_
        refine aops_gstart ?_
        refine gT 9 (a5 y3 y9 l2 decide_false (a3 g1 tN g3)) ?_
        refine gS (a5 l2 decide_false g1 tN g3) ?_
        refine gT 1 (a5 l2 decide_false g1 tN g3) ?_
        refine gS (a5 l2 decide_false g1 tN g3) ?_
        refine gX (a5 l2 decide_false g1 tN g3) ?_
        refine qF (a5 l2 decide_false g1 tN g3) ?_
        refine qK ?_
        exact ⟨⟨rfl, rfl, trivial⟩, (), [], ⟨rfl, rfl, rfl, rfl, trivial⟩, rfl, any_take_succ hi hg hq⟩
      ·intro u_ hg
       rw [List.take_length] at hg
       have hv : firstT s = (1, 108) := by rw [hft]; unfold punT; rw [find_none hg]
       refine qT 1 (a2 l2 decide_false) ?_
       refine qP (a2 l2 decide_false) zgo34 (ft1_c s hs _ 1 h1 _ 0 rfl) ?_
       refine qX (a3 y32 l2 decide_false) ?_
       repeat refine wS ?_
       refine wT ⟨.inr rfl, _, (ares_cell 2 32 rfl zti32 (by decide) (by simp only [jL, jN, seval, vint, qC, l2, decide_false] <;> with_reducible rfl)), ?_⟩
       rw [hv]
       simp only [jN, seval, vint, qC]
       try rfl
end Go.Abs
namespace Go.Abs
open Go.Proofs
theorem ft_s {s : List UInt8} (hs : s.length ≤ maxLen) (h : s ≠ []) : PC Tryz.prog 13 [.str s] (ftT s).enc := by
 cases s with
 | nil => exact absurd rfl h
 | cons c r => exact ft_c c r hs
theorem tokR_c (s : List UInt8) (hs : s.length ≤ 1048576) : PC Tryz.prog 5 [.str s] (.slice ((toks s).map Tk.enc) .none) := by
 have em : maxLen = 9223372036854775807 := by decide
 refine pc_of (N := 20) Tryz.func5 rfl rfl (by simp) (by simp [Bel.int, Bel.str]) (bel_Tk _ _) ?_
 refine qE0 ?_
 refine qE0 ?_
 repeat refine wS ?_
 refine awp_retok 3 2 (es := []) (by simp only [kC, seval, vint, qC] <;> rfl) ?_
 refine awp_block ?_
 refine awp_loopS (σ := List Tk × List UInt8) (fun (q : List Tk × List UInt8) => [(0, .str q.2), (3, .slice (q.1.map Tk.enc) (.tok 0))]) ([]) (fun (q : List Tk × List UInt8) => [.buf q.1.length 2]) (fun (q : List Tk × List UInt8) => q.2.length) (fun (q : List Tk × List UInt8) => q.1.length + q.2.length ≤ s.length ∧ toks s = q.1 ++ toks q.2) (([], s)) ([]) ⟨(by first | rfl | (simp only [jN, seval, vint, qC] <;> first | done | with_reducible rfl)), (by first | rfl | (simp only [jN, seval, vint, qC] <;> first | done | with_reducible rfl)), trivial⟩ (by first | rfl | (simp only [jN, seval, vint, qC] <;> first | done | with_reducible rfl)) (⟨by simp, by simp⟩) (fun _ _ => by first | exact Nat.zero_le _ | (simp only [List.length_append]; omega)) ?_ ?_
 ·exact fun q hg => ⟨by simp only [List.nil_append]; exact HBel.cons trivial (hbel_nil _), by repeat (first | exact BelL.nil | refine BelL.cons (by first | exact bel_Tk_tok _ (by simp only [List.length_append, List.length_cons, List.length_nil]; omega) | exact Tk.bel _ _ | exact bel_nil0 _ | exact bel_nil1 _ | exact Bel.int _ _ | exact Bel.bool _ | exact Bel.str _ | exact Bel.nilp | exact Bel.nilfn | exact Bel.optr _ _ (by simp) | exact bel_nil0 _ | exact bel_nil1 _ | exact bel_fn0 _ _ | assumption) ?_)⟩
 ·intro q hg
  obtain ⟨ts, r⟩ := q
  obtain ⟨hq1, hq2⟩ := hg
  simp only at hq1 hq2
  refine qE (a2 y3 y9) ?_
  refine qI0 (fun bt7 => ?_) (fun bt7 => ?_)
  ·-- if t7
   have hne : r ≠ [] := by rintro rfl; simp at bt7
   have hb := firstT_bd hne
   have hst := toks_step hne
   have hf := ft_s (s := r) (by omega) hne
   unfold ftT at hf
   obtain ⟨n, hn⟩ : ∃ n, (firstT r).1 = n := ⟨_, rfl⟩
   obtain ⟨kd, hkd⟩ : ∃ kd, (firstT r).2 = kd := ⟨_, rfl⟩
   rw [hn] at hb hf hst
   rw [hkd] at hf hst
   obtain ⟨tx, htx⟩ : ∃ tx, r.take n = tx := ⟨_, rfl⟩
   rw [htx] at hf hst
   have hln : (tx.length : Int) = n := by rw [← htx, List.length_take]; omega
   have h3 : ((n : Int) ≤ r.length) = True := by simp; omega
   have h4 : (n ≤ r.length) = True := by simp; omega
   have h5 : ((0 : Int) ≤ (n : Int)) = True := by simp
   have hap := app_Tk (us := ts) (u := ⟨kd, tx⟩) (id := 0) (tl := .full) (by omega)
   refine qK ?_
   refine qB ?_
   refine qT0 1 ?_
   refine qP0 zgo13 (hf _) ?_
   refine qX y32 ?_
   refine qE (a4 y24 y32 jS hap) ?_
   repeat refine wS ?_
   refine eE (by simp only [kA, seval, y9, y32, vint, qC, jS, hln, h3, h4, h5, tN, List.take_length] <;> with_reducible rfl) (by decide) ?_
   try simp only [thenQ, blockQ]
   exact ⟨(ts ++ [⟨kd, tx⟩], r.drop n), _, by show (r.drop n).length < r.length; rw [List.length_drop]; omega, ⟨rfl, rfl, trivial⟩, by simp only [jN, seval, vint, qC, List.length_append, List.length_singleton] <;> rfl, by simp only [List.length_append, List.length_singleton, List.length_drop]; omega, by rw [hq2, hst]; simp⟩
  ·-- else t7
   have hr : r = [] := by cases r with | nil => rfl | cons a l => simp at bt7 <;> omega
   have hv : toks s = ts := by rw [hq2, hr, toks_nil, List.append_nil]
   rw [hv]
   repeat refine wS ?_
   refine awp_exit ?_
   simp only [thenQ, blockQ, reduceIte, Nat.reduceEqDiff, Nat.succ_ne_self, if_true, if_false]
   refine qE0 ?_
   repeat refine wS ?_
   refine wT ⟨.inr rfl, _, rfl, ?_⟩
   simp only [jN, seval, vint, qC]
   try rfl
end Go.Abs
namespace Go.Abs
open Go.Proofs
def stI (o : Nat) (ts : List Tk) : List Int := (stL o ts).map (fun (n : Nat) => (n : Int))
def enI (o : Nat) (ts : List Tk) : List Int := (enL o ts).map (fun (n : Nat) => (n : Int))
theorem stL_snoc : ∀ (a : List Tk) (t : Tk) (o : Nat), stL o (a ++ [t]) = stL o a ++ [o + szL a]
 | [], t, o => by simp [stL, szL]
 | x :: a, t, o => by simp only [List.cons_append, stL, stL_snoc a t, szL, List.cons.injEq, true_and]; congr 2; omega
theorem enL_snoc : ∀ (a : List Tk) (t : Tk) (o : Nat), enL o (a ++ [t]) = enL o a ++ [o + szL a + t.text.length]
 | [], t, o => by simp [enL, szL]
 | x :: a, t, o => by simp only [List.cons_append, enL, enL_snoc a t, szL, List.cons.injEq, true_and]; congr 2; omega
theorem take_snoc {α : Type} {l : List α} {i : Nat} (h : i < l.length) : l.take (i + 1) = l.take i ++ [l[i]] := by rw [List.take_add_one, List.getElem?_eq_getElem h]; rfl
theorem szL_snoc (a : List Tk) (t : Tk) : szL (a ++ [t]) = szL a + t.text.length := by rw [szL_app]; simp [szL]
theorem stI_succ {ts : List Tk} {i : Nat} (h : i < ts.length) : stI 0 (ts.take (i + 1)) = stI 0 (ts.take i) ++ [(szL (ts.take i) : Int)] := by
 unfold stI; rw [take_snoc h, stL_snoc, List.map_append]; simp
theorem enI_succ {ts : List Tk} {i : Nat} (h : i < ts.length) : enI 0 (ts.take (i + 1)) = enI 0 (ts.take i) ++ [(szL (ts.take (i + 1)) : Int)] := by
 unfold enI; rw [take_snoc h, enL_snoc, List.map_append, szL_snoc]; simp
theorem stI_len (ts : List Tk) (o : Nat) : (stI o ts).length = ts.length := by unfold stI; rw [List.length_map, stL_length]
theorem enI_len (ts : List Tk) (o : Nat) : (enI o ts).length = ts.length := by unfold enI; rw [List.length_map, enL_length]
theorem starts_c (ts : List Tk) (hx : ts.length ≤ 1048576) (hz : szL ts ≤ 4611686018427387904) : PC Tryz.prog 21 [.slice (ts.map Tk.enc) .none] (.slice ((stI 0 ts).map vint) .none) := by
 have em : maxLen = 9223372036854775807 := by decide
 refine pc_of (N := 24) Tryz.func21 rfl rfl (by simp) (by simp [Bel.int, Bel.str, bel_Tk, bel_ints0, Ed.bel, bel_St, St.bel]) (bel_ints0 _ _) ?_
 refine qE0 ?_
 refine qE0 ?_
 refine qE0 ?_
 refine qE (a2 y24 y32) ?_
 repeat refine wS ?_
 refine awp_retok 3 1 (es := []) (by simp only [jN, seval, vint, qC] <;> with_reducible rfl) ?_
 refine awp_forS (σ := List Int × Nat) (ts.length) (fun (q : List Int × Nat) => [(3, .slice (q.1.map vint) (.tok 0)), (4, .int .i64 (q.2 : Int)), (7, .slice (ts.map Tk.enc) .none)]) [3, 4, 7] ([]) (fun (q : List Int × Nat) => [.buf q.1.length 1]) (fun (i : Nat) (q : List Int × Nat) => q = (stI 0 (ts.take i), szL (ts.take i))) (([], 0)) ([]) rfl rfl rfl rfl rfl rfl rfl rfl rfl (by decide) (by decide) (by decide) (fun _ => rfl) (by omega) ⟨(by first | rfl | (simp only [jN, seval, vint, qC] <;> first | done | with_reducible rfl)), (by first | rfl | (simp only [jN, seval, vint, qC] <;> first | done | with_reducible rfl)), (by first | rfl | (simp only [jN, seval, vint, qC] <;> first | done | with_reducible rfl)), (by first | rfl | (simp only [jN, seval, vint, qC] <;> first | done | with_reducible rfl)), (by first | rfl | (simp only [jN, seval, vint, qC] <;> first | done | with_reducible rfl)), trivial⟩ (by first | rfl | (simp only [jN, seval, vint, qC] <;> first | done | with_reducible rfl)) (rfl) (fun _ _ _ => by first | exact Nat.zero_le _ | (simp only [List.length_append]; omega)) ?_ ?_ ?_
 ·intro i q hg
  simp only [List.nil_append]
  refine ⟨?_, xR⟩
  exact xH
 ·intro i q hi hg
  have g1 := ix_nat hi
  have g2 := get_enc Tk.enc hi
  have hq1 : q.2 = szL (ts.take i) := by rw [hg]
  have hq2 : q.1 = stI 0 (ts.take i) := by rw [hg]
  have hsz1 : szL (ts.take (i + 1)) = szL (ts.take i) + ts[i].text.length := by rw [take_snoc hi, szL_snoc]
  have hsz2 : szL (ts.take (i + 1)) ≤ szL ts := by (conv => rhs; rw [← List.take_length (l := ts)]); exact szL_take_le hi
  have gw : IntKind.i64.wrap (((szL (ts.take i) : Nat) : Int) + (ts[i].text.length : Int)) = ((szL (ts.take (i + 1)) : Nat) : Int) := by rw [wrap_id (by omega) (by omega)]; omega
  have hsl : q.1.length = i := by rw [hq2, stI_len, List.length_take]; omega
  have happ := app_int (us := q.1) (u := ((szL (ts.take i) : Nat) : Int)) (id := 0) (tl := .full) (by omega)
  refine qE (a5 y24 y32 g1 g2 (a4 tN gw happ hq1)) ?_
  refine qE (a5 y3 y50 g1 g2 (a4 tN gw happ hq1)) ?_
  refine qE (a5 y3 y9 y32 g1 (a5 g2 tN gw happ hq1)) ?_
  exact ⟨⟨rfl, rfl, trivial⟩, (q.1 ++ [((szL (ts.take i) : Nat) : Int)], szL (ts.take (i + 1))), _, ⟨rfl, rfl, rfl, trivial⟩, by simp only [jN, seval, vint, qC, List.length_append, List.length_singleton] <;> rfl, by rw [stI_succ hi, hq2]⟩
 ·intro q hg
  rw [List.take_length] at hg
  subst hg
  refine qE0 ?_
  repeat refine wS ?_
  refine wT ⟨.inr rfl, _, rfl, ?_⟩
  simp only [jN, seval, vint, qC]
  try rfl
theorem contI (xs : List Int) (k : Int) (hx : xs.length ≤ maxLen) : PC Tryz.prog 22 [.slice (xs.map vint) .none, vint k] (.bool (xs.any fun x => decide (k = x))) := by
 refine pc_of (N := 17) Tryz.func22 rfl rfl (by simp) (by simp [Bel.int, Bel.str, bel_Tk, bel_ints0, Ed.bel, bel_St, St.bel]) (.bool _) ?_
 refine qE0 ?_
 refine qE (a2 y3 y50) ?_
 repeat refine wS ?_
 refine awp_forS (σ := Unit) (xs.length) (fun (s : Unit) => [(7, .slice (xs.map vint) .none), (1, vint k)]) [7, 1] ([]) (fun (s : Unit) => []) (fun (i : Nat) (s : Unit) => (xs.take i).any (fun x => decide (k = x)) = false) (()) ([]) rfl rfl rfl rfl rfl rfl rfl rfl rfl (by decide) (by decide) (by decide) (fun _ => rfl) (hx) ⟨(by first | rfl | (simp only [jN, seval, vint, qC] <;> first | done | with_reducible rfl)), (by first | rfl | (simp only [jN, seval, vint, qC] <;> first | done | with_reducible rfl)), (by first | rfl | (simp only [jN, seval, vint, qC] <;> first | done | with_reducible rfl)), (by first | rfl | (simp only [jN, seval, vint, qC] <;> first | done | with_reducible rfl)), trivial⟩ (by first | rfl | (simp only [jN, seval, vint, qC] <;> first | done | with_reducible rfl)) (by simp) (fun _ _ _ => by first | exact Nat.zero_le _ | (simp only [List.length_append]; omega)) ?_ ?_ ?_
 ·exact fun i s hg => ⟨by first | exact hbel_nil _ | (simp only [List.append_nil]; assumption) | (refine hbel_app' hb' (by simp) ?_; exact xH), xR⟩
 ·intro i s hi hg
  have g1 := ix_nat hi
  have g2 := get_enc vint hi
  refine qE (a5 y3 y50 g1 tN g2) ?_
  refine qE (a4 y3 g1 tN g2) ?_
  refine qI (a3 g1 tN g2) (fun b0 => ?_) (fun b0 => ?_)
  ·-- if t15
   refine qE (a3 g1 tN g2) ?_
   repeat refine wS ?_
   refine wT ⟨.inr rfl, _, rfl, ?_⟩
   rw [List.any_eq_true.2 ⟨_, List.getElem_mem hi, b0⟩]; rfl
  ·-- else t15
   refine qK ?_
   exact ⟨⟨rfl, rfl, trivial⟩, (), [], ⟨rfl, rfl, trivial⟩, rfl, any_take_succ hi hg b0⟩
 ·intro s hg
  rw [List.take_length] at hg
  refine qE0 ?_
  repeat refine wS ?_
  refine wT ⟨.inr rfl, _, rfl, ?_⟩
  rw [hg]; rfl
end Go.Abs
set_option maxRecDepth 8000
namespace Go.Abs
section
variable {P : Program} {N nb : Nat} {ops : Array Oper} {Q : Post}
end
end Go.Abs
namespace Go.Abs
section
variable {P : Program} {N nb : Nat} {ops : Array Oper} {Q : Post}
end
end Go.Abs
set_option maxRecDepth 4000
namespace Go.Abs
open Go.Proofs
def isAt32 : ISAt Tryz.prog 32 where
 f0 := _
 f1 := _
 ut := Tryz.underlying32
 held := by kernel_rfl
 n0 := by decide
 n1 := by decide
 o0 := rfl
 o1 := rfl
 u0 := Tryz.underlying3
 u1 := Tryz.underlying9
 a0 := Tryz.isAgg3
 a1 := Tryz.isAgg9
 gu := by kernel_rfl
def tkEq (a b : Tk) : Bool := decide (a.kind = b.kind) && decide (a.text = b.text)
theorem tkEq_iff {a b : Tk} : tkEq a b = true ↔ a = b := by
 cases a; cases b; simp [tkEq]
def tkEqs (us vs : List Tk) : Bool := decide (us.length = vs.length) && (List.range us.length).all fun i => match us[i]?, vs[i]? with | some a, some b => tkEq a b | _, _ => false
theorem tkEqs_iff {us vs : List Tk} : tkEqs us vs = true ↔ us = vs := by
 simp only [tkEqs, Bool.and_eq_true, decide_eq_true_eq, List.all_eq_true, List.mem_range]
 constructor
 ·rintro ⟨h1, h2⟩
  apply List.ext_getElem h1
  intro i h3 h4
  have := h2 i h3
  rw [List.getElem?_eq_getElem h3, List.getElem?_eq_getElem h4] at this
  exact tkEq_iff.1 this
 ·rintro rfl
  refine ⟨rfl, fun i hi => ?_⟩
  rw [List.getElem?_eq_getElem hi]
  exact tkEq_iff.2 rfl
theorem tkEqs_ne {us vs : List Tk} (h : us ≠ vs) : tkEqs us vs = false := by
 rw [← Bool.not_eq_true, tkEqs_iff]; exact h
theorem take_ne {us vs : List Tk} {i : Nat} (h1 : i < us.length) (h2 : i < vs.length) (h : us[i] ≠ vs[i]) : us ≠ vs := by rintro rfl; exact h rfl
theorem take_eq {us vs : List Tk} {i : Nat} (h1 : i < us.length) (h2 : i < vs.length) (h : us[i] = vs[i]) (hg : us.take i = vs.take i) : us.take (i + 1) = vs.take (i + 1) := by
 rw [take_snoc h1, take_snoc h2, hg, h]
theorem eqTk_c (us vs : List Tk) (hx : us.length ≤ maxLen) : PC Tryz.prog 16 [.slice (us.map Tk.enc) .none, .slice (vs.map Tk.enc) .none] (.bool (tkEqs us vs)) := by
 refine pc_of (N := 26) Tryz.func16 rfl rfl (by simp) (by simp [Bel.int, Bel.str, bel_Tk, bel_ints0, Ed.bel, bel_St, St.bel]) (.bool _) ?_
 refine qE0 ?_
 refine qE (a3 y3 y24 y32) ?_
 refine qI0 (fun bt10 => ?_) (fun bt10 => ?_)
 ·-- if t10
  have hne : us ≠ vs := by rintro rfl; simp at bt10
  rw [tkEqs_ne hne]
  refine qE0 ?_
  repeat refine wS ?_
  refine wT ⟨.inr rfl, _, rfl, ?_⟩
  first | rfl | trace_state
 ·-- else t10
  have hlen : us.length = vs.length := by simp at bt10; omega
  refine qK ?_
  refine qE (a2 y24 y32) ?_
  repeat refine wS ?_
  refine awp_forS (σ := Unit) (us.length) (fun (s : Unit) => [(0, .slice (us.map Tk.enc) .none), (1, .slice (vs.map Tk.enc) .none)]) [0, 1] ([]) (fun (s : Unit) => []) (fun (i : Nat) (s : Unit) => us.take i = vs.take i) (()) ([]) rfl rfl rfl rfl rfl rfl rfl rfl rfl (by decide) (by decide) (by decide) (fun _ => rfl) (hx) ⟨(by first | rfl | (simp only [jN, seval, vint, qC] <;> first | done | with_reducible rfl)), (by first | rfl | (simp only [jN, seval, vint, qC] <;> first | done | with_reducible rfl)), (by first | rfl | (simp only [jN, seval, vint, qC] <;> first | done | with_reducible rfl)), (by first | rfl | (simp only [jN, seval, vint, qC] <;> first | done | with_reducible rfl)), trivial⟩ (by first | rfl | (simp only [jN, seval, vint, qC] <;> first | done | with_reducible rfl)) (rfl) (fun _ _ _ => by first | exact Nat.zero_le _ | (simp only [List.length_append]; omega)) ?_ ?_ ?_
  ·exact fun i s hg => ⟨by first | exact hbel_nil _ | (simp only [List.append_nil]; assumption) | (refine hbel_app' hb' (by simp) ?_; exact xH), xR⟩
  ·intro i s hi hg
   have g1 := ix_nat hi
   have g2 := get_enc Tk.enc hi
   have hi2 : i < vs.length := by omega
   have g3 := get_enc Tk.enc hi2
   have g4 : (0 ≤ ((i : Nat) : Int) ∧ ((i : Nat) : Int) < (vs.length : Int)) = True := ix_nat hi2
   refine qE (a5 g1 g2 g3 g4 tN) ?_
   repeat refine wS ?_
   refine dp_draw (by kernel_rfl) ?_
   refine pT 8 (a5 y24 y32 g1 g2 (a3 g3 g4 tN)) ?_
   refine dp_neqIS (a := us[i].kind) (b := vs[i].kind) (s := us[i].text) (s' := vs[i].text) isAt32 rfl (by simp only [kC, seval, vint, qC] <;> first | done | rfl) (by simp only [kC, seval, vint, qC] <;> first | done | rfl) (by simp only [kE, seval, vint, qC] <;> first | done | rfl) (by simp only [kE, seval, vint, qC] <;> first | done | rfl) (by decide) (by decide) ?_
   refine pX (a5 g1 g2 g3 g4 tN) ?_
   refine qI (a5 g1 g2 g3 g4 tN) (fun bt24 => ?_) (fun bt24 => ?_)
   ·-- if t24
    have hne : us[i] ≠ vs[i] := fun e => by rw [e] at bt24; simp at bt24
    rw [tkEqs_ne (take_ne hi hi2 hne)]
    refine qE (a5 g1 g2 g3 g4 tN) ?_
    repeat refine wS ?_
    refine wT ⟨.inr rfl, _, rfl, ?_⟩
    first | rfl | trace_state
   ·-- else t24
    have heq : us[i] = vs[i] := tkEq_iff.1 (by unfold tkEq; simpa using bt24)
    refine qK ?_
    exact ⟨⟨rfl, rfl, trivial⟩, (), [], ⟨rfl, rfl, trivial⟩, rfl, take_eq hi hi2 heq hg⟩
  ·intro s hg
   have hv : us = vs := by rw [List.take_length, List.take_of_length_le (by omega)] at hg; exact hg
   rw [tkEqs_iff.2 hv]
   refine qE0 ?_
   repeat refine wS ?_
   refine wT ⟨.inr rfl, _, rfl, ?_⟩
   first | rfl | trace_state
theorem eqTkR_c (us vs : List Tk) (hx : us.length ≤ maxLen) : PC Tryz.prog 7 [.slice (us.map Tk.enc) .none, .slice (vs.map Tk.enc) .none] (.bool (tkEqs us vs)) := by
 refine pc_of (N := 26) Tryz.func7 rfl rfl (by simp) (by simp [Bel.int, Bel.str, bel_Tk, bel_ints0, Ed.bel, bel_St, St.bel]) (.bool _) ?_
 refine qE0 ?_
 refine qE (a3 y3 y24 y32) ?_
 refine qI0 (fun bt10 => ?_) (fun bt10 => ?_)
 ·-- if t10
  have hne : us ≠ vs := by rintro rfl; simp at bt10
  rw [tkEqs_ne hne]
  refine qE0 ?_
  repeat refine wS ?_
  refine wT ⟨.inr rfl, _, rfl, ?_⟩
  first | rfl | trace_state
 ·-- else t10
  have hlen : us.length = vs.length := by simp at bt10; omega
  refine qK ?_
  refine qE (a2 y24 y32) ?_
  repeat refine wS ?_
  refine awp_forS (σ := Unit) (us.length) (fun (s : Unit) => [(0, .slice (us.map Tk.enc) .none), (1, .slice (vs.map Tk.enc) .none)]) [0, 1] ([]) (fun (s : Unit) => []) (fun (i : Nat) (s : Unit) => us.take i = vs.take i) (()) ([]) rfl rfl rfl rfl rfl rfl rfl rfl rfl (by decide) (by decide) (by decide) (fun _ => rfl) (hx) ⟨(by first | rfl | (simp only [jN, seval, vint, qC] <;> first | done | with_reducible rfl)), (by first | rfl | (simp only [jN, seval, vint, qC] <;> first | done | with_reducible rfl)), (by first | rfl | (simp only [jN, seval, vint, qC] <;> first | done | with_reducible rfl)), (by first | rfl | (simp only [jN, seval, vint, qC] <;> first | done | with_reducible rfl)), trivial⟩ (by first | rfl | (simp only [jN, seval, vint, qC] <;> first | done | with_reducible rfl)) (rfl) (fun _ _ _ => by first | exact Nat.zero_le _ | (simp only [List.length_append]; omega)) ?_ ?_ ?_
  ·exact fun i s hg => ⟨by first | exact hbel_nil _ | (simp only [List.append_nil]; assumption) | (refine hbel_app' hb' (by simp) ?_; exact xH), xR⟩
  ·intro i s hi hg
   have g1 := ix_nat hi
   have g2 := get_enc Tk.enc hi
   have hi2 : i < vs.length := by omega
   have g3 := get_enc Tk.enc hi2
   have g4 : (0 ≤ ((i : Nat) : Int) ∧ ((i : Nat) : Int) < (vs.length : Int)) = True := ix_nat hi2
   refine qE (a5 g1 g2 g3 g4 tN) ?_
   repeat refine wS ?_
   refine dp_draw (by kernel_rfl) ?_
   refine pT 8 (a5 y24 y32 g1 g2 (a3 g3 g4 tN)) ?_
   refine dp_neqIS (a := us[i].kind) (b := vs[i].kind) (s := us[i].text) (s' := vs[i].text) isAt32 rfl (by simp only [kC, seval, vint, qC] <;> first | done | rfl) (by simp only [kC, seval, vint, qC] <;> first | done | rfl) (by simp only [kE, seval, vint, qC] <;> first | done | rfl) (by simp only [kE, seval, vint, qC] <;> first | done | rfl) (by decide) (by decide) ?_
   refine pX (a5 g1 g2 g3 g4 tN) ?_
   refine qI (a5 g1 g2 g3 g4 tN) (fun bt24 => ?_) (fun bt24 => ?_)
   ·-- if t24
    have hne : us[i] ≠ vs[i] := fun e => by rw [e] at bt24; simp at bt24
    rw [tkEqs_ne (take_ne hi hi2 hne)]
    refine qE (a5 g1 g2 g3 g4 tN) ?_
    repeat refine wS ?_
    refine wT ⟨.inr rfl, _, rfl, ?_⟩
    first | rfl | trace_state
   ·-- else t24
    have heq : us[i] = vs[i] := tkEq_iff.1 (by unfold tkEq; simpa using bt24)
    refine qK ?_
    exact ⟨⟨rfl, rfl, trivial⟩, (), [], ⟨rfl, rfl, trivial⟩, rfl, take_eq hi hi2 heq hg⟩
  ·intro s hg
   have hv : us = vs := by rw [List.take_length, List.take_of_length_le (by omega)] at hg; exact hg
   rw [tkEqs_iff.2 hv]
   refine qE0 ?_
   repeat refine wS ?_
   refine wT ⟨.inr rfl, _, rfl, ?_⟩
   first | rfl | trace_state
theorem cloneTk (H : Heap) (id : Nat) (xs : List Tk) (hid : H[id]? = some .unborn) (hx : xs.length * 24 ≤ 2 ^ 47) : ACalls Tryz.prog 18 [.slice (xs.map Tk.enc) .none] H fun r' H' => r' = .slice (xs.map Tk.enc) (.tok id) ∧ H' = H.set id (.buf xs.length 2) := by
 have em : maxLen = 9223372036854775807 := by decide
 have happ : xs.map Tk.enc ≠ [] → ∀ fr HH, aappend ⟨true, 2, 24⟩ fr HH (.slice [] .full) (.slice (xs.map Tk.enc) .none) = some (.slice (xs.map Tk.enc) (.tok fr), some (fr, .buf xs.length 2)) := fun hne fr HH => by
  have := aappend_all (i := ⟨true, 2, 24⟩) (fresh := fr) (H := HH) (tl := .none) hne (by simpa using hx) (by simp; omega) (fun e he => by obtain ⟨v, _, rfl⟩ := List.mem_map.1 he; exact ⟨v.enc_len, by rw [Tk.enc_cells]; rfl⟩) (by decide)
  simpa using this
 refine aF (N := 8) Tryz.func18 rfl rfl (by simp) fun hb' => ?_
 refine qE0 ?_
 refine qT0 1 ?_
 refine aops_nilcmp (es := xs.map Tk.enc) (tl := .none) rfl (by simp only [kC, seval, vint, qC] <;> rfl) rfl (by decide) (by rw [zte24]; rfl) (fun b hb => ?_)
 refine oN ?_
 refine qI0 (fun b0 => ?_) (fun b0 => ?_)
 ·-- if t4
  have hxs : xs = [] := by
   cases xs with
   | nil => rfl
   | cons a l => rw [hb (by simp)] at b0; cases b0
  subst hxs
  refine qE0 ?_
  repeat refine wS ?_
  refine awp_retokF id 2 2 (es := []) hid (by simp only [kC, seval, vint, qC] <;> rfl) ?_
  refine wT ⟨.inr rfl, _, rfl, ?_⟩
  exact ⟨rfl, rfl⟩
 ·-- else t4
  refine qK ?_
  rcases Classical.em (xs = []) with hxs | hxs
  ·-- case
   subst hxs
   repeat refine wS ?_
   refine eE (by simp only [kA, seval, y24, y32, vint, qC, List.map_nil, aappend] <;> with_reducible rfl) (by decide) ?_
   repeat refine wS ?_
   refine awp_retokF id 2 2 (es := []) hid (by simp only [kC, seval, vint, qC] <;> rfl) ?_
   refine wT ⟨.inr rfl, _, rfl, ?_⟩
   exact ⟨rfl, rfl⟩
  ·-- case
   have ha := happ (by simpa using hxs)
   refine qT 2 (a3 y24 y32 ha) ?_
   refine aops_opF false id hid rfl (by decide) (v := .slice (xs.map Tk.enc) (.tok id)) (e := some (id, .buf xs.length 2)) (by simp only [jN, seval, vint, qC, ha, aop, abuiltin, zti24, zte24] <;> rfl) rfl ?_
   refine qX ha ?_
   repeat refine wS ?_
   refine wT ⟨.inr rfl, _, rfl, ?_⟩
   exact ⟨rfl, rfl⟩
end Go.Abs
