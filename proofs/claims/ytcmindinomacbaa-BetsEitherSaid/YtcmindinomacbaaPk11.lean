/-
  bets: one square system of gains, tried.
  bets: Beat.
  bets: a Book copied; the reference's Beats; the bets copied, with a name for what is laid.
  bets: the reference's corners; whether bets are sound.
  Printed by gen.py: the code of some functions, without what no step looks at; held against the program's own by the kernel.
  bets: law Sound.
  bets: laws Beats and Either.
  bets: law Either.
-/
import Derived.Test.YtcmindinomacbaaPk10
import Derived.Test.YtcmindinomacbaaPk9
import Derived.Test.YtcmindinomacbaaPk5
import Derived.Test.YtcmindinomacbaaPk3
import Derived.Test.YtcmindinomacbaaProg
import Derived.KernelRfl
import Derived.Shelf.Abstract
set_option linter.all false
namespace Go.Proofs.Try.Am
open Go.Am Bq
set_option maxRecDepth 100000
set_option maxHeartbeats 4000000

theorem RowsN.moreP [Tabs prog] {hp0 : Nat} {G G2 : Zh} {q rv : Value} {ws : List Value} {k b2 : Nat} {T : Xx} (R : RowsN hp0 G q ws k T) (hl : ws.length ≤ 1000) (h0 : hp0 ≤ G.length) (hE : Ext (fun _ => False) G G2) (hr : OwnP 26 G2 rv (rowC T k ws.length)) (hrb : ∀ b, Yf rv = some b → G.length ≤ b) (hb2 : G2[b2]? = some (.cells [rv] 47 false))
    {K : Value → Zh → Prop} (hk : ∀ q' h', RowsN hp0 h' q' (ws ++ [rv]) k T → Ext (fun b => hp0 ≤ b) G2 h' → Ext (fun i => Yf q = some i) G2 h' → K q' h') : Xg prog G2 103 103 q (.slice (some ⟨b2, 0, none⟩) 1 1) K := by
  rcases R with ⟨rfl, rfl⟩ | ⟨R, _⟩
  · obtain ⟨br, yr, hr1, hr2⟩ := Xy hr Vm
    have hbr : Yf rv = some br := by rw [hr1]; rfl
    have hbrl := hrb br hbr
    refine OwnV.app (e := 47) (h := G2) (v := .slice none 0 0) (ws := []) (us := [rv]) (.inl ⟨rfl, rfl⟩) app_103_103 (.inr ⟨b2, 0, none, 1, [rv], 47, false, rfl, Nat.le_refl _, by simp [view, hb2, Blk.view], rfl⟩) (fun w hw => ?_) (by simp) fun q' h' ho hE' hb' => ?_
    · rw [List.nil_append, List.mem_singleton] at hw
      rw [hw, hr1]; exact ⟨rfl, rfl⟩
    · have hE2 : Ext (fun _ => False) G2 h' := hE'.mono fun b hb => by cases hb
      refine hk q' h' (.inr ⟨⟨.inr ho, by simp, fun i hi => ?_, fun i j hi hj _ => ?_, fun i hi hc => ?_, ⟨fun b hb => ?_, fun i b hi hb => ?_⟩⟩, ho⟩) (hE2.mono fun _ h => h.elim) hE'
      · obtain rfl : i = 0 := by simpa using hi
        exact hr.ext hE2
      · simp at hi hj; omega
      · obtain rfl : i = 0 := by simpa using hi
        simp only [List.nil_append, List.getD, List.getElem?_cons_zero, Option.getD_some, hbr] at hc
        rcases hb' with h1 | ⟨b', h1, h2⟩
        · rw [h1] at hc; cases hc
        · rw [h1] at hc; cases hc
          have := Yh hr2; omega
      · rcases hb' with h1 | ⟨b', h1, h2⟩
        · rw [h1] at hb; cases hb
        · rw [h1] at hb; cases hb
          have := hE.1; omega
      · obtain rfl : i = 0 := by simpa using hi
        simp only [List.nil_append, List.getD, List.getElem?_cons_zero, Option.getD_some, hbr] at hb
        cases hb; omega
  · exact R.more hl h0 hE hr hrb hb2 fun q' h' ho R' e1 e2 => hk q' h' (.inr ⟨R', ho⟩) e1 e2

theorem setSame {h : Zh} {b : Nat} {B : Blk} (hb : h[b]? = some B) : h.set b B = h := by
  refine List.ext_getElem? fun i => ?_
  by_cases hi : b = i
  · subst hi; rw [List.getElem?_set_self (List.getElem?_eq_some_iff.1 hb).1, hb]
  · rw [List.getElem?_set_ne hi]
def gRow (l : List (Int × Int)) (w : Nat) (is : List Nat) (k : Nat) : List (Int × Int) := (List.range k).map fun c => ofQ (gnQ l w (is.getD c 0))
theorem gRow_succ (l : List (Int × Int)) (w : Nat) (is : List Nat) (k : Nat) : gRow l w is (k + 1) = gRow l w is k ++ [ofQ (gnQ l w (is.getD k 0))] := by
  rw [gRow, List.range_succ, List.map_append]; rfl
theorem gRow_full (l : List (Int × Int)) (ws is : List Nat) (r : Nat) : rowC (sysG l ws is) is.length r = gRow l (ws.getD r 0) is is.length ++ [ofQ 1] := by
  rw [rowC, List.range_succ, List.map_append, gRow]
  congr 1
  · exact List.map_congr_left fun c hc => by rw [sysG, if_pos (List.mem_range.1 hc)]
  · rw [List.map_cons, List.map_nil, sysG, if_neg (by omega)]
structure BeatEnv (h : Zh) (p1 p2 p3 p4 : Nat) (n : Nat) (v ov f : Value) (l : List (Int × Int)) (O : List Nat) : Prop where
  on : h[p1]? = some (.cells [ov] 38 false)
  ons : IntSl h ov (Wu O)
  bl : h[p2]? = some (.cells [v] 30 false)
  bls : PairSl h v l
  tb : h[p3]? = some (.cells [Zd (n : Nat), v] 86 false)
  fd : h[p4]? = some (.cells [f] 38 false)
theorem BeatEnv.ext {h h' : Zh} {p1 p2 p3 p4 n : Nat} {v ov f : Value} {l : List (Int × Int)} {O : List Nat} (b : BeatEnv h p1 p2 p3 p4 n v ov f l O) (hE : Ext (fun _ => False) h h') : BeatEnv h' p1 p2 p3 p4 n v ov f l O :=
  ⟨(hE.2 _ (Yh b.on) id).trans b.on, iExt b.ons hE, (hE.2 _ (Yh b.bl) id).trans b.bl, b.bls.ext hE, (hE.2 _ (Yh b.tb) id).trans b.tb, (hE.2 _ (Yh b.fd) id).trans b.fd⟩

def FoundAt (n : Nat) (l : List (Int × Int)) (p4 : Nat) (h' : Zh) : Prop := ∃ ss x, ss.length = l.length ∧ SmS ss ∧ Vx n l ss = true ∧ h'[p4]? = some (.cells [x] 38 false) ∧ IntSl h' x ss

theorem s85_callW [Tabs Try.prog] {args : List Value} {h : Zh} {Q : Value → Zh → Prop} (hsz : args.length ≤ 115) (hk : AWS Try.prog 115 s85 (Zv Try.prog [.tmp 6] Q) (Zt 0 args) h) : ACall Try.prog 85 args h Q :=
  Yn Try.func85 rfl (enters_of Try.func85 (by kernel_rfl) rfl) rfl rfl (by decide) s85_strip s85_ok hsz hk
theorem try_call [Tabs prog] {h : Zh} {p1 p2 p3 p4 n : Nat} {u v ov : Value} {l : List (Int × Int)} {on : Nat} {O W : List Nat} (hOn : O = Zi on l.length) (b : BeatEnv h p1 p2 p3 p4 n v ov (.slice none 0 0) l O) (hu : IntSl h u (Wu W)) (hval : Yz n l = true)
    (hO1 : 1 ≤ O.length) (hO5 : O.length ≤ 6) (hW5 : W.length ≤ 5) (hO : ∀ c, c < O.length → O.getD c 0 < l.length) (hW : ∀ r, r < W.length → W.getD r 0 < n) :
    ACall prog 85 [u, .pointer (some ⟨p1, 0, none⟩), .pointer (some ⟨p2, 0, none⟩), .pointer (some ⟨p3, 0, none⟩), .pointer (some ⟨p4, 0, none⟩)] h fun r h' => (r = .bool true ∧ Ext (fun _ => False) h h' ∧ ∀ xs, O.length = W.length → Wc W.length O.length (sysG l W O) = some xs → Vx n l (stkL on xs l.length) = false) ∨
      (r = .bool false ∧ FoundAt n l p4 h' ∧ Ext (fun b => b = p4) h h') := by
  obtain ⟨hn2, hn5, hl1, hl6, hok⟩ := We hval
  have hct := cts_of hval
  have hlO : (Wu O).length = O.length := castI_len O
  have hlW : (Wu W).length = W.length := castI_len W
  refine s85_callW (by simp) ?_
  simp only [s85]
  refine Ze fun N1 hN1 => ?_
  simp (maxSteps := 2000000) only [↓Za, ↓Zb, ↓Zc, vup, cond_false, aop, Zg, Zt, ev, sput, Zf, Nat.reduceBEq, Nat.reduceAdd]
  refine hN1 [(0, u), (1, .pointer (some ⟨p1, 0, none⟩)), (2, .pointer (some ⟨p2, 0, none⟩)), (3, .pointer (some ⟨p3, 0, none⟩)), (4, .pointer (some ⟨p4, 0, none⟩)), (6, .bool false)] _ _ ?_ (by simp (maxSteps := 2000000) only [vup, cond_true, cond_false, Nat.reduceBEq])
  clear hN1
  try clear N1
  refine Zm fun M hM => ?_
  by_cases hlen : O.length = W.length
  rotate_left
  · have hne : (((O.length : Nat) : Int) != ((W.length : Nat) : Int)) = true := by simp; omega
    refine Ze fun N2 hN2 => ?_
    simp (maxSteps := 2000000) only [↓Za, ↓Zb, ↓Zc, vup, List.map_cons, List.map_nil, cond_true, cond_false, aop, Zg, ev, sput, Zf, Yg, Yl, Zl, Nat.reduceBEq, tyf, Vd b.on Vb, b.ons.len, hu.len, hlO, hlW, hne]
    refine hN2 [(0, u), (1, .pointer (some ⟨p1, 0, none⟩)), (2, .pointer (some ⟨p2, 0, none⟩)), (3, .pointer (some ⟨p3, 0, none⟩)), (4, .pointer (some ⟨p4, 0, none⟩)), (6, .bool false), (25, .bool true)] _ _ ?_ (by simp (maxSteps := 2000000) only [vup, cond_true, cond_false, Nat.reduceBEq])
    clear hN2
    try clear N2
    refine Xl rfl ?_
    refine Zk ?_
    simp (maxSteps := 2000000) only [↓Za, ↓Zw, ↓Zz, ↓Zb, ↓Zc, vup, cond_true, cond_false, aop, Zg, ev, sput, Zf, Nat.reduceBEq, Zv, Xw, tup]
    exact .inl ⟨Ext.refl _ _, fun xs h => absurd h hlen⟩
  have hne : (((O.length : Nat) : Int) != ((W.length : Nat) : Int)) = false := by rw [hlen]; simp
  refine Ze fun N3 hN3 => ?_
  simp (maxSteps := 2000000) only [↓Za, ↓Zb, ↓Zc, vup, List.map_cons, List.map_nil, cond_true, cond_false, aop, Zg, ev, sput, Zf, Yg, Yl, Zl, Nat.reduceBEq, tyf, Vd b.on Vb, b.ons.len, hu.len, hlO, hlW, hne]
  refine hN3 [(0, u), (1, .pointer (some ⟨p1, 0, none⟩)), (2, .pointer (some ⟨p2, 0, none⟩)), (3, .pointer (some ⟨p3, 0, none⟩)), (4, .pointer (some ⟨p4, 0, none⟩)), (6, .bool false), (25, .bool false)] _ _ ?_ (by simp (maxSteps := 2000000) only [vup, cond_true, cond_false, Nat.reduceBEq])
  clear hN3
  try clear N3
  refine Xb rfl ?_
  refine Zk ?_
  simp (maxSteps := 2000000) only [↓Zu, Zg]
  refine hM [(0, u), (1, .pointer (some ⟨p1, 0, none⟩)), (2, .pointer (some ⟨p2, 0, none⟩)), (3, .pointer (some ⟨p3, 0, none⟩)), (4, .pointer (some ⟨p4, 0, none⟩)), (6, .bool false)] _ _ ?_ (by simp (maxSteps := 2000000) only [vup, cond_true, cond_false, Nat.reduceBEq])
  clear hM
  try clear M
  refine Ze fun N4 hN4 => ?_
  simp (maxSteps := 2000000) only [↓Za, ↓Zb, ↓Zc, vup, cond_false, aop, Zg, ev, sput, Zf, Nat.reduceBEq]
  refine hN4 [(0, u), (1, .pointer (some ⟨p1, 0, none⟩)), (2, .pointer (some ⟨p2, 0, none⟩)), (3, .pointer (some ⟨p3, 0, none⟩)), (4, .pointer (some ⟨p4, 0, none⟩)), (6, .bool false), (7, .slice none 0 0)] _ _ ?_ (by simp (maxSteps := 2000000) only [vup, cond_true, cond_false, Nat.reduceBEq])
  clear hN4
  try clear N4
  obtain ⟨T, hT⟩ : ∃ T, T = sysG l W O := ⟨_, rfl⟩
  refine Zm fun X hX => ?_
  refine Ze fun N5 hN5 => ?_
  simp (maxSteps := 2000000) only [↓Za, ↓Zb, ↓Zc, vup, List.map_cons, List.map_nil, cond_true, cond_false, aop, Zg, ev, sput, Zf, Zl, Nat.reduceBEq, tyf, hu.len, hlW]
  refine hN5 [(0, u), (1, .pointer (some ⟨p1, 0, none⟩)), (2, .pointer (some ⟨p2, 0, none⟩)), (3, .pointer (some ⟨p3, 0, none⟩)), (4, .pointer (some ⟨p4, 0, none⟩)), (6, .bool false), (7, .slice none 0 0), (26, u), (27, Zd W.length), (28, .int .i64 0)] _ _ ?_ (by simp (maxSteps := 2000000) only [vup, cond_true, cond_false, Nat.reduceBEq])
  clear hN5
  try clear N5
  refine Zn ?_
  refine Zs fun Qa hQa => ?_
  refine Yu (γ := Nat × Value × List Value × Zh) (fun g => g.1 ≤ W.length ∧ g.2.2.1.length = g.1 ∧ RowsN h.length g.2.2.2 g.2.1 g.2.2.1 O.length T ∧ Ext (fun _ => False) h g.2.2.2)
    (fun g => ([(0, u), (1, .pointer (some ⟨p1, 0, none⟩)), (2, .pointer (some ⟨p2, 0, none⟩)), (3, .pointer (some ⟨p3, 0, none⟩)), (4, .pointer (some ⟨p4, 0, none⟩)), (6, .bool false), (7, g.2.1), (26, u), (27, Zd W.length), (28, Zd (g.1 : Nat))], g.2.2.2)) (fun g => W.length - g.1) (0, .slice none 0 0, [], h) ⟨Nat.zero_le _, rfl, .inl ⟨rfl, rfl⟩, Ext.refl _ _⟩ (by simp (maxSteps := 2000000) only [vup, cond_true, cond_false, Nat.reduceBEq, Int.natCast_zero]) rfl ?_
  rintro ⟨r, q, ws, G⟩ ⟨hr, hwsl, R, hEG⟩
  simp only at hr hwsl R hEG
  refine Zs fun Qb hQb => ?_
  simp only [l85_1]
  have bG := b.ext hEG
  have huG := iExt hu hEG
  by_cases hrin : (r : Int) < W.length
  · have hr' : r < W.length := by omega
    have hr2 : r < (Wu W).length := by omega
    obtain ⟨w, hw⟩ : ∃ w, W.getD r 0 = w := ⟨_, rfl⟩
    have hwn := hW r hr'
    rw [hw] at hwn
    have hcw : (Wu W).getD r 0 = ((w : Nat) : Int) := by rw [← hw, Wu, List.getD, List.getElem?_map, List.getElem?_eq_getElem hr', List.getD, List.getElem?_eq_getElem hr']; rfl
    refine Ze fun N6 hN6 => ?_
    simp (maxSteps := 2000000) only [↓Za, ↓Zb, ↓Zc, vup, cond_true, cond_false, aop, Zg, ev, sput, Zf, Yg, Yl, Nat.reduceBEq, hrin]
    refine hN6 [(0, u), (1, .pointer (some ⟨p1, 0, none⟩)), (2, .pointer (some ⟨p2, 0, none⟩)), (3, .pointer (some ⟨p3, 0, none⟩)), (4, .pointer (some ⟨p4, 0, none⟩)), (6, .bool false), (7, q), (26, u), (27, Zd W.length), (28, Zd (r : Nat)), (29, .bool true)] _ _ ?_ (by simp (maxSteps := 2000000) only [vup, cond_true, cond_false, Nat.reduceBEq])
    clear hN6
    try clear N6
    refine Ze fun N7 hN7 => ?_
    simp (maxSteps := 2000000) only [↓Zu, ↓vdn, vup, cond_true, cond_false, Zg, ev, Nat.reduceBEq]
    refine hN7 [(0, u), (1, .pointer (some ⟨p1, 0, none⟩)), (2, .pointer (some ⟨p2, 0, none⟩)), (3, .pointer (some ⟨p3, 0, none⟩)), (4, .pointer (some ⟨p4, 0, none⟩)), (6, .bool false), (7, q), (26, u), (27, Zd W.length), (28, Zd (r : Nat))] _ _ ?_ (by simp (maxSteps := 2000000) only [vup, cond_true, cond_false, Nat.reduceBEq])
    clear hN7
    try clear N7
    refine Zm fun B hB => ?_
    refine Zn ?_
    refine Ze fun N8 hN8 => ?_
    simp (maxSteps := 2000000) only [↓Za, ↓Zb, ↓Zc, vup, cond_true, cond_false, aop, Zg, ev, sput, Zf, Nat.reduceBEq, huG.idx el_38 esz_3 hr2, huG.load Wy hr2, hcw]
    refine hN8 [(0, u), (1, .pointer (some ⟨p1, 0, none⟩)), (2, .pointer (some ⟨p2, 0, none⟩)), (3, .pointer (some ⟨p3, 0, none⟩)), (4, .pointer (some ⟨p4, 0, none⟩)), (6, .bool false), (7, q), (9, Zd (w : Nat)), (26, u), (27, Zd W.length), (28, Zd (r : Nat))] _ _ ?_ (by simp (maxSteps := 2000000) only [vup, cond_true, cond_false, Nat.reduceBEq])
    clear hN8
    try clear N8
    refine Ze fun N9 hN9 => ?_
    simp (maxSteps := 2000000) only [↓Za, ↓Zb, ↓Zc, vup, cond_false, aop, Zg, ev, sput, Zf, Nat.reduceBEq]
    refine hN9 [(0, u), (1, .pointer (some ⟨p1, 0, none⟩)), (2, .pointer (some ⟨p2, 0, none⟩)), (3, .pointer (some ⟨p3, 0, none⟩)), (4, .pointer (some ⟨p4, 0, none⟩)), (6, .bool false), (7, q), (9, Zd (w : Nat)), (10, .slice none 0 0), (26, u), (27, Zd W.length), (28, Zd (r : Nat))] _ _ ?_ (by simp (maxSteps := 2000000) only [vup, cond_true, cond_false, Nat.reduceBEq])
    clear hN9
    try clear N9
    refine Zm fun Y hY => ?_
    refine Ze fun N10 hN10 => ?_
    simp (maxSteps := 2000000) only [↓Za, ↓Zb, ↓Zc, vup, List.map_cons, List.map_nil, cond_true, cond_false, aop, Zg, ev, sput, Zf, Zl, Nat.reduceBEq, tyf, Vd bG.on Vb, bG.ons.len, hlO]
    refine hN10 [(0, u), (1, .pointer (some ⟨p1, 0, none⟩)), (2, .pointer (some ⟨p2, 0, none⟩)), (3, .pointer (some ⟨p3, 0, none⟩)), (4, .pointer (some ⟨p4, 0, none⟩)), (6, .bool false), (7, q), (9, Zd (w : Nat)), (10, .slice none 0 0), (26, u), (27, Zd W.length), (28, Zd (r : Nat)), (32, ov), (33, Zd O.length), (34, .int .i64 0)] _ _ ?_ (by simp (maxSteps := 2000000) only [vup, cond_true, cond_false, Nat.reduceBEq])
    clear hN10
    try clear N10
    refine Zn ?_
    refine Zs fun Qc hQc => ?_
    refine Yu (γ := Nat × Value × Zh) (fun g => g.1 ≤ O.length ∧ OwnP 26 g.2.2 g.2.1 (gRow l w O g.1) ∧ Ext (fun _ => False) G g.2.2 ∧ (∀ b, Yf g.2.1 = some b → G.length ≤ b))
      (fun g => ([(0, u), (1, .pointer (some ⟨p1, 0, none⟩)), (2, .pointer (some ⟨p2, 0, none⟩)), (3, .pointer (some ⟨p3, 0, none⟩)), (4, .pointer (some ⟨p4, 0, none⟩)), (6, .bool false), (7, q), (9, Zd (w : Nat)), (10, g.2.1), (26, u), (27, Zd W.length), (28, Zd (r : Nat)), (32, ov), (33, Zd O.length), (34, Zd (g.1 : Nat))], g.2.2)) (fun g => O.length - g.1) (0, .slice none 0 0, G) ⟨Nat.zero_le _, .inl ⟨rfl, rfl⟩, Ext.refl _ _, fun b hb => by cases hb⟩ (by simp (maxSteps := 2000000) only [vup, cond_true, cond_false, Nat.reduceBEq, Int.natCast_zero]) rfl ?_
    rintro ⟨c, x, D⟩ ⟨hc, hx, hED, hbx⟩
    simp only at hc hx hED hbx
    refine Zs fun Qd hQd => ?_
    simp only [l85_0]
    have bD := bG.ext hED
    by_cases hcin : (c : Int) < O.length
    · have hc' : c < O.length := by omega
      have hc2 : c < (Wu O).length := by omega
      obtain ⟨i, hi⟩ : ∃ i, O.getD c 0 = i := ⟨_, rfl⟩
      have hil := hO c hc'
      rw [hi] at hil
      have hci : (Wu O).getD c 0 = ((i : Nat) : Int) := by rw [castI_getD, hi]
      obtain ⟨⟨e0, y⟩, hxy⟩ : ∃ p, l.getD i (0, 0) = p := ⟨_, rfl⟩
      have hb := hok i hil
      rw [hxy] at hb
      simp only [okB, Bool.and_eq_true, decide_eq_true_eq] at hb
      obtain ⟨e, he⟩ : ∃ e : Nat, e0 = e := ⟨e0.toNat, by omega⟩
      subst he
      have hpow : (2 : Int) ^ n ≤ 32 := by
        have h1 : (2 : Nat) ^ n ≤ 2 ^ 5 := Nat.pow_le_pow_right (by decide) hn5
        exact_mod_cast h1
      have hgn : (if e.testBit w = true then (12 : Int) else 0) - y = gnI l w i := by rw [gnI, hxy, Int.toNat_natCast]
      have gc := fun z => gain_call (h := z) (x := e) (w := w) (y := y) (by omega) (by omega)
      simp only [hgn] at gc
      refine Ze fun N11 hN11 => ?_
      simp (maxSteps := 2000000) only [↓Za, ↓Zb, ↓Zc, vup, cond_true, cond_false, aop, Zg, ev, sput, Zf, Yg, Yl, Nat.reduceBEq, hcin]
      refine hN11 [(0, u), (1, .pointer (some ⟨p1, 0, none⟩)), (2, .pointer (some ⟨p2, 0, none⟩)), (3, .pointer (some ⟨p3, 0, none⟩)), (4, .pointer (some ⟨p4, 0, none⟩)), (6, .bool false), (7, q), (9, Zd (w : Nat)), (10, x), (26, u), (27, Zd W.length), (28, Zd (r : Nat)), (32, ov), (33, Zd O.length), (34, Zd (c : Nat)), (35, .bool true)] _ _ ?_ (by simp (maxSteps := 2000000) only [vup, cond_true, cond_false, Nat.reduceBEq])
      clear hN11
      try clear N11
      refine Ze fun N12 hN12 => ?_
      simp (maxSteps := 2000000) only [↓Zu, ↓vdn, vup, cond_true, cond_false, Zg, ev, Nat.reduceBEq]
      refine hN12 [(0, u), (1, .pointer (some ⟨p1, 0, none⟩)), (2, .pointer (some ⟨p2, 0, none⟩)), (3, .pointer (some ⟨p3, 0, none⟩)), (4, .pointer (some ⟨p4, 0, none⟩)), (6, .bool false), (7, q), (9, Zd (w : Nat)), (10, x), (26, u), (27, Zd W.length), (28, Zd (r : Nat)), (32, ov), (33, Zd O.length), (34, Zd (c : Nat))] _ _ ?_ (by simp (maxSteps := 2000000) only [vup, cond_true, cond_false, Nat.reduceBEq])
      clear hN12
      try clear N12
      refine Zm fun C hC => ?_
      refine Zn ?_
      refine Ze fun N13 hN13 => ?_
      simp (maxSteps := 2000000) only [↓Za, ↓Zb, ↓Zc, vup, cond_true, cond_false, aop, Zg, ev, sput, Zf, Nat.reduceBEq, bD.ons.idx el_38 esz_3 hc2, bD.ons.load Wy hc2, hci]
      refine hN13 [(0, u), (1, .pointer (some ⟨p1, 0, none⟩)), (2, .pointer (some ⟨p2, 0, none⟩)), (3, .pointer (some ⟨p3, 0, none⟩)), (4, .pointer (some ⟨p4, 0, none⟩)), (6, .bool false), (7, q), (9, Zd (w : Nat)), (10, x), (12, Zd (i : Nat)), (26, u), (27, Zd W.length), (28, Zd (r : Nat)), (32, ov), (33, Zd O.length), (34, Zd (c : Nat))] _ _ ?_ (by simp (maxSteps := 2000000) only [vup, cond_true, cond_false, Nat.reduceBEq])
      clear hN13
      try clear N13
      refine Zk ?_
      simp only [q85_11]
      refine Vg 7 fun N1 hN1 => ?_
      simp (maxSteps := 2000000) only [↓Za, ↓Zb, ↓Zc, vup, List.map_cons, List.map_nil, cond_true, cond_false, aop, ev, sput, Zf, Nat.reduceBEq, Yv, List.nil_append, List.append_nil, List.take_succ_cons, List.take_zero, Vd bD.bl shp_30, bD.bls.idx el_30 esz_92 hil, bD.bls.load shp_92 hil, hxy]
      refine ((gc D)).mono ?_
      rintro _ D ⟨rfl, rfl⟩
      refine hN1 _ _ ?_
      clear hN1 N1
      simp only [List.drop_succ_cons, List.drop_zero]
      simp (maxSteps := 2000000) only [↓Za, ↓Zb, ↓Zc, vup, List.map_cons, List.map_nil, cond_true, cond_false, aop, Zg, Zr, ev, sput, Zf, Zl, Nat.reduceBEq, Yv, List.nil_append, List.append_nil]
      refine ((show Xi prog 70 [Zd (gnI l w i)] D (qV ((gnI l w i : Int) : Rat)) from Vp)).mono ?_
      rintro _ D ⟨rfl, rfl⟩
      simp (maxSteps := 2000000) only [qV, frV, litF]
      refine OwnP.append (hx.ext (Ext.app _ _ _)) app_47_47 (by rw [gRow]; simp; omega) (Zy _ _) ?_
      intro x' h' ho' hE' hb'
      have e1 : gRow l w O c ++ [((((gnI l w i : Int) : Rat)).num, ((((gnI l w i : Int) : Rat)).den : Int))] = gRow l w O (c + 1) := by
        rw [gRow_succ, hi]; rfl
      rw [e1] at ho'
      obtain ⟨hE2, hbx'⟩ := oExt (H' := D) hED hbx _ hE' hb'
      refine hC [(0, u), (1, .pointer (some ⟨p1, 0, none⟩)), (2, .pointer (some ⟨p2, 0, none⟩)), (3, .pointer (some ⟨p3, 0, none⟩)), (4, .pointer (some ⟨p4, 0, none⟩)), (6, .bool false), (7, q), (9, Zd (w : Nat)), (10, x'), (26, u), (27, Zd W.length), (28, Zd (r : Nat)), (32, ov), (33, Zd O.length), (34, Zd (c : Nat))] _ _ ?_ (by simp (maxSteps := 2000000) only [vup, cond_true, cond_false, Nat.reduceBEq])
      clear hC
      try clear C
      refine Zk ?_
      simp (maxSteps := 2000000) only [↓Za, ↓Zb, ↓Zc, vup, cond_true, cond_false, aop, ev, sput, Zf, Yg, Yl, Nat.reduceBEq, add1 (show c < 9223372036854775807 by omega)]
      exact hQd _ _ _ ⟨(c + 1, x', h'), ⟨hc', ho', hE2, hbx'⟩, by simp only; omega, by simp (maxSteps := 2000000) only [vup, cond_true, cond_false, Nat.reduceBEq], rfl⟩
    · obtain rfl : O.length = c := by omega
      refine Ze fun N14 hN14 => ?_
      simp (maxSteps := 2000000) only [↓Za, ↓Zb, ↓Zc, vup, cond_true, cond_false, aop, Zg, ev, sput, Zf, Yg, Yl, Nat.reduceBEq, hcin]
      refine hN14 [(0, u), (1, .pointer (some ⟨p1, 0, none⟩)), (2, .pointer (some ⟨p2, 0, none⟩)), (3, .pointer (some ⟨p3, 0, none⟩)), (4, .pointer (some ⟨p4, 0, none⟩)), (6, .bool false), (7, q), (9, Zd (w : Nat)), (10, x), (26, u), (27, Zd W.length), (28, Zd (r : Nat)), (32, ov), (33, Zd O.length), (34, Zd O.length), (35, .bool false)] _ _ ?_ (by simp (maxSteps := 2000000) only [vup, cond_true, cond_false, Nat.reduceBEq])
      clear hN14
      try clear N14
      refine Ze fun N15 hN15 => ?_
      simp (maxSteps := 2000000) only [↓Xa, ↓vdn, vup, cond_true, cond_false, Zg, ev, Nat.reduceBEq]
      refine hQd _ _ _ (hQc _ _ _ ?_)
      simp (maxSteps := 2000000) only [Zg, Zr, if_true]
      refine hY [(0, u), (1, .pointer (some ⟨p1, 0, none⟩)), (2, .pointer (some ⟨p2, 0, none⟩)), (3, .pointer (some ⟨p3, 0, none⟩)), (4, .pointer (some ⟨p4, 0, none⟩)), (6, .bool false), (7, q), (9, Zd (w : Nat)), (10, x), (26, u), (27, Zd W.length), (28, Zd (r : Nat))] _ _ ?_ (by simp (maxSteps := 2000000) only [vup, cond_true, cond_false, Nat.reduceBEq])
      clear hY
      try clear Y
      have hrow : gRow l w O O.length ++ [((((1 : Int) : Rat)).num, ((((1 : Int) : Rat)).den : Int))] = rowC T O.length ws.length := by
        rw [hT, hwsl, gRow_full, hw]; rfl
      refine Zk ?_
      simp (maxSteps := 2000000) only [↓Za, ↓Zb, ↓Zc, vup, List.map_cons, List.map_nil, cond_true, cond_false, aop, Zg, Zr, ev, sput, Zf, Zl, Nat.reduceBEq, Yv, List.nil_append, List.append_nil]
      refine ((show Xi prog 70 [Zd 1] D (qV ((1 : Int) : Rat)) from Vp)).mono ?_
      rintro _ D ⟨rfl, rfl⟩
      simp (maxSteps := 2000000) only [qV, frV, litF]
      refine OwnP.append (hx.ext (Ext.app _ _ _)) app_47_47 (by rw [gRow]; simp; omega) (Zy _ _) ?_
      intro rv G3 ho3 hE3 hb3
      rw [hrow] at ho3
      obtain ⟨hEG3, hbr⟩ := oExt (H' := D) hED hbx _ hE3 hb3
      obtain ⟨bb, yy, hrv, -⟩ := Xy ho3 Vm
      have lit0 : ∀ K : Value → Zh → Prop, Yp prog G3 103 1 [(0, rv)] K = K (.slice (some ⟨G3.length, 0, none⟩) 1 1) (G3 ++ [.cells [rv] 47 false]) := fun K => by rw [hrv]; exact litV el_103 zero_47 esz_47
      simp (maxSteps := 2000000) only [lit0]
      refine R.moreP (by omega) (by have := hEG.1; omega) (hEG3.trans (Ext.app _ _ _)) (ho3.ext (Ext.app _ _ _)) hbr (Zy _ _) fun q' h' R' hEa hEb => ?_
      have hEh : Ext (fun _ => False) h h' := by
        have l1 := hEG3.1
        have l2 := hEa.1
        have l3 := hEG.1
        rw [List.length_append] at l2
        refine ⟨by omega, fun z hz _ => ?_⟩
        rw [hEa.2 z (by rw [List.length_append]; omega) (by omega), List.getElem?_append_left (by omega), hEG3.2 z (by omega) id]
        exact hEG.2 z hz id
      refine hB [(0, u), (1, .pointer (some ⟨p1, 0, none⟩)), (2, .pointer (some ⟨p2, 0, none⟩)), (3, .pointer (some ⟨p3, 0, none⟩)), (4, .pointer (some ⟨p4, 0, none⟩)), (6, .bool false), (7, q'), (26, u), (27, Zd W.length), (28, Zd (r : Nat))] _ _ ?_ (by simp (maxSteps := 2000000) only [vup, cond_true, cond_false, Nat.reduceBEq])
      clear hB
      try clear B
      refine Zk ?_
      simp (maxSteps := 2000000) only [↓Za, ↓Zb, ↓Zc, vup, cond_true, cond_false, aop, ev, sput, Zf, Yg, Yl, Nat.reduceBEq, add1 (show r < 9223372036854775807 by omega)]
      exact hQb _ _ _ ⟨(r + 1, q', ws ++ [rv], h'), ⟨hr', by simp [hwsl], R', hEh⟩, by simp only; omega, by simp (maxSteps := 2000000) only [vup, cond_true, cond_false, Nat.reduceBEq], rfl⟩
  · obtain rfl : W.length = r := by omega
    refine Ze fun N16 hN16 => ?_
    simp (maxSteps := 2000000) only [↓Za, ↓Zb, ↓Zc, vup, cond_true, cond_false, aop, Zg, ev, sput, Zf, Yg, Yl, Nat.reduceBEq, hrin]
    refine hN16 [(0, u), (1, .pointer (some ⟨p1, 0, none⟩)), (2, .pointer (some ⟨p2, 0, none⟩)), (3, .pointer (some ⟨p3, 0, none⟩)), (4, .pointer (some ⟨p4, 0, none⟩)), (6, .bool false), (7, q), (26, u), (27, Zd W.length), (28, Zd W.length), (29, .bool false)] _ _ ?_ (by simp (maxSteps := 2000000) only [vup, cond_true, cond_false, Nat.reduceBEq])
    clear hN16
    try clear N16
    refine Ze fun N17 hN17 => ?_
    simp (maxSteps := 2000000) only [↓Xa, ↓vdn, vup, cond_true, cond_false, Zg, ev, Nat.reduceBEq]
    refine hQb _ _ _ (hQa _ _ _ ?_)
    simp (maxSteps := 2000000) only [Zg, Zr, Zv, if_true]
    refine hX [(0, u), (1, .pointer (some ⟨p1, 0, none⟩)), (2, .pointer (some ⟨p2, 0, none⟩)), (3, .pointer (some ⟨p3, 0, none⟩)), (4, .pointer (some ⟨p4, 0, none⟩)), (6, .bool false), (7, q)] _ _ ?_ (by simp (maxSteps := 2000000) only [vup, cond_true, cond_false, Nat.reduceBEq])
    clear hX
    try clear X
    have hR2 : Rows h.length G q ws O.length T ∧ OwnV 47 G q ws := by
      rcases R with ⟨h1, _⟩ | h1
      · rw [h1] at hwsl; simp at hwsl; omega
      · exact h1
    obtain ⟨B, C, hqe, hBC, hBp, M, hbkp⟩ := hR2.1.mat hR2.2
    rw [hwsl] at hqe hBC M hbkp
    have hsolve := solve_call M hBC (by omega) (by omega) hO1 (by omega) (fun j S hj hS => by rw [hT] at hS; exact sysG_tame hct (by omega) hO hj hS)
    refine Ze fun N18 hN18 => ?_
    simp (maxSteps := 2000000) only [↓Za, ↓Zb, ↓Zc, vup, List.map_cons, List.map_nil, cond_true, cond_false, aop, Zg, ev, sput, Zf, Zl, Nat.reduceBEq, tyf, Vd bG.on Vb, bG.ons.len, hlO, hqe, Yv, List.nil_append, List.append_nil]
    refine hsolve.mono ?_
    rintro res G' ⟨hEs, x, ok, rfl, hres⟩
    simp (maxSteps := 2000000) only [extr_20, extr_21]
    refine hN18 [(0, u), (1, .pointer (some ⟨p1, 0, none⟩)), (2, .pointer (some ⟨p2, 0, none⟩)), (3, .pointer (some ⟨p3, 0, none⟩)), (4, .pointer (some ⟨p4, 0, none⟩)), (6, .bool false), (13, x), (14, .bool ok)] _ _ ?_ (by simp (maxSteps := 2000000) only [vup, cond_true, cond_false, Nat.reduceBEq])
    clear hN18
    try clear N18
    have hEG' : Ext (fun _ => False) h G' := by
      refine ⟨by have := hEG.1; have := hEs.1; omega, fun z hz _ => ?_⟩
      rw [hEs.2 z (by have := hEG.1; omega) (fun hc => by
        rcases hc with rfl | ⟨j, hj, rfl⟩
        · omega
        · exact absurd hz (Nat.not_lt.2 (hbkp j hj)))]
      exact hEG.2 z hz id
    have bG' := b.ext hEG'
    have hGl : h.length ≤ G.length := hEG.1
    clear hQa hQb M R hR2 hsolve hEs hqe hbkp bG huG
    refine Zm fun M hM => ?_
    cases hsol : Wc W.length O.length T with
    | none =>
      rw [hsol] at hres
      obtain ⟨rfl, rfl⟩ := hres
      refine Ze fun N19 hN19 => ?_
      simp (maxSteps := 2000000) only [↓Za, ↓Zb, ↓Zc, vup, cond_true, cond_false, aop, Zg, ev, sput, Zf, unK, Nat.reduceBEq]
      refine hN19 [(0, u), (1, .pointer (some ⟨p1, 0, none⟩)), (2, .pointer (some ⟨p2, 0, none⟩)), (3, .pointer (some ⟨p3, 0, none⟩)), (4, .pointer (some ⟨p4, 0, none⟩)), (6, .bool false), (13, .slice none 0 0), (14, .bool false), (65, .bool true)] _ _ ?_ (by simp (maxSteps := 2000000) only [vup, cond_true, cond_false, Nat.reduceBEq])
      clear hN19
      try clear N19
      refine Xl rfl ?_
      refine Zk ?_
      simp (maxSteps := 2000000) only [↓Za, ↓Zw, ↓Zz, ↓Zb, ↓Zc, vup, cond_true, cond_false, aop, Zg, ev, sput, Zf, Nat.reduceBEq, Zv, Xw, tup]
      exact .inl ⟨hEG', fun xs _ h => by rw [← hT, hsol] at h; cases h⟩
    | some xs =>
    rw [hsol] at hres
    obtain ⟨rfl, hox, hbx⟩ := hres
    refine Ze fun N20 hN20 => ?_
    simp (maxSteps := 2000000) only [↓Za, ↓Zb, ↓Zc, vup, cond_true, cond_false, aop, Zg, ev, sput, Zf, unK, Nat.reduceBEq]
    refine hN20 [(0, u), (1, .pointer (some ⟨p1, 0, none⟩)), (2, .pointer (some ⟨p2, 0, none⟩)), (3, .pointer (some ⟨p3, 0, none⟩)), (4, .pointer (some ⟨p4, 0, none⟩)), (6, .bool false), (13, x), (14, .bool true), (65, .bool false)] _ _ ?_ (by simp (maxSteps := 2000000) only [vup, cond_true, cond_false, Nat.reduceBEq])
    clear hN20
    try clear N20
    refine Xb rfl ?_
    refine Zk ?_
    simp (maxSteps := 2000000) only [↓Zu, Zg]
    refine hM [(0, u), (1, .pointer (some ⟨p1, 0, none⟩)), (2, .pointer (some ⟨p2, 0, none⟩)), (3, .pointer (some ⟨p3, 0, none⟩)), (4, .pointer (some ⟨p4, 0, none⟩)), (6, .bool false), (13, x), (14, .bool true)] _ _ ?_ (by simp (maxSteps := 2000000) only [vup, cond_true, cond_false, Nat.reduceBEq])
    clear hM
    try clear M
    rw [hT] at hsol
    obtain ⟨hxl, hbyle, hstk⟩ := sol_small (ws := W) (is := O) hct (by omega) hO (by omega) hsol
    have hxl2 : (xs.map ofQ).length = O.length := by rw [List.length_map, hxl]
    refine Ze fun N21 hN21 => ?_
    simp (maxSteps := 2000000) only [↓Za, ↓Zb, ↓Zc, vup, cond_false, aop, Zg, ev, sput, Zf, Nat.reduceBEq]
    refine hN21 [(0, u), (1, .pointer (some ⟨p1, 0, none⟩)), (2, .pointer (some ⟨p2, 0, none⟩)), (3, .pointer (some ⟨p3, 0, none⟩)), (4, .pointer (some ⟨p4, 0, none⟩)), (6, .bool false), (13, x), (14, .bool true), (15, .int .i64 1)] _ _ ?_ (by simp (maxSteps := 2000000) only [vup, cond_true, cond_false, Nat.reduceBEq])
    clear hN21
    try clear N21
    refine Zm fun X hX => ?_
    refine Ze fun N22 hN22 => ?_
    simp (maxSteps := 2000000) only [↓Za, ↓Zb, ↓Zc, vup, List.map_cons, List.map_nil, cond_true, cond_false, aop, Zg, ev, sput, Zf, Zl, Nat.reduceBEq, tyf, hox.pair.len, hxl2]
    refine hN22 [(0, u), (1, .pointer (some ⟨p1, 0, none⟩)), (2, .pointer (some ⟨p2, 0, none⟩)), (3, .pointer (some ⟨p3, 0, none⟩)), (4, .pointer (some ⟨p4, 0, none⟩)), (6, .bool false), (13, x), (14, .bool true), (15, .int .i64 1), (66, x), (67, Zd O.length), (68, .int .i64 0)] _ _ ?_ (by simp (maxSteps := 2000000) only [vup, cond_true, cond_false, Nat.reduceBEq])
    clear hN22
    try clear N22
    refine Zn ?_
    refine Zs fun Qa hQa => ?_
    refine Yu (γ := Nat × Zh) (fun g => g.1 ≤ O.length ∧ Ext (fun _ => False) G' g.2)
      (fun g => ([(0, u), (1, .pointer (some ⟨p1, 0, none⟩)), (2, .pointer (some ⟨p2, 0, none⟩)), (3, .pointer (some ⟨p3, 0, none⟩)), (4, .pointer (some ⟨p4, 0, none⟩)), (6, .bool false), (13, x), (14, .bool true), (15, Zd (Vw xs g.1 : Nat)), (66, x), (67, Zd O.length), (68, Zd (g.1 : Nat))], g.2)) (fun g => O.length - g.1) (0, G') ⟨Nat.zero_le _, Ext.refl _ _⟩ (by simp (maxSteps := 2000000) only [vup, cond_true, cond_false, Nat.reduceBEq, Int.natCast_zero, Vw, Int.natCast_one]) rfl ?_
    rintro ⟨k, D⟩ ⟨hk, hED⟩
    simp only at hk hED
    refine Zs fun Qb hQb => ?_
    simp only [l85_2]
    by_cases hkin : (k : Int) < O.length
    · have hk' : k < O.length := by omega
      have hk2 : k < (xs.map ofQ).length := by omega
      have hpx := hox.pair.ext hED
      obtain ⟨qq, hqq⟩ : ∃ qq, xs.getD k 0 = qq := ⟨_, rfl⟩
      have hxy : (xs.map ofQ).getD k (0, 0) = (qq.num, (qq.den : Int)) := by
        rw [← hqq, List.getD, List.getElem?_map, List.getElem?_eq_getElem (by omega), List.getD, List.getElem?_eq_getElem (by omega)]; rfl
      have hb1 := hbyle k (by omega)
      have hb2 := hbyle (k + 1) (by omega)
      have hb0 := byTo_pos xs k
      have hd0 := qq.den_pos
      have hdl : qq.den ≤ 29859840 := by
        have := byTo_dvd xs (show k < k + 1 by omega)
        rw [hqq] at this
        exact Nat.le_trans (Nat.le_of_dvd (byTo_pos xs _) this) hb2
      obtain ⟨D2, hD2⟩ : ∃ Z, Z = D ++ [fC qq.num qq.den] := ⟨_, rfl⟩
      have c17 : D2[D.length]? = some (fC qq.num qq.den) := by rw [hD2]; exact Zy _ _
      have hED2 : Ext (fun _ => False) G' D2 := by rw [hD2]; exact hED.trans (Ext.app _ _ _)
      have gc := gcd_call (h := D2) (a := ((Vw xs k : Nat) : Int)) (b := (qq.den : Int)) (.inl (by omega)) (by omega)
      rw [Int.natAbs_natCast, Int.natAbs_natCast] at gc
      have hg0 : 0 < Nat.gcd (Vw xs k) qq.den := Nat.gcd_pos_of_pos_left _ hb0
      have q1 : quoV .i64 ((Vw xs k : Nat) : Int) ((Nat.gcd (Vw xs k) qq.den : Nat) : Int) = ((Vw xs k / Nat.gcd (Vw xs k) qq.den : Nat) : Int) := by
        rw [quo_dvd (by omega) (by exact_mod_cast Nat.gcd_dvd_left _ _)]; rfl
      have hnx : Vw xs (k + 1) = Vw xs k / Nat.gcd (Vw xs k) qq.den * qq.den := by rw [Vw, hqq]
      have m1 : mulV .i64 ((Vw xs k / Nat.gcd (Vw xs k) qq.den : Nat) : Int) (qq.den : Int) = ((Vw xs (k + 1) : Nat) : Int) := by
        rw [hnx, mulN]
        · exact (Int.natCast_mul _ _).symm
        · rw [← Int.natCast_mul, Int.natAbs_natCast, ← hnx]; omega
      have hgne : ¬ ((Nat.gcd (Vw xs k) qq.den : Nat) : Int) = 0 := by omega
      refine Ze fun N23 hN23 => ?_
      simp (maxSteps := 2000000) only [↓Za, ↓Zb, ↓Zc, vup, cond_true, cond_false, aop, Zg, ev, sput, Zf, Yg, Yl, Nat.reduceBEq, hkin]
      refine hN23 [(0, u), (1, .pointer (some ⟨p1, 0, none⟩)), (2, .pointer (some ⟨p2, 0, none⟩)), (3, .pointer (some ⟨p3, 0, none⟩)), (4, .pointer (some ⟨p4, 0, none⟩)), (6, .bool false), (13, x), (14, .bool true), (15, Zd (Vw xs k : Nat)), (66, x), (67, Zd O.length), (68, Zd (k : Nat)), (69, .bool true)] _ _ ?_ (by simp (maxSteps := 2000000) only [vup, cond_true, cond_false, Nat.reduceBEq])
      clear hN23
      try clear N23
      refine Ze fun N24 hN24 => ?_
      simp (maxSteps := 2000000) only [↓Zu, ↓vdn, vup, cond_true, cond_false, Zg, ev, Nat.reduceBEq]
      refine hN24 [(0, u), (1, .pointer (some ⟨p1, 0, none⟩)), (2, .pointer (some ⟨p2, 0, none⟩)), (3, .pointer (some ⟨p3, 0, none⟩)), (4, .pointer (some ⟨p4, 0, none⟩)), (6, .bool false), (13, x), (14, .bool true), (15, Zd (Vw xs k : Nat)), (66, x), (67, Zd O.length), (68, Zd (k : Nat))] _ _ ?_ (by simp (maxSteps := 2000000) only [vup, cond_true, cond_false, Nat.reduceBEq])
      clear hN24
      try clear N24
      refine Zm fun B hB => ?_
      refine Zn ?_
      refine Ze fun N25 hN25 => ?_
      simp (maxSteps := 2000000) only [↓Za, ↓Zb, ↓Zc, vup, cond_true, cond_false, aop, Zg, ev, sput, Zf, Nat.reduceBEq, tyf, hpx.idx el_47 Vk hk2, hpx.load shp_26 hk2, hxy, Xm, Yi, Vy (Zy D z0) rfl, Wf]
      rw [← hD2]
      refine hN25 [(0, u), (1, .pointer (some ⟨p1, 0, none⟩)), (2, .pointer (some ⟨p2, 0, none⟩)), (3, .pointer (some ⟨p3, 0, none⟩)), (4, .pointer (some ⟨p4, 0, none⟩)), (6, .bool false), (13, x), (14, .bool true), (15, Zd (Vw xs k : Nat)), (17, .pointer (some ⟨D.length, 0, none⟩)), (66, x), (67, Zd O.length), (68, Zd (k : Nat))] _ _ ?_ (by simp (maxSteps := 2000000) only [vup, cond_true, cond_false, Nat.reduceBEq])
      clear hN25
      try clear N25
      refine Zk ?_
      simp only [q85_22]
      refine Xv [(4, 1)] (by kernel_rfl) (by kernel_rfl) (by kernel_rfl) (by kernel_rfl) ?_
      simp (maxSteps := 2000000) only [↓Yr, ↓vdn, vup, List.map_cons, List.map_nil, cond_true, cond_false, aop, Zg, Zr, ev, sput, Zf, Yg, Yl, Nat.reduceBEq, Nat.reduceAdd, tyf, fA1, loadF1 c17, Yv, List.nil_append, List.append_nil]
      refine ⟨_, _, gc, rfl, ?_⟩
      simp (maxSteps := 2000000) only [vup, ne_eq, hgne, not_false_eq_true, q1, m1]
      refine hB [(0, u), (1, .pointer (some ⟨p1, 0, none⟩)), (2, .pointer (some ⟨p2, 0, none⟩)), (3, .pointer (some ⟨p3, 0, none⟩)), (4, .pointer (some ⟨p4, 0, none⟩)), (6, .bool false), (13, x), (14, .bool true), (15, Zd (Vw xs (k + 1) : Nat)), (66, x), (67, Zd O.length), (68, Zd (k : Nat))] _ _ ?_ (by simp (maxSteps := 2000000) only [vup, cond_true, cond_false, Nat.reduceBEq])
      clear hB
      try clear B
      refine Zk ?_
      simp (maxSteps := 2000000) only [↓Za, ↓Zb, ↓Zc, vup, cond_true, cond_false, aop, ev, sput, Zf, Yg, Yl, Nat.reduceBEq, add1 (show k < 9223372036854775807 by omega)]
      exact hQb _ _ _ ⟨(k + 1, D2), ⟨hk', hED2⟩, by simp only; omega, by simp (maxSteps := 2000000) only [vup, cond_true, cond_false, Nat.reduceBEq], rfl⟩
    · obtain rfl : O.length = k := by omega
      refine Ze fun N26 hN26 => ?_
      simp (maxSteps := 2000000) only [↓Za, ↓Zb, ↓Zc, vup, cond_true, cond_false, aop, Zg, ev, sput, Zf, Yg, Yl, Nat.reduceBEq, hkin]
      refine hN26 [(0, u), (1, .pointer (some ⟨p1, 0, none⟩)), (2, .pointer (some ⟨p2, 0, none⟩)), (3, .pointer (some ⟨p3, 0, none⟩)), (4, .pointer (some ⟨p4, 0, none⟩)), (6, .bool false), (13, x), (14, .bool true), (15, Zd (Vw xs O.length : Nat)), (66, x), (67, Zd O.length), (68, Zd O.length), (69, .bool false)] _ _ ?_ (by simp (maxSteps := 2000000) only [vup, cond_true, cond_false, Nat.reduceBEq])
      clear hN26
      try clear N26
      refine Ze fun N27 hN27 => ?_
      simp (maxSteps := 2000000) only [↓Xa, ↓vdn, vup, cond_true, cond_false, Zg, ev, Nat.reduceBEq]
      refine hQb _ _ _ (hQa _ _ _ ?_)
      simp (maxSteps := 2000000) only [Zg, Zr, Zv, if_true]
      refine hX [(0, u), (1, .pointer (some ⟨p1, 0, none⟩)), (2, .pointer (some ⟨p2, 0, none⟩)), (3, .pointer (some ⟨p3, 0, none⟩)), (4, .pointer (some ⟨p4, 0, none⟩)), (6, .bool false), (13, x), (14, .bool true), (15, Zd (Vw xs O.length : Nat))] _ _ ?_ (by simp (maxSteps := 2000000) only [vup, cond_true, cond_false, Nat.reduceBEq])
      clear hX
      try clear X
      clear hQa hQb
      have bD := bG'.ext hED
      have hmk : ∀ {K : Value → Zh → Prop}, makeK prog D 38 (Zd l.length) (Zd l.length) K = K (.slice (some ⟨D.length, 0, none⟩) l.length l.length) (D ++ [.ints (List.replicate l.length 0) 3 false]) := fun {K} => makeI el_38 zero_3 info_3 (by omega) (by omega)
      obtain ⟨E, hE⟩ : ∃ Z, Z = D ++ [Blk.ints (List.replicate l.length 0) 3 false] := ⟨_, rfl⟩
      have hDE : Ext (fun _ => False) D E := by rw [hE]; exact Ext.app _ _ _
      have c18 : E[D.length]? = some (.ints (stkP on xs l.length 0) 3 false) := by rw [hE, Zy, stkP_zero]
      refine Ze fun N28 hN28 => ?_
      simp (maxSteps := 2000000) only [↓Za, ↓Zb, ↓Zc, vup, List.map_cons, List.map_nil, cond_true, cond_false, aop, Zg, ev, sput, Zf, Zl, Nat.reduceBEq, tyf, Vd bD.bl shp_30, bD.bls.len, hmk]
      rw [← hE]
      refine hN28 [(0, u), (1, .pointer (some ⟨p1, 0, none⟩)), (2, .pointer (some ⟨p2, 0, none⟩)), (3, .pointer (some ⟨p3, 0, none⟩)), (4, .pointer (some ⟨p4, 0, none⟩)), (6, .bool false), (13, x), (14, .bool true), (15, Zd (Vw xs O.length : Nat)), (18, .slice (some ⟨D.length, 0, none⟩) l.length l.length)] _ _ ?_ (by simp (maxSteps := 2000000) only [vup, cond_true, cond_false, Nat.reduceBEq])
      clear hN28
      try clear N28
      have bE := bD.ext hDE
      refine Zm fun X hX => ?_
      refine Ze fun N29 hN29 => ?_
      simp (maxSteps := 2000000) only [↓Za, ↓Zb, ↓Zc, vup, List.map_cons, List.map_nil, cond_true, cond_false, aop, Zg, ev, sput, Zf, Zl, Nat.reduceBEq, tyf, Vd bE.on Vb, bE.ons.len, hlO]
      refine hN29 [(0, u), (1, .pointer (some ⟨p1, 0, none⟩)), (2, .pointer (some ⟨p2, 0, none⟩)), (3, .pointer (some ⟨p3, 0, none⟩)), (4, .pointer (some ⟨p4, 0, none⟩)), (6, .bool false), (13, x), (14, .bool true), (15, Zd (Vw xs O.length : Nat)), (18, .slice (some ⟨D.length, 0, none⟩) l.length l.length), (85, ov), (86, Zd O.length), (87, .int .i64 0)] _ _ ?_ (by simp (maxSteps := 2000000) only [vup, cond_true, cond_false, Nat.reduceBEq])
      clear hN29
      try clear N29
      refine Zn ?_
      refine Zs fun Qa hQa => ?_
      refine Yu (γ := Nat) (fun g => g ≤ O.length)
        (fun g => ([(0, u), (1, .pointer (some ⟨p1, 0, none⟩)), (2, .pointer (some ⟨p2, 0, none⟩)), (3, .pointer (some ⟨p3, 0, none⟩)), (4, .pointer (some ⟨p4, 0, none⟩)), (6, .bool false), (13, x), (14, .bool true), (15, Zd (Vw xs O.length : Nat)), (18, .slice (some ⟨D.length, 0, none⟩) l.length l.length), (85, ov), (86, Zd O.length), (87, Zd (g : Nat))], E.set D.length (.ints (stkP on xs l.length g) 3 false))) (fun g => O.length - g) 0 (Nat.zero_le _) (by simp (maxSteps := 2000000) only [vup, cond_true, cond_false, Nat.reduceBEq, Int.natCast_zero]) (by show E = _; rw [setSame c18]) ?_
      rintro k hk
      refine Zs fun Qb hQb => ?_
      simp only [l85_3]
      have hDl : D.length < E.length := Yh c18
      have hDS : Ext (fun _ => False) D (E.set D.length (.ints (stkP on xs l.length k) 3 false)) := hDE.set_ge (Nat.le_refl _) _
      have bS := bD.ext hDS
      by_cases hkin : (k : Int) < O.length
      · have hk' : k < O.length := by omega
        have hk2 : k < (xs.map ofQ).length := by omega
        have hk3 : k < (Wu O).length := by omega
        obtain ⟨i, hi⟩ : ∃ i, O.getD k 0 = i := ⟨_, rfl⟩
        have hil := hO k hk'
        rw [hi] at hil
        have hki : (Wu O).getD k 0 = ((i : Nat) : Int) := by rw [castI_getD, hi]
        obtain ⟨qq, hqq⟩ : ∃ qq, xs.getD k 0 = qq := ⟨_, rfl⟩
        have hxy : (xs.map ofQ).getD k (0, 0) = (qq.num, (qq.den : Int)) := by
          rw [← hqq, List.getD, List.getElem?_map, List.getElem?_eq_getElem (by omega), List.getD, List.getElem?_eq_getElem (by omega)]; rfl
        obtain ⟨e0, e1, f1, f2, f3, f4, f5⟩ := pairFlds (hox.pair.ext (hED.trans hDS)) hk2
        rw [hxy] at f4 f5
        simp only at f4 f5
        have hst := stkI_at xs (on := on) (m := l.length) (k := k) (by rw [← hOn]; exact hk')
        have hstep := stkP_step (on := on) (m := l.length) xs (k := k) (by rw [← hOn]; exact hk')
        rw [← hOn, hi] at hst hstep
        have hby := byTo_dvd xs (show k < xs.length by omega)
        have hs2 := hstk k hk'
        rw [hqq] at hst hby hs2
        have hbl := hbyle O.length (Nat.le_refl _)
        rw [hxl] at hst hby hs2
        have hd0 := qq.den_pos
        have hdne : ¬ (qq.den : Int) = 0 := by omega
        have q1 : quoV .i64 ((Vw xs O.length : Nat) : Int) (qq.den : Int) = ((Vw xs O.length / qq.den : Nat) : Int) := by
          rw [quo_dvd (by omega) (by exact_mod_cast hby)]; rfl
        have m1 : mulV .i64 qq.num ((Vw xs O.length / qq.den : Nat) : Int) = stkI on xs i := by rw [mulN (by omega), hst]
        have c18' : (E.set D.length (.ints (stkP on xs l.length k) 3 false))[D.length]? = some (.ints (stkP on xs l.length k) 3 false) := Wg hDl _
        have hsl : IntSl (E.set D.length (.ints (stkP on xs l.length k) 3 false)) (.slice (some ⟨D.length, 0, none⟩) l.length l.length) (stkP on xs l.length k) := by
          have := intSl_blk c18'
          rwa [stkP_len] at this
        have hil2 : i < (stkP on xs l.length k).length := by rw [stkP_len]; exact hil
        refine Ze fun N30 hN30 => ?_
        simp (maxSteps := 2000000) only [↓Za, ↓Zb, ↓Zc, vup, cond_true, cond_false, aop, Zg, ev, sput, Zf, Yg, Yl, Nat.reduceBEq, hkin]
        refine hN30 [(0, u), (1, .pointer (some ⟨p1, 0, none⟩)), (2, .pointer (some ⟨p2, 0, none⟩)), (3, .pointer (some ⟨p3, 0, none⟩)), (4, .pointer (some ⟨p4, 0, none⟩)), (6, .bool false), (13, x), (14, .bool true), (15, Zd (Vw xs O.length : Nat)), (18, .slice (some ⟨D.length, 0, none⟩) l.length l.length), (85, ov), (86, Zd O.length), (87, Zd (k : Nat)), (88, .bool true)] _ _ ?_ (by simp (maxSteps := 2000000) only [vup, cond_true, cond_false, Nat.reduceBEq])
        clear hN30
        try clear N30
        refine Ze fun N31 hN31 => ?_
        simp (maxSteps := 2000000) only [↓Zu, ↓vdn, vup, cond_true, cond_false, Zg, ev, Nat.reduceBEq]
        refine hN31 [(0, u), (1, .pointer (some ⟨p1, 0, none⟩)), (2, .pointer (some ⟨p2, 0, none⟩)), (3, .pointer (some ⟨p3, 0, none⟩)), (4, .pointer (some ⟨p4, 0, none⟩)), (6, .bool false), (13, x), (14, .bool true), (15, Zd (Vw xs O.length : Nat)), (18, .slice (some ⟨D.length, 0, none⟩) l.length l.length), (85, ov), (86, Zd O.length), (87, Zd (k : Nat))] _ _ ?_ (by simp (maxSteps := 2000000) only [vup, cond_true, cond_false, Nat.reduceBEq])
        clear hN31
        try clear N31
        refine Zm fun B hB => ?_
        refine Zn ?_
        refine Ze fun N32 hN32 => ?_
        simp (maxSteps := 2000000) only [↓Za, ↓Zb, ↓Zc, vup, cond_true, cond_false, aop, Zg, ev, sput, Zf, Nat.reduceBEq, bS.ons.idx el_38 esz_3 hk3, bS.ons.load Wy hk3, hki]
        refine hN32 [(0, u), (1, .pointer (some ⟨p1, 0, none⟩)), (2, .pointer (some ⟨p2, 0, none⟩)), (3, .pointer (some ⟨p3, 0, none⟩)), (4, .pointer (some ⟨p4, 0, none⟩)), (6, .bool false), (13, x), (14, .bool true), (15, Zd (Vw xs O.length : Nat)), (18, .slice (some ⟨D.length, 0, none⟩) l.length l.length), (19, Zd (k : Nat)), (20, Zd (i : Nat)), (85, ov), (86, Zd O.length), (87, Zd (k : Nat))] _ _ ?_ (by simp (maxSteps := 2000000) only [vup, cond_true, cond_false, Nat.reduceBEq])
        clear hN32
        try clear N32
        refine Zk ?_
        simp only [q85_28]
        refine Xv [] (by kernel_rfl) (by kernel_rfl) (by kernel_rfl) (by kernel_rfl) ?_
        simp (maxSteps := 2000000) only [↓Yr, ↓vdn, vup, cond_true, cond_false, aop, Zg, Zr, ev, sput, Zf, Yg, Yl, Nat.reduceBEq, Nat.reduceAdd, tyf, f1, f2, f3, f4, f5, hsl.idx el_38 esz_3 hil2, elemP_new, ne_eq, hdne, not_false_eq_true, q1, m1, storeBI c18' Wy hil2, List.set_set, hstep]
        refine hB [(0, u), (1, .pointer (some ⟨p1, 0, none⟩)), (2, .pointer (some ⟨p2, 0, none⟩)), (3, .pointer (some ⟨p3, 0, none⟩)), (4, .pointer (some ⟨p4, 0, none⟩)), (6, .bool false), (13, x), (14, .bool true), (15, Zd (Vw xs O.length : Nat)), (18, .slice (some ⟨D.length, 0, none⟩) l.length l.length), (85, ov), (86, Zd O.length), (87, Zd (k : Nat))] _ _ ?_ (by simp (maxSteps := 2000000) only [vup, cond_true, cond_false, Nat.reduceBEq])
        clear hB
        try clear B
        refine Zk ?_
        simp (maxSteps := 2000000) only [↓Za, ↓Zb, ↓Zc, vup, cond_true, cond_false, aop, ev, sput, Zf, Yg, Yl, Nat.reduceBEq, add1 (show k < 9223372036854775807 by omega)]
        exact hQb _ _ _ ⟨k + 1, by show k + 1 ≤ O.length; omega, by omega, by simp (maxSteps := 2000000) only [vup, cond_true, cond_false, Nat.reduceBEq], rfl⟩
      · obtain rfl : O.length = k := by omega
        refine Ze fun N33 hN33 => ?_
        simp (maxSteps := 2000000) only [↓Za, ↓Zb, ↓Zc, vup, cond_true, cond_false, aop, Zg, ev, sput, Zf, Yg, Yl, Nat.reduceBEq, hkin]
        refine hN33 [(0, u), (1, .pointer (some ⟨p1, 0, none⟩)), (2, .pointer (some ⟨p2, 0, none⟩)), (3, .pointer (some ⟨p3, 0, none⟩)), (4, .pointer (some ⟨p4, 0, none⟩)), (6, .bool false), (13, x), (14, .bool true), (15, Zd (Vw xs O.length : Nat)), (18, .slice (some ⟨D.length, 0, none⟩) l.length l.length), (85, ov), (86, Zd O.length), (87, Zd O.length), (88, .bool false)] _ _ ?_ (by simp (maxSteps := 2000000) only [vup, cond_true, cond_false, Nat.reduceBEq])
        clear hN33
        try clear N33
        refine Ze fun N34 hN34 => ?_
        simp (maxSteps := 2000000) only [↓Xa, ↓vdn, vup, cond_true, cond_false, Zg, ev, Nat.reduceBEq]
        refine hQb _ _ _ (hQa _ _ _ ?_)
        simp (maxSteps := 2000000) only [Zg, Zr, Zv, if_true]
        refine hX [(0, u), (1, .pointer (some ⟨p1, 0, none⟩)), (2, .pointer (some ⟨p2, 0, none⟩)), (3, .pointer (some ⟨p3, 0, none⟩)), (4, .pointer (some ⟨p4, 0, none⟩)), (6, .bool false), (13, x), (14, .bool true), (15, Zd (Vw xs O.length : Nat)), (18, .slice (some ⟨D.length, 0, none⟩) l.length l.length)] _ _ ?_ (by simp (maxSteps := 2000000) only [vup, cond_true, cond_false, Nat.reduceBEq])
        clear hX
        try clear X
        have hfull : stkP on xs l.length O.length = stkL on xs l.length := by rw [hOn, stkP_full]
        rw [hfull] at bS hDS ⊢
        obtain ⟨F, hF⟩ : ∃ Z, Z = E.set D.length (.ints (stkL on xs l.length) 3 false) := ⟨_, rfl⟩
        rw [← hF] at bS hDS ⊢
        have cF : F[D.length]? = some (.ints (stkL on xs l.length) 3 false) := by rw [hF]; exact Wg hDl _
        have hsl : IntSl F (.slice (some ⟨D.length, 0, none⟩) l.length l.length) (stkL on xs l.length) := by
          have := intSl_blk cF
          rwa [← hfull, stkP_len, hfull] at this
        have hsms : SmS (stkL on xs l.length) := fun i => by
          rcases Nat.lt_or_ge i l.length with hi | hi
          · rw [stkL_get hi, stkI]
            split
            · rename_i hb
              have hlt := Yw hi hb
              rw [← hOn] at hlt
              have := hstk _ hlt
              omega
            · decide
          · rw [List.getD, List.getElem?_eq_none (by rw [stkL]; simpa using hi)]; decide
        have bc := beats_call bS.bls hsl hval (by rw [← hfull, stkP_len]) hsms
        refine Zm fun M hM => ?_
        refine Ze fun N35 hN35 => ?_
        simp (maxSteps := 2000000) only [↓Za, ↓Zb, ↓Zc, vup, List.map_cons, List.map_nil, cond_true, cond_false, aop, Zg, ev, sput, Zf, Nat.reduceBEq, Yv, List.nil_append, List.append_nil, loadT bS.tb]
        refine (bc).mono ?_
        rintro _ F ⟨rfl, rfl⟩
        refine hN35 [(0, u), (1, .pointer (some ⟨p1, 0, none⟩)), (2, .pointer (some ⟨p2, 0, none⟩)), (3, .pointer (some ⟨p3, 0, none⟩)), (4, .pointer (some ⟨p4, 0, none⟩)), (6, .bool false), (13, x), (14, .bool true), (15, Zd (Vw xs O.length : Nat)), (18, .slice (some ⟨D.length, 0, none⟩) l.length l.length), (111, .bool (Vx n l (stkL on xs l.length)))] _ _ ?_ (by simp (maxSteps := 2000000) only [vup, cond_true, cond_false, Nat.reduceBEq])
        clear hN35
        try clear N35
        cases hbt : Vx n l (stkL on xs l.length) with
        | true =>
          have hp4 := Yh b.fd
          have hpF := Yh bS.fd
          have hEF := hEG'.trans (hED.trans hDS)
          have hhD := (hEG'.trans hED).1
          obtain ⟨Y, hY⟩ : ∃ Z, Z = F.set p4 (.cells [.slice (some ⟨D.length, 0, none⟩) l.length l.length] 38 false) := ⟨_, rfl⟩
          have cY : Y[p4]? = some (.cells [.slice (some ⟨D.length, 0, none⟩) l.length l.length] 38 false) := by rw [hY]; exact Wg hpF _
          have hEY : Ext (fun b => b = p4) h Y := (hEF.mono fun _ h => h.elim).trans (by rw [hY]; exact Ext.set _ rfl)
          have hslY : IntSl Y (.slice (some ⟨D.length, 0, none⟩) l.length l.length) (stkL on xs l.length) := hsl.same fun b hb => by
            cases hb
            rw [hY, List.getElem?_set_ne (by omega)]
          refine Xl rfl ?_
          refine Zk ?_
          simp (maxSteps := 2000000) only [↓Za, ↓Zb, ↓Zc, vup, cond_true, cond_false, aop, Zg, ev, sput, Zf, Nat.reduceBEq, store1 (v' := .slice (some ⟨D.length, 0, none⟩) l.length l.length) bS.fd Vb rfl]
          rw [← hY]
          refine hM [(0, u), (1, .pointer (some ⟨p1, 0, none⟩)), (2, .pointer (some ⟨p2, 0, none⟩)), (3, .pointer (some ⟨p3, 0, none⟩)), (4, .pointer (some ⟨p4, 0, none⟩)), (6, .bool false), (13, x), (14, .bool true), (15, Zd (Vw xs O.length : Nat)), (18, .slice (some ⟨D.length, 0, none⟩) l.length l.length)] _ _ ?_ (by simp (maxSteps := 2000000) only [vup, cond_true, cond_false, Nat.reduceBEq])
          clear hM
          try clear M
          refine Zk ?_
          simp (maxSteps := 2000000) only [↓Za, ↓Zw, ↓Zz, ↓Zb, ↓Zc, vup, cond_true, cond_false, aop, Zg, ev, sput, Zf, Yg, Yl, Nat.reduceBEq, Zv, Xw, tup, tyf, Vd cY Vb, Option.isSome_some]
          exact .inr ⟨⟨stkL on xs l.length, _, by rw [stkL, List.length_map, List.length_range], hsms, hbt, cY, hslY⟩, hEY⟩
        | false =>
          refine Xb rfl ?_
          refine Zk ?_
          simp (maxSteps := 2000000) only [↓Zu, Zg]
          refine hM [(0, u), (1, .pointer (some ⟨p1, 0, none⟩)), (2, .pointer (some ⟨p2, 0, none⟩)), (3, .pointer (some ⟨p3, 0, none⟩)), (4, .pointer (some ⟨p4, 0, none⟩)), (6, .bool false), (13, x), (14, .bool true), (15, Zd (Vw xs O.length : Nat)), (18, .slice (some ⟨D.length, 0, none⟩) l.length l.length)] _ _ ?_ (by simp (maxSteps := 2000000) only [vup, cond_true, cond_false, Nat.reduceBEq])
          clear hM
          try clear M
          refine Zk ?_
          simp (maxSteps := 2000000) only [↓Za, ↓Zw, ↓Zz, ↓Zb, ↓Zc, vup, cond_true, cond_false, aop, Zg, ev, sput, Zf, Yg, Yl, Nat.reduceBEq, Zv, Xw, tup, tyf, Vd bS.fd Vb, Option.isSome_some]
          exact .inl ⟨hEG'.trans (hED.trans hDS), fun xs' _ h => by rw [hsol] at h; cases h; exact hbt⟩
end Go.Proofs.Try.Am

namespace Go.Proofs.Try.Am
open Go.Am Bq
set_option maxRecDepth 100000
set_option maxHeartbeats 4000000

theorem intSl_shape {h : Zh} {v : Value} {xs : List Int} (hv : IntSl h v xs) : ∃ p n c, v = .slice p n c ∧ (xs ≠ [] → p.isSome = true) := by
  rcases hv with ⟨rfl, rfl⟩ | ⟨b, o, sp, cap, c, e, ro, rfl, _⟩
  · exact ⟨_, _, _, rfl, fun h => absurd rfl h⟩
  · exact ⟨_, _, _, rfl, fun _ => rfl⟩
theorem intSl_no {h : Zh} {v : Value} {xs : List Int} {b : Nat} {e : TypeId} {ro : Bool} (hv : IntSl h v xs) (hne : xs ≠ []) (hb : h[b]? = some (.cells [.slice none 0 0] e ro)) : Yf v ≠ some b := by
  rcases hv with ⟨rfl, rfl⟩ | ⟨b', o, sp, cap, c, e', ro', rfl, hc, hw, hx⟩
  · exact absurd rfl hne
  · intro hb'
    cases hb'
    have h0 := hx 0 (List.length_pos_iff.2 hne)
    simp only [view, hb, Blk.view, Option.bind_some, Option.some.injEq, Prod.mk.injEq] at hw
    obtain ⟨rfl, -, -⟩ := hw
    cases o with
    | zero => simp [Zd] at h0
    | succ o => simp at h0
def NoBeat (n : Nat) (l : List (Int × Int)) (on set : Nat) : Prop := ∀ xs, (Zi on l.length).length = (Zi set n).length → Wc (Zi set n).length (Zi on l.length).length (sysG l (Zi set n) (Zi on l.length)) = some xs → Vx n l (stkL on xs l.length) = false
structure BeatEnv1 (h : Zh) (pn p2 p3 p4 : Nat) (n : Nat) (v f : Value) (l : List (Int × Int)) : Prop where
  nb : h[pn]? = some (.cells [Zd (n : Nat)] 3 false)
  bl : h[p2]? = some (.cells [v] 30 false)
  bls : PairSl h v l
  tb : h[p3]? = some (.cells [Zd (n : Nat), v] 86 false)
  fd : h[p4]? = some (.cells [f] 38 false)
theorem BeatEnv1.ext {h h' : Zh} {pn p2 p3 p4 n : Nat} {v f : Value} {l : List (Int × Int)} (b : BeatEnv1 h pn p2 p3 p4 n v f l) (hE : Ext (fun _ => False) h h') : BeatEnv1 h' pn p2 p3 p4 n v f l :=
  ⟨(hE.2 _ (Yh b.nb) id).trans b.nb, (hE.2 _ (Yh b.bl) id).trans b.bl, b.bls.ext hE, (hE.2 _ (Yh b.tb) id).trans b.tb, (hE.2 _ (Yh b.fd) id).trans b.fd⟩

theorem s84_callW [Tabs Try.prog] {args : List Value} {h : Zh} {Q : Value → Zh → Prop} (hsz : args.length ≤ 12) (hk : AWS Try.prog 12 s84 (Zv Try.prog [.tmp 6] Q) (Zt 0 args) h) : ACall Try.prog 84 args h Q :=
  Yn Try.func84 rfl (enters_of Try.func84 (by kernel_rfl) rfl) rfl rfl (by decide) s84_strip s84_ok hsz hk
theorem try1_call [Tabs prog] {h : Zh} {pn p2 p3 p4 n : Nat} {u v : Value} {l : List (Int × Int)} {on : Nat} (b : BeatEnv1 h pn p2 p3 p4 n v (.slice none 0 0) l) (hu : IntSl h u (Wu (Zi on l.length))) (hval : Yz n l = true) (hon1 : 1 ≤ on) (hon : on < 2 ^ l.length) :
    ACall prog 84 [u, .pointer (some ⟨pn, 0, none⟩), .pointer (some ⟨p2, 0, none⟩), .pointer (some ⟨p3, 0, none⟩), .pointer (some ⟨p4, 0, none⟩)] h fun r h' =>
      (r = .bool true ∧ Ext (fun _ => False) h h' ∧ ∀ set, 1 ≤ set → set < 2 ^ n → NoBeat n l on set) ∨ (r = .bool false ∧ FoundAt n l p4 h' ∧ Ext (fun b => b = p4) h h') := by
  obtain ⟨hn2, hn5, hl1, hl6, hok⟩ := We hval
  obtain ⟨p, m, c, rfl, -⟩ := intSl_shape hu
  obtain ⟨H, hH⟩ : ∃ H, H = h ++ [Blk.cells [.slice p m c] 38 false] := ⟨_, rfl⟩
  have hE : Ext (fun _ => False) h H := by rw [hH]; exact Ext.app _ _ _
  have c5 : H[h.length]? = some (.cells [.slice p m c] 38 false) := by rw [hH]; exact Zy _ _
  have hbx : ∀ {K : Value → Zh → Prop}, boxK prog h 38 (.slice p m c) K = K (Yi h) H := fun {K} => by
    rw [hH]; simp [boxK, esz_38, Yi, cellsOf]
  have b1 := b.ext hE
  have bE : BeatEnv H h.length p2 p3 p4 n v (.slice p m c) (.slice none 0 0) l (Zi on l.length) := ⟨c5, iExt hu hE, b1.bl, b1.bls, b1.tb, b1.fd⟩
  have hO1 : 1 ≤ (Zi on l.length).length := worldsN_pos hon1 hon
  have ch := chosen_call (h := H) (n := n) (fn := 85) (cap := #[.pointer (some ⟨h.length, 0, none⟩), .pointer (some ⟨p2, 0, none⟩), .pointer (some ⟨p3, 0, none⟩), .pointer (some ⟨p4, 0, none⟩)]) (by omega)
    (fun k h' => Ext (fun _ => False) H h' ∧ ∀ set, 1 ≤ set → set < k → NoBeat n l on set) (fun h' => FoundAt n l p4 h' ∧ Ext (fun b => b = p4) H h')
    (fun k h1 h2 hI hE2 => ⟨hI.1.trans hE2, hI.2⟩)
    (fun set hs1 hs2 h1 w hI hw hlen => (try_call (on := on) rfl (bE.ext hI.1) hw hval hO1 (Nat.le_trans (Va _ _) hl6) (Nat.le_trans (Va _ _) hn5) (fun c hc => (Xe hc).2.1) (fun r hr => (Xe hr).2.1)).mono fun r h2 hr => by
      rcases hr with ⟨rfl, hE2, hno⟩ | ⟨rfl, hfd, hE2⟩
      · refine ⟨hE2.1, true, rfl, fun _ => ⟨hI.1.trans hE2, fun set' h3 h4 => ?_⟩, fun h => by cases h⟩
        by_cases he : set' = set
        · subst he; exact hno
        · exact hI.2 set' h3 (by omega)
      · exact ⟨hE2.1, false, rfl, fun h => (by cases h), fun _ => ⟨hfd, (hI.1.mono fun _ h => h.elim).trans hE2⟩⟩)
    ⟨Ext.refl _ _, fun set h1 h2 => absurd h2 (by omega)⟩
  refine s84_callW (by simp) ?_
  simp only [s84]
  refine Ze fun N1 hN1 => ?_
  simp (maxSteps := 2000000) only [↓Za, ↓Zb, ↓Zc, vup, cond_true, cond_false, aop, Zg, Zt, ev, sput, Zf, Nat.reduceBEq, Nat.reduceAdd, hbx, Yi]
  refine hN1 [(0, .slice p m c), (1, .pointer (some ⟨pn, 0, none⟩)), (2, .pointer (some ⟨p2, 0, none⟩)), (3, .pointer (some ⟨p3, 0, none⟩)), (4, .pointer (some ⟨p4, 0, none⟩)), (5, .pointer (some ⟨h.length, 0, none⟩)), (6, .bool false)] _ _ ?_ (by simp (maxSteps := 2000000) only [vup, cond_true, cond_false, Nat.reduceBEq])
  clear hN1
  try clear N1
  refine Ze fun N2 hN2 => ?_
  simp (maxSteps := 2000000) only [↓Za, ↓Zb, ↓Zc, vup, List.map_cons, List.map_nil, cond_true, cond_false, aop, Zg, ev, sput, Zf, Nat.reduceBEq, Vd b1.nb Wy, Yv, List.nil_append, List.append_nil, List.map_toArray]
  refine ch.mono ?_
  rintro r G ⟨hlen, hor⟩
  refine hN2 [(0, .slice p m c), (1, .pointer (some ⟨pn, 0, none⟩)), (2, .pointer (some ⟨p2, 0, none⟩)), (3, .pointer (some ⟨p3, 0, none⟩)), (4, .pointer (some ⟨p4, 0, none⟩)), (5, .pointer (some ⟨h.length, 0, none⟩)), (6, .bool false)] _ _ ?_ (by simp (maxSteps := 2000000) only [vup, cond_true, cond_false, Nat.reduceBEq])
  clear hN2
  try clear N2
  refine Zk ?_
  rcases hor with ⟨hEG, hno⟩ | ⟨hfd, hEG⟩
  · simp (maxSteps := 2000000) only [↓Za, ↓Zw, ↓Zz, ↓Zb, ↓Zc, vup, cond_true, cond_false, aop, Zg, ev, sput, Zf, Yg, Yl, Nat.reduceBEq, Zv, Xw, tup, tyf, Vd (b1.ext hEG).fd Vb, Option.isSome_some]
    exact .inl ⟨hE.trans hEG, hno⟩
  · obtain ⟨ss, x, hl, hsm, hbt, cx, hx⟩ := hfd
    obtain ⟨p', m', c', rfl, hp⟩ := intSl_shape hx
    have hps := hp (by rintro rfl; simp at hl; omega)
    obtain ⟨a, rfl⟩ := Option.isSome_iff_exists.1 hps
    simp (maxSteps := 2000000) only [↓Za, ↓Zw, ↓Zz, ↓Zb, ↓Zc, vup, cond_true, cond_false, aop, Zg, ev, sput, Zf, Yg, Yl, Nat.reduceBEq, Zv, Xw, tup, tyf, Vd cx Vb, Option.isSome_some]
    exact .inr ⟨⟨ss, _, hl, hsm, hbt, cx, hx⟩, (hE.mono fun _ h => h.elim).trans hEG⟩

def BeatIs (n : Int) (l : List (Int × Int)) (h' : Zh) (x : Value) (e : Int) : Prop :=
  if Yz n l = true then (if Xt n.toNat l = [] then e = 0 ∧ ∃ ss, ss.length = l.length ∧ SmS ss ∧ Vx n.toNat l ss = true ∧ IntSl h' x ss else x = .slice none 0 0 ∧ e = 4) else x = .slice none 0 0 ∧ e = 2
theorem cts_evs {n : Nat} {l : List (Int × Int)} (hval : Yz n l = true) : Evs n l := fun i hi => by
  obtain ⟨hn2, hn5, hl1, hl6, hok⟩ := We hval
  have := hok i hi
  simp only [okB, Bool.and_eq_true, decide_eq_true_eq] at this
  have h2 : ((2 ^ n : Nat) : Int) = 2 ^ n := by simp
  omega
theorem bldK0 {K : Value → Prop} : Vc prog 76 [] K = K (.agg #[.slice none 0 0]) := by
  simp [Vc, zero_76, fillL, pl_76_0]
theorem bldK {p : Option Addr} {m c : Nat} {K : Value → Prop} : Vc prog 76 [(0, .slice p m c)] K = K (.agg #[.slice p m c]) := by
  simp [Vc, zero_76, fillL, pl_76_0, Wr, cellsOf, Ye]
theorem storeK1 {h : Zh} {b : Nat} {p : Option Addr} {m k : Nat} {e : TypeId} {c : List Value} {K : Zh → Prop} (hb : h[b]? = some (.cells c e false)) (hc : c.length = 1) : Xs prog h 76 (.pointer (some ⟨b, 0, none⟩)) (.agg #[.slice p m k]) K = K (h.set b (.cells [.slice p m k] e false)) :=
  storeA (vs := [.slice p m k]) hb (by rw [shp_76]; rfl) rfl (by rw [hc]; rfl)
theorem loadK1 {h : Zh} {b : Nat} {v : Value} {K : Value → Prop} (hb : h[b]? = some (.cells [v] 76 false)) : Xn prog h 76 (.pointer (some ⟨b, 0, none⟩)) K = K (.agg #[v]) :=
  loadA hb (by rw [shp_76]; rfl)

theorem s50_callW [Tabs Try.prog] {args : List Value} {h : Zh} {Q : Value → Zh → Prop} (hsz : args.length ≤ 24) (hk : AWS Try.prog 24 s50 (Zv Try.prog [.cell 4 76, .tmp 5] Q) (Zt 0 args) h) : ACall Try.prog 50 args h Q :=
  Yn Try.func50 rfl (enters_of Try.func50 (by kernel_rfl) rfl) rfl rfl (by decide) s50_strip s50_ok hsz hk
theorem beat_call [Tabs prog] {h : Zh} {n : Int} {v : Value} {l : List (Int × Int)} (hv : PairSl h v l) (hl : l.length < 9223372036854775808) :
    ACall prog 50 [Zd n, v] h fun r h' => Ext (fun _ => False) h h' ∧ ∃ x e, r = .tuple #[.agg #[x], .int .i64 e] ∧ BeatIs n l h' x e := by
  obtain ⟨p, m, c, rfl⟩ := Vu hv
  obtain ⟨H3, hH3⟩ : ∃ H, H = h ++ [Blk.cells [Zd n] 3 false] ++ [Blk.cells [.slice p m c] 30 false] ++ [Blk.cells [.slice none 0 0] 76 false] := ⟨_, rfl⟩
  have l3 : H3.length = h.length + 3 := by rw [hH3]; simp
  have hE3 : Ext (fun _ => False) h H3 := by rw [hH3]; exact e3 ..
  have a2 : H3[h.length]? = some (.cells [Zd n] 3 false) := by rw [hH3]; exact b3_0 ..
  have a3 : H3[h.length + 1]? = some (.cells [.slice p m c] 30 false) := by rw [hH3]; exact b3_1 ..
  have a4 : H3[h.length + 2]? = some (.cells [.slice none 0 0] 76 false) := by rw [hH3]; exact b3_2 ..
  obtain ⟨H, hH⟩ : ∃ H, H = H3 ++ [Blk.cells [Zd n, .slice p m c] 86 false] := ⟨_, rfl⟩
  have hE6 : Ext (fun _ => False) H3 H := by rw [hH]; exact Ext.app _ _ _
  have c6 : H[H3.length]? = some (.cells [Zd n, .slice p m c] 86 false) := by rw [hH]; exact Zy _ _
  have lH : H.length = h.length + 4 := by rw [hH]; simp [l3]
  have c4 : H[h.length + 2]? = some (.cells [.slice none 0 0] 76 false) := (hE6.2 _ (Yh a4) id).trans a4
  have hE := hE3.trans hE6
  have hvH := hv.ext hE
  have bx3 : ∀ {h : Zh} {K : Value → Zh → Prop}, boxK prog h 3 (Zd n) K = K (Yi h) (h ++ [Blk.cells [Zd n] 3 false]) := fun {h K} => by
    simp [boxK, esz_3, Yi, cellsOf]
  have bx30 : ∀ {h : Zh} {K : Value → Zh → Prop}, boxK prog h 30 (.slice p m c) K = K (Yi h) (h ++ [Blk.cells [.slice p m c] 30 false]) := fun {h K} => by
    simp [boxK, esz_30, Yi, cellsOf]
  refine s50_callW (by simp) ?_
  simp only [s50]
  refine Ze fun N3 hN3 => ?_
  simp (maxSteps := 2000000) only [↓Za, ↓Zb, ↓Zc, vup, cond_true, cond_false, aop, Zg, Zt, ev, sput, Zf, Nat.reduceBEq, Nat.reduceAdd, tyf, bx3, bx30, Yi, Xm, List.length_append, List.length_singleton, Nat.add_assoc, Nat.reduceAdd]
  rw [← hH3]
  refine hN3 [(2, .pointer (some ⟨h.length, 0, none⟩)), (3, .pointer (some ⟨h.length + 1, 0, none⟩)), (4, .pointer (some ⟨h.length + 2, 0, none⟩)), (5, .int .i64 0)] _ _ ?_ (by simp (maxSteps := 2000000) only [vup, cond_true, cond_false, Nat.reduceBEq])
  clear hN3
  try clear N3
  refine Ze fun N4 hN4 => ?_
  simp (maxSteps := 2000000) only [↓Za, ↓Zb, ↓Zc, vup, List.map_cons, List.map_nil, cond_true, cond_false, aop, Zg, ev, sput, Zf, Nat.reduceBEq, tyf, Vd a2 Wy, Vd a3 shp_30, bldT, Xm, Yi, storeT (Zy H3 (.cells [.int .i64 0, .slice none 0 0] 86 false)) rfl, Wf]
  rw [← hH]
  refine hN4 [(2, .pointer (some ⟨h.length, 0, none⟩)), (3, .pointer (some ⟨h.length + 1, 0, none⟩)), (4, .pointer (some ⟨h.length + 2, 0, none⟩)), (5, .int .i64 0), (6, .pointer (some ⟨H3.length, 0, none⟩))] _ _ ?_ (by simp (maxSteps := 2000000) only [vup, cond_true, cond_false, Nat.reduceBEq])
  clear hN4
  try clear N4
  refine Zm fun M hM => ?_
  refine Ze fun N5 hN5 => ?_
  simp (maxSteps := 2000000) only [↓Za, ↓Zb, ↓Zc, vup, List.map_cons, List.map_nil, cond_true, cond_false, aop, Zg, ev, sput, Zf, unK, Nat.reduceBEq, Yv, List.nil_append, List.append_nil, loadT c6]
  refine (valid_call hvH hl).mono ?_
  rintro _ H ⟨rfl, rfl⟩
  refine hN5 [(2, .pointer (some ⟨h.length, 0, none⟩)), (3, .pointer (some ⟨h.length + 1, 0, none⟩)), (4, .pointer (some ⟨h.length + 2, 0, none⟩)), (5, .int .i64 0), (6, .pointer (some ⟨H3.length, 0, none⟩)), (13, .bool (!Yz n l))] _ _ ?_ (by simp (maxSteps := 2000000) only [vup, cond_true, cond_false, Nat.reduceBEq])
  clear hN5
  try clear N5
  cases hval : Yz n l with
  | false =>
    refine Xl rfl ?_
    refine Zk ?_
    obtain ⟨Y, hY⟩ : ∃ Z, Z = H.set (h.length + 2) (.cells [.slice none 0 0] 76 false) := ⟨_, rfl⟩
    have cY : Y[h.length + 2]? = some (.cells [.slice none 0 0] 76 false) := by rw [hY]; exact Wg (Yh c4) _
    simp (maxSteps := 2000000) only [↓Za, ↓Zw, ↓Zz, ↓Zb, ↓Zc, vup, List.map_nil, cond_true, cond_false, aop, Zg, ev, sput, Zf, Nat.reduceBEq, Zv, Xw, tup, bldK0, storeK1 c4 rfl]
    rw [← hY]
    simp (maxSteps := 2000000) only [loadK1 cY]
    exact ⟨by rw [hY]; exact hE.set_ge (by omega) _, _, _, rfl, by rw [BeatIs, if_neg (by simp [hval])]; exact ⟨rfl, rfl⟩⟩
  | true =>
    have hn : n = (n.toNat : Int) := by
      simp only [Yz, Bool.and_eq_true, decide_eq_true_eq] at hval; omega
    obtain ⟨k, hk⟩ : ∃ k : Nat, n = k := ⟨n.toNat, hn⟩
    subst hk
    obtain ⟨hn2, hn5, hl1, hl6, hok⟩ := We hval
    refine Xb rfl ?_
    refine Zk ?_
    simp (maxSteps := 2000000) only [↓Zu, vup, Zg]
    refine hM [(2, .pointer (some ⟨h.length, 0, none⟩)), (3, .pointer (some ⟨h.length + 1, 0, none⟩)), (4, .pointer (some ⟨h.length + 2, 0, none⟩)), (5, .int .i64 0), (6, .pointer (some ⟨H3.length, 0, none⟩))] _ _ ?_ (by simp (maxSteps := 2000000) only [vup, cond_true, cond_false, Nat.reduceBEq])
    clear hM
    try clear M
    obtain ⟨G, hG⟩ : ∃ G, G = H ++ [Blk.cells [.slice none 0 0] 38 false] := ⟨_, rfl⟩
    have hEG : Ext (fun _ => False) H G := by rw [hG]; exact Ext.app _ _ _
    have c7 : G[H.length]? = some (.cells [.slice none 0 0] 38 false) := by rw [hG]; exact Zy _ _
    have bE : BeatEnv1 G h.length (h.length + 1) H3.length H.length k (.slice p m c) (.slice none 0 0) l :=
      ⟨((hE6.trans hEG).2 _ (Yh a2) id).trans a2, ((hE6.trans hEG).2 _ (Yh a3) id).trans a3, hvH.ext hEG, (hEG.2 _ (Yh c6) id).trans c6, c7⟩
    have ch := chosen_call (h := G) (n := l.length) (fn := 84) (cap := #[.pointer (some ⟨h.length, 0, none⟩), .pointer (some ⟨h.length + 1, 0, none⟩), .pointer (some ⟨H3.length, 0, none⟩), .pointer (some ⟨H.length, 0, none⟩)]) hl6
      (fun a h' => Ext (fun _ => False) G h' ∧ ∀ on, 1 ≤ on → on < a → ∀ set, 1 ≤ set → set < 2 ^ k → NoBeat k l on set) (fun h' => FoundAt k l H.length h' ∧ Ext (fun b => b = H.length) G h')
      (fun a h1 h2 hI hE2 => ⟨hI.1.trans hE2, hI.2⟩)
      (fun on hs1 hs2 h1 w hI hw hlen => (try1_call (on := on) (bE.ext hI.1) hw hval hs1 hs2).mono fun r h2 hr => by
        rcases hr with ⟨rfl, hE2, hno⟩ | ⟨rfl, hfd, hE2⟩
        · refine ⟨hE2.1, true, rfl, fun _ => ⟨hI.1.trans hE2, fun on' h3 h4 => ?_⟩, fun h => by cases h⟩
          by_cases he : on' = on
          · subst he; exact hno
          · exact hI.2 on' h3 (by omega)
        · exact ⟨hE2.1, false, rfl, fun h => (by cases h), fun _ => ⟨hfd, (hI.1.mono fun _ h => h.elim).trans hE2⟩⟩)
      ⟨Ext.refl _ _, fun on h1 h2 => absurd h2 (by omega)⟩
    refine Ze fun N6 hN6 => ?_
    simp (maxSteps := 2000000) only [↓Za, ↓Zb, ↓Zc, vup, cond_false, aop, Zg, sput, Zf, Nat.reduceBEq, tyf, Xm, Yi]
    rw [← hG]
    refine hN6 [(2, .pointer (some ⟨h.length, 0, none⟩)), (3, .pointer (some ⟨h.length + 1, 0, none⟩)), (4, .pointer (some ⟨h.length + 2, 0, none⟩)), (5, .int .i64 0), (6, .pointer (some ⟨H3.length, 0, none⟩)), (7, .pointer (some ⟨H.length, 0, none⟩))] _ _ ?_ (by simp (maxSteps := 2000000) only [vup, cond_true, cond_false, Nat.reduceBEq])
    clear hN6
    try clear N6
    refine Ze fun N7 hN7 => ?_
    simp (maxSteps := 2000000) only [↓Za, ↓Zb, ↓Zc, vup, List.map_cons, List.map_nil, cond_true, cond_false, aop, Zg, ev, sput, Zf, Zl, Nat.reduceBEq, tyf, Vd bE.bl shp_30, bE.bls.len, Yv, List.nil_append, List.append_nil, List.map_toArray]
    refine ch.mono ?_
    rintro r F ⟨hlen, hor⟩
    refine hN7 [(2, .pointer (some ⟨h.length, 0, none⟩)), (3, .pointer (some ⟨h.length + 1, 0, none⟩)), (4, .pointer (some ⟨h.length + 2, 0, none⟩)), (5, .int .i64 0), (6, .pointer (some ⟨H3.length, 0, none⟩)), (7, .pointer (some ⟨H.length, 0, none⟩))] _ _ ?_ (by simp (maxSteps := 2000000) only [vup, cond_true, cond_false, Nat.reduceBEq])
    clear hN7
    try clear N7
    have his : ∀ x e h', BeatIs (k : Int) l h' x e ↔ (if Xt k l = [] then e = 0 ∧ ∃ ss, ss.length = l.length ∧ SmS ss ∧ Vx k l ss = true ∧ IntSl h' x ss else x = .slice none 0 0 ∧ e = 4) := fun x e h' => by rw [BeatIs, if_pos hval, Int.toNat_natCast]
    rcases hor with ⟨hEF, hno⟩ | ⟨hfd, hEF⟩
    · have hne : Xt k l ≠ [] := fun h0 => by
        obtain ⟨on, set, xs, h1, h2, h3, h4, h5, h6, h7⟩ := beat_ex (by omega) (cts_evs hval) h0
        rw [hno on h1 h2 set h3 h4 xs h5.symm h6] at h7
        cases h7
      have c4F : F[h.length + 2]? = some (.cells [.slice none 0 0] 76 false) := ((hEG.trans hEF).2 _ (Yh c4) id).trans c4
      refine Zm fun N hN => ?_
      refine Ze fun N8 hN8 => ?_
      simp (maxSteps := 2000000) only [↓Za, ↓Zb, ↓Zc, vup, cond_true, cond_false, aop, Zg, ev, sput, Zf, Yg, Yl, Nat.reduceBEq, tyf, Vd (bE.ext hEF).fd Vb, Option.isSome_some]
      refine hN8 [(2, .pointer (some ⟨h.length, 0, none⟩)), (3, .pointer (some ⟨h.length + 1, 0, none⟩)), (4, .pointer (some ⟨h.length + 2, 0, none⟩)), (5, .int .i64 0), (6, .pointer (some ⟨H3.length, 0, none⟩)), (7, .pointer (some ⟨H.length, 0, none⟩)), (20, .bool true)] _ _ ?_ (by simp (maxSteps := 2000000) only [vup, cond_true, cond_false, Nat.reduceBEq])
      clear hN8
      try clear N8
      refine Xl rfl ?_
      refine Zk ?_
      obtain ⟨Y, hY⟩ : ∃ Z, Z = F.set (h.length + 2) (.cells [.slice none 0 0] 76 false) := ⟨_, rfl⟩
      have cY : Y[h.length + 2]? = some (.cells [.slice none 0 0] 76 false) := by rw [hY]; exact Wg (Yh c4F) _
      simp (maxSteps := 2000000) only [↓Za, ↓Zw, ↓Zz, ↓Zb, ↓Zc, vup, List.map_nil, cond_true, cond_false, aop, Zg, ev, sput, Zf, Nat.reduceBEq, Zv, Xw, tup, bldK0, storeK1 c4F rfl]
      rw [← hY]
      simp (maxSteps := 2000000) only [loadK1 cY]
      exact ⟨by rw [hY]; exact ((hE.trans hEG).trans hEF).set_ge (by omega) _, _, _, rfl, (his _ _ _).2 (by rw [if_neg hne]; exact ⟨rfl, rfl⟩)⟩
    · obtain ⟨ss, x, hsl, hsm, hbt, cx, hx⟩ := hfd
      obtain ⟨p', m', c', rfl, hp⟩ := intSl_shape hx
      have hps := hp (by rintro rfl; simp at hsl; omega)
      obtain ⟨a, rfl⟩ := Option.isSome_iff_exists.1 hps
      have hne : Xt k l = [] := beats_unsound (cts_evs hval) hbt
      have lG : G.length = H.length + 1 := by rw [hG]; simp
      have c4G : G[h.length + 2]? = some (.cells [.slice none 0 0] 76 false) := (hEG.2 _ (Yh c4) id).trans c4
      have c4F : F[h.length + 2]? = some (.cells [.slice none 0 0] 76 false) := (hEF.2 _ (Yh c4G) (by omega)).trans c4G
      have hEF2 : Ext (fun _ => False) h F := ⟨by have := hEF.1; omega, fun i hi _ => (hEF.2 i (by omega) (by omega)).trans ((hE.trans hEG).2 i hi id)⟩
      refine Zm fun N hN => ?_
      refine Ze fun N9 hN9 => ?_
      simp (maxSteps := 2000000) only [↓Za, ↓Zb, ↓Zc, vup, cond_true, cond_false, aop, Zg, ev, sput, Zf, Yg, Yl, Nat.reduceBEq, tyf, Vd cx Vb, Option.isSome_some]
      refine hN9 [(2, .pointer (some ⟨h.length, 0, none⟩)), (3, .pointer (some ⟨h.length + 1, 0, none⟩)), (4, .pointer (some ⟨h.length + 2, 0, none⟩)), (5, .int .i64 0), (6, .pointer (some ⟨H3.length, 0, none⟩)), (7, .pointer (some ⟨H.length, 0, none⟩)), (20, .bool false)] _ _ ?_ (by simp (maxSteps := 2000000) only [vup, cond_true, cond_false, Nat.reduceBEq])
      clear hN9
      try clear N9
      refine Xb rfl ?_
      refine Zk ?_
      simp (maxSteps := 2000000) only [↓Zu, Zg]
      refine hN [(2, .pointer (some ⟨h.length, 0, none⟩)), (3, .pointer (some ⟨h.length + 1, 0, none⟩)), (4, .pointer (some ⟨h.length + 2, 0, none⟩)), (5, .int .i64 0), (6, .pointer (some ⟨H3.length, 0, none⟩)), (7, .pointer (some ⟨H.length, 0, none⟩)), (20, .bool false)] _ _ ?_ (by simp (maxSteps := 2000000) only [vup, cond_true, cond_false, Nat.reduceBEq])
      clear hN
      try clear N
      obtain ⟨Y, hY⟩ : ∃ Z, Z = F.set (h.length + 2) (.cells [.slice (some a) m' c'] 76 false) := ⟨_, rfl⟩
      have cY : Y[h.length + 2]? = some (.cells [.slice (some a) m' c'] 76 false) := by rw [hY]; exact Wg (Yh c4F) _
      have hxY : IntSl Y (.slice (some a) m' c') ss := hx.same fun b hb => by
        have hne' := intSl_no hx (by rintro rfl; simp at hsl; omega) c4F
        rw [hY, List.getElem?_set_ne (fun he => hne' (by rw [hb, he]))]
      refine Zk ?_
      simp (maxSteps := 2000000) only [↓Za, ↓Zw, ↓Zz, ↓Zb, ↓Zc, vup, List.map_cons, List.map_nil, cond_true, cond_false, aop, Zg, ev, sput, Zf, Nat.reduceBEq, Zv, Xw, tup, Vd cx Vb, bldK, storeK1 c4F rfl]
      rw [← hY]
      simp (maxSteps := 2000000) only [loadK1 cY]
      exact ⟨by rw [hY]; exact hEF2.set_ge (by omega) _, _, _, rfl, (his _ _ _).2 (by rw [if_pos hne]; exact ⟨rfl, ss, hsl, hsm, hbt, hxY⟩)⟩
end Go.Proofs.Try.Am

namespace Go.Proofs.Try.Am
open Go.Am Bq
set_option maxRecDepth 100000
set_option maxHeartbeats 4000000

theorem of_nil [Tabs prog] {h : Zh} {v : Value} (hv : PairSl h v []) : Xi prog 18 [v] h (.slice none 0 0) := by
  refine ACall.forget (.atom rfl) ?_
  refine s18_callW (by simp) ?_
  simp only [s18]
  refine Ze fun N1 hN1 => ?_
  simp (maxSteps := 2000000) only [↓Za, ↓Zb, ↓Zc, vup, cond_false, aop, Zg, Zt, ev, sput, Zf, Nat.reduceBEq]
  refine hN1 [(0, v), (2, .slice none 0 0)] _ _ ?_ (by simp (maxSteps := 2000000) only [vup, cond_true, cond_false, Nat.reduceBEq])
  clear hN1
  try clear N1
  refine Ze fun N2 hN2 => ?_
  simp (maxSteps := 2000000) only [↓Za, ↓Zb, ↓Zc, vup, cond_false, aop, Zg, ev, sput, Zf, Nat.reduceBEq]
  refine hN2 [(0, v), (2, .slice none 0 0), (3, .slice none 0 0)] _ _ ?_ (by simp (maxSteps := 2000000) only [vup, cond_true, cond_false, Nat.reduceBEq])
  clear hN2
  try clear N2
  refine Zm fun Z hZ => ?_
  refine Ze fun N3 hN3 => ?_
  simp (maxSteps := 2000000) only [↓Za, ↓Zb, ↓Zc, vup, List.map_cons, List.map_nil, cond_true, cond_false, aop, Zg, ev, sput, Zf, Zl, Nat.reduceBEq, tyf, hv.len, List.length_nil, Int.natCast_zero]
  refine hN3 [(0, v), (2, .slice none 0 0), (3, .slice none 0 0), (6, v), (7, .int .i64 0), (8, .int .i64 0)] _ _ ?_ (by simp (maxSteps := 2000000) only [vup, cond_true, cond_false, Nat.reduceBEq])
  clear hN3
  try clear N3
  refine Zn ?_
  refine Zs fun Q hQ => ?_
  refine Yu (γ := Nat) (fun s => s = 0) (fun _ => ([(0, v), (2, .slice none 0 0), (3, .slice none 0 0), (6, v), (7, .int .i64 0), (8, .int .i64 0)], h)) (fun _ => 0) 0 rfl (by simp (maxSteps := 2000000) only [vup, cond_true, cond_false, Nat.reduceBEq]) rfl ?_
  rintro k rfl
  refine Zs fun Q2 hQ2 => ?_
  simp only [l18_0]
  refine Ze fun N4 hN4 => ?_
  simp (maxSteps := 2000000) only [↓Za, ↓Zb, ↓Zc, vup, cond_true, cond_false, aop, Zg, ev, sput, Zf, Yg, Yl, Nat.reduceBEq, Int.reduceLT]
  refine hN4 [(0, v), (2, .slice none 0 0), (3, .slice none 0 0), (6, v), (7, .int .i64 0), (8, .int .i64 0), (9, .bool false)] _ _ ?_ (by simp (maxSteps := 2000000) only [vup, cond_true, cond_false, Nat.reduceBEq])
  clear hN4
  try clear N4
  refine Ze fun N5 hN5 => ?_
  simp (maxSteps := 2000000) only [↓Xa, ↓vdn, vup, cond_true, cond_false, Zg, ev, Nat.reduceBEq]
  refine hQ2 _ _ _ (hQ _ _ _ ?_)
  simp (maxSteps := 2000000) only [Zg, Zr, Zv, if_true]
  refine hZ [(0, v), (2, .slice none 0 0), (3, .slice none 0 0), (9, .bool false)] _ _ ?_ (by simp (maxSteps := 2000000) only [vup, cond_true, cond_false, Nat.reduceBEq])
  clear hZ
  try clear Z
  refine Zk ?_
  simp (maxSteps := 2000000) only [↓Za, ↓Zw, ↓Zz, ↓Zb, ↓Zc, vup, cond_true, cond_false, aop, Zg, ev, sput, Zf, Nat.reduceBEq, Zv, Xw, tup]
  exact Ext.refl _ _
theorem of_det [Tabs prog] {h : Zh} {v : Value} {l : List (Int × Int)} (hv : PairSl h v l) (hl : l.length < 9223372036854775808) : ∃ v' g, ADet prog 18 [v] h v' (h ++ g) ∧ PairSl (h ++ g) v' (l.take 9) := by
  by_cases hne : l = []
  · subst hne
    exact ⟨_, [], by rw [List.append_nil]; exact of_nil hv, .inl ⟨rfl, rfl⟩⟩
  · have hne9 : l.take 9 ≠ [] := by
      cases l with
      | nil => exact absurd rfl hne
      | cons a l => simp
    refine ⟨_, _, (of_own hv hl).named hne9, OwnP.pair (e := 92) (.inr ⟨h.length, [], rfl, ?_⟩)⟩
    rw [Zy]; simp [Yc]
end Go.Proofs.Try.Am

namespace Go.Proofs.Try.Am
open Go.Am Bq
set_option maxRecDepth 100000
set_option maxHeartbeats 4000000

def CornSlR (h : Zh) (v : Value) (cs : List (List Rat)) : Prop := ∃ ws, OwnV 47 h v ws ∧ Each (BelAt h) ws cs
theorem CornSlR.ext {h h' : Zh} {v : Value} {cs : List (List Rat)} (c : CornSlR h v cs) (hE : Ext (fun _ => False) h h') : CornSlR h' v cs := by
  obtain ⟨ws, h1, h2⟩ := c
  exact ⟨ws, h1.ext hE, h2.imp fun w b ⟨bl, g1, g2⟩ => ⟨bl, g1, (hE.2 _ (Yh g2) id).trans g2⟩⟩

end Go.Proofs.Try.Am

namespace Go.Proofs.Try.Am
open Go.Am
set_option maxRecDepth 100000
/-! 3: planchet planchetlaw09.BetsMore -/
@[reducible] def q3_0 : SCode := .region [⟨some 6, .box 24 (.tmp 2), none⟩,
    ⟨some 8, .assign (.const (.bool false)), none⟩]
@[reducible] def q3_1 : SCode := .region [⟨some 17, .move (.tmp 0), none⟩,
    ⟨some 18, .move (.tmp 1), none⟩,
    ⟨some 19, .call { callee := .value (.func 18), args := #[.tmp 18], argTypes := #[22] }, none⟩,
    ⟨some 20, .move (.tmp 3), none⟩,
    ⟨some 21, .call { callee := .value (.func 17), args := #[.tmp 17, .tmp 19, .tmp 20], argTypes := #[3, 30, 3] }, none⟩,
    ⟨some 16, .move (.tmp 21), none⟩,
    ⟨some 22, .extract (.tmp 16) 0, none⟩,
    ⟨some 23, .extract (.tmp 16) 1, none⟩,
    ⟨some 24, .extract (.tmp 16) 2, none⟩,
    ⟨some 9, .alloc 26, none⟩,
    ⟨some 10, .alloc 26, none⟩,
    ⟨none, .store 26 (.tmp 9) (.tmp 22), none⟩,
    ⟨none, .store 26 (.tmp 10) (.tmp 23), none⟩,
    ⟨some 11, .assign (.tmp 24), none⟩]
def q3_2 : SCode := .draw [⟨some 25, .move (.tmp 1), none⟩,
    ⟨some 26, .call { callee := .value (.func 19), args := #[.tmp 25], argTypes := #[22] }, none⟩,
    ⟨some 27, .load 24 (.tmp 6), none⟩,
    ⟨some 28, .buildSlice 22 1 #[(0, .tmp 27)], none⟩,
    ⟨some 29, .call { callee := .builtin .append, args := #[.tmp 26, .tmp 28], argTypes := #[22, 22] }, none⟩,
    ⟨some 12, .assign (.tmp 29), none⟩]
   [[], [0], [], [2], [1, 3, 1], [4, 4, 0, 1, 2, 3, 4]]
@[reducible] def q3_3 : SCode := .region [⟨some 31, .move (.tmp 0), none⟩,
    ⟨some 32, .move (.tmp 12), none⟩,
    ⟨some 33, .call { callee := .value (.func 18), args := #[.tmp 32], argTypes := #[22] }, none⟩,
    ⟨some 34, .move (.tmp 3), none⟩,
    ⟨some 35, .call { callee := .value (.func 17), args := #[.tmp 31, .tmp 33, .tmp 34], argTypes := #[3, 30, 3] }, none⟩,
    ⟨some 30, .move (.tmp 35), none⟩,
    ⟨some 36, .extract (.tmp 30) 0, none⟩,
    ⟨some 37, .extract (.tmp 30) 1, none⟩,
    ⟨some 38, .extract (.tmp 30) 2, none⟩,
    ⟨some 13, .alloc 26, none⟩,
    ⟨some 14, .alloc 26, none⟩,
    ⟨none, .store 26 (.tmp 13) (.tmp 36), none⟩,
    ⟨none, .store 26 (.tmp 14) (.tmp 37), none⟩,
    ⟨some 15, .assign (.tmp 38), none⟩]
@[reducible] def q3_4 : SCode := .region [⟨some 39, .move (.tmp 0), none⟩,
    ⟨some 40, .move (.tmp 1), none⟩,
    ⟨some 41, .call { callee := .value (.func 20), args := #[.tmp 39, .tmp 40], argTypes := #[3, 22] }, none⟩,
    ⟨some 42, .unOp .not 4 (.tmp 41), none⟩]
@[reducible] def q3_5 : SCode := .region [⟨some 43, .move (.tmp 11), none⟩,
    ⟨some 44, .binOp .eql 27 (.tmp 43) (.const (.int .i64 2)) 27, none⟩,
    ⟨some 45, .move (.tmp 44), none⟩,
    ⟨some 46, .call { callee := .value (.func 21), args := #[], argTypes := #[] }, some (45, true)⟩,
    ⟨some 47, .pick (.tmp 45) (.tmp 46) (.const (.bool false)), none⟩,
    ⟨some 8, .assign (.tmp 47), none⟩]
@[reducible] def q3_6 : SCode := .region [⟨some 48, .move (.tmp 11), none⟩,
    ⟨some 49, .binOp .neq 27 (.tmp 48) (.const (.int .i64 0)) 27, none⟩,
    ⟨some 50, .move (.tmp 49), none⟩,
    ⟨some 51, .move (.tmp 15), some (50, false)⟩,
    ⟨some 52, .binOp .neq 27 (.tmp 51) (.const (.int .i64 0)) 27, some (50, false)⟩,
    ⟨some 53, .pick (.tmp 50) (.const (.bool true)) (.tmp 52), none⟩,
    ⟨some 54, .move (.tmp 53), none⟩,
    ⟨some 55, .move (.tmp 0), some (54, false)⟩,
    ⟨some 56, .move (.tmp 12), some (54, false)⟩,
    ⟨some 57, .call { callee := .value (.func 20), args := #[.tmp 55, .tmp 56], argTypes := #[3, 22] }, some (54, false)⟩,
    ⟨some 58, .unOp .not 4 (.tmp 57), some (54, false)⟩,
    ⟨some 59, .pick (.tmp 54) (.const (.bool true)) (.tmp 58), none⟩]
@[reducible] def q3_7 : SCode := .region [⟨some 60, .move (.tmp 11), none⟩,
    ⟨some 61, .binOp .eql 27 (.tmp 60) (.const (.int .i64 0)) 27, none⟩,
    ⟨some 62, .move (.tmp 61), none⟩,
    ⟨some 63, .move (.tmp 11), some (62, false)⟩,
    ⟨some 64, .binOp .eql 27 (.tmp 63) (.const (.int .i64 2)) 27, some (62, false)⟩,
    ⟨some 65, .pick (.tmp 62) (.const (.bool true)) (.tmp 64), none⟩,
    ⟨some 66, .move (.tmp 65), none⟩,
    ⟨some 67, .move (.tmp 11), some (66, false)⟩,
    ⟨some 68, .binOp .eql 27 (.tmp 67) (.const (.int .i64 5)) 27, some (66, false)⟩,
    ⟨some 69, .pick (.tmp 66) (.const (.bool true)) (.tmp 68), none⟩,
    ⟨some 70, .move (.tmp 69), none⟩,
    ⟨some 71, .move (.tmp 15), some (70, true)⟩,
    ⟨some 72, .binOp .eql 27 (.tmp 71) (.const (.int .i64 2)) 27, some (70, true)⟩,
    ⟨some 73, .move (.tmp 72), some (70, true)⟩,
    ⟨some 74, .move (.tmp 15), some (73, false)⟩,
    ⟨some 75, .binOp .eql 27 (.tmp 74) (.const (.int .i64 5)) 27, some (73, false)⟩,
    ⟨some 76, .pick (.tmp 73) (.const (.bool true)) (.tmp 75), some (70, true)⟩,
    ⟨some 77, .pick (.tmp 70) (.tmp 76) (.const (.bool false)), none⟩,
    ⟨some 78, .move (.tmp 77), none⟩,
    ⟨some 79, .call { callee := .value (.func 21), args := #[], argTypes := #[] }, some (78, true)⟩,
    ⟨some 80, .pick (.tmp 78) (.tmp 79) (.const (.bool false)), none⟩,
    ⟨some 8, .assign (.tmp 80), none⟩]
@[reducible] def q3_8 : SCode := .region [⟨some 81, .load 26 (.tmp 9), none⟩,
    ⟨some 82, .call { callee := .value (.func 22), args := #[.tmp 81], argTypes := #[26] }, none⟩,
    ⟨some 83, .move (.tmp 82), none⟩,
    ⟨some 84, .load 26 (.tmp 10), some (83, true)⟩,
    ⟨some 85, .call { callee := .value (.func 22), args := #[.tmp 84], argTypes := #[26] }, some (83, true)⟩,
    ⟨some 86, .pick (.tmp 83) (.tmp 85) (.const (.bool false)), none⟩,
    ⟨some 87, .move (.tmp 86), none⟩,
    ⟨some 88, .load 26 (.tmp 13), some (87, true)⟩,
    ⟨some 89, .call { callee := .value (.func 22), args := #[.tmp 88], argTypes := #[26] }, some (87, true)⟩,
    ⟨some 90, .pick (.tmp 87) (.tmp 89) (.const (.bool false)), none⟩,
    ⟨some 91, .move (.tmp 90), none⟩,
    ⟨some 92, .load 26 (.tmp 14), some (91, true)⟩,
    ⟨some 93, .call { callee := .value (.func 22), args := #[.tmp 92], argTypes := #[26] }, some (91, true)⟩,
    ⟨some 94, .pick (.tmp 91) (.tmp 93) (.const (.bool false)), none⟩,
    ⟨some 95, .move (.tmp 94), none⟩,
    ⟨some 96, .load 26 (.tmp 13), some (95, true)⟩,
    ⟨some 97, .load 26 (.tmp 9), some (95, true)⟩,
    ⟨some 98, .call { callee := .value (.func 23), args := #[.tmp 96, .tmp 97], argTypes := #[26, 26] }, some (95, true)⟩,
    ⟨some 99, .unOp .not 4 (.tmp 98), some (95, true)⟩,
    ⟨some 100, .pick (.tmp 95) (.tmp 99) (.const (.bool false)), none⟩,
    ⟨some 101, .move (.tmp 100), none⟩,
    ⟨some 102, .load 26 (.tmp 10), some (101, true)⟩,
    ⟨some 103, .load 26 (.tmp 14), some (101, true)⟩,
    ⟨some 104, .call { callee := .value (.func 23), args := #[.tmp 102, .tmp 103], argTypes := #[26, 26] }, some (101, true)⟩,
    ⟨some 105, .unOp .not 4 (.tmp 104), some (101, true)⟩,
    ⟨some 106, .pick (.tmp 101) (.tmp 105) (.const (.bool false)), none⟩,
    ⟨some 107, .move (.tmp 106), none⟩,
    ⟨some 108, .call { callee := .value (.func 21), args := #[], argTypes := #[] }, some (107, true)⟩,
    ⟨some 109, .pick (.tmp 107) (.tmp 108) (.const (.bool false)), none⟩,
    ⟨some 8, .assign (.tmp 109), none⟩]
def s3 : SCode := (.seq q3_0 (.seq q3_1 (.seq q3_2 (.seq q3_3 (.seq (.seq q3_4 (.cond (.tmp 42) (.seq q3_5 .ret) .skip)) (.seq (.seq q3_6 (.cond (.tmp 59) (.seq q3_7 .ret) .skip)) (.seq q3_8 .ret)))))))
/-! 4: planchet planchetlaw09.BetsBounds -/
@[reducible] def q4_0 : SCode := .region [⟨some 6, .assign (.const (.bool false)), none⟩]
@[reducible] def q4_1 : SCode := .region [⟨some 15, .move (.tmp 0), none⟩,
    ⟨some 16, .move (.tmp 1), none⟩,
    ⟨some 17, .call { callee := .value (.func 18), args := #[.tmp 16], argTypes := #[22] }, none⟩,
    ⟨some 18, .move (.tmp 2), none⟩,
    ⟨some 19, .call { callee := .value (.func 17), args := #[.tmp 15, .tmp 17, .tmp 18], argTypes := #[3, 30, 3] }, none⟩,
    ⟨some 14, .move (.tmp 19), none⟩,
    ⟨some 20, .extract (.tmp 14) 0, none⟩,
    ⟨some 21, .extract (.tmp 14) 1, none⟩,
    ⟨some 22, .extract (.tmp 14) 2, none⟩,
    ⟨some 7, .alloc 26, none⟩,
    ⟨some 8, .alloc 26, none⟩,
    ⟨none, .store 26 (.tmp 7) (.tmp 20), none⟩,
    ⟨none, .store 26 (.tmp 8) (.tmp 21), none⟩,
    ⟨some 9, .assign (.tmp 22), none⟩]
@[reducible] def q4_2 : SCode := .region [⟨some 24, .move (.tmp 0), none⟩,
    ⟨some 25, .move (.tmp 1), none⟩,
    ⟨some 26, .call { callee := .value (.func 18), args := #[.tmp 25], argTypes := #[22] }, none⟩,
    ⟨some 27, .move (.tmp 2), none⟩,
    ⟨some 28, .call { callee := .value (.func 24), args := #[.tmp 24, .tmp 26, .tmp 27], argTypes := #[3, 30, 3] }, none⟩,
    ⟨some 23, .move (.tmp 28), none⟩,
    ⟨some 29, .extract (.tmp 23) 0, none⟩,
    ⟨some 30, .extract (.tmp 23) 1, none⟩,
    ⟨some 10, .assign (.tmp 29), none⟩,
    ⟨some 11, .assign (.tmp 30), none⟩]
@[reducible] def q4_3 : SCode := .region [⟨some 31, .move (.tmp 0), none⟩,
    ⟨some 32, .move (.tmp 1), none⟩,
    ⟨some 33, .call { callee := .value (.func 20), args := #[.tmp 31, .tmp 32], argTypes := #[3, 22] }, none⟩,
    ⟨some 34, .unOp .not 4 (.tmp 33), none⟩,
    ⟨some 35, .move (.tmp 34), none⟩,
    ⟨some 36, .move (.tmp 0), some (35, false)⟩,
    ⟨some 37, .move (.tmp 2), some (35, false)⟩,
    ⟨some 38, .call { callee := .value (.func 25), args := #[.tmp 36, .tmp 37], argTypes := #[3, 3] }, some (35, false)⟩,
    ⟨some 39, .unOp .not 4 (.tmp 38), some (35, false)⟩,
    ⟨some 40, .pick (.tmp 35) (.const (.bool true)) (.tmp 39), none⟩]
@[reducible] def q4_4 : SCode := .region [⟨some 41, .load 26 (.tmp 7), none⟩,
    ⟨some 42, .call { callee := .value (.func 26), args := #[.tmp 41], argTypes := #[26] }, none⟩,
    ⟨some 43, .move (.tmp 42), none⟩,
    ⟨some 44, .load 26 (.tmp 8), some (43, true)⟩,
    ⟨some 45, .call { callee := .value (.func 26), args := #[.tmp 44], argTypes := #[26] }, some (43, true)⟩,
    ⟨some 46, .pick (.tmp 43) (.tmp 45) (.const (.bool false)), none⟩,
    ⟨some 47, .move (.tmp 46), none⟩,
    ⟨some 48, .move (.tmp 10), some (47, true)⟩,
    ⟨some 49, .call { callee := .builtin .len, args := #[.tmp 48], argTypes := #[38] }, some (47, true)⟩,
    ⟨some 50, .binOp .eql 3 (.tmp 49) (.const (.int .i64 0)) 3, some (47, true)⟩,
    ⟨some 51, .pick (.tmp 47) (.tmp 50) (.const (.bool false)), none⟩,
    ⟨some 52, .move (.tmp 51), none⟩,
    ⟨some 53, .move (.tmp 9), some (52, true)⟩,
    ⟨some 54, .binOp .eql 27 (.tmp 53) (.const (.int .i64 2)) 27, some (52, true)⟩,
    ⟨some 55, .pick (.tmp 52) (.tmp 54) (.const (.bool false)), none⟩,
    ⟨some 56, .move (.tmp 55), none⟩,
    ⟨some 57, .move (.tmp 11), some (56, true)⟩,
    ⟨some 58, .binOp .eql 27 (.tmp 57) (.const (.int .i64 2)) 27, some (56, true)⟩,
    ⟨some 59, .pick (.tmp 56) (.tmp 58) (.const (.bool false)), none⟩,
    ⟨some 60, .move (.tmp 59), none⟩,
    ⟨some 61, .call { callee := .value (.func 21), args := #[], argTypes := #[] }, some (60, true)⟩,
    ⟨some 62, .pick (.tmp 60) (.tmp 61) (.const (.bool false)), none⟩,
    ⟨some 6, .assign (.tmp 62), none⟩]
@[reducible] def q4_5 : SCode := .region [⟨some 63, .move (.tmp 0), none⟩,
    ⟨some 64, .move (.tmp 1), none⟩,
    ⟨some 65, .call { callee := .value (.func 27), args := #[.tmp 63, .tmp 64], argTypes := #[3, 22] }, none⟩,
    ⟨some 66, .unOp .not 4 (.tmp 65), none⟩]
@[reducible] def q4_6 : SCode := .region [⟨some 67, .load 26 (.tmp 7), none⟩,
    ⟨some 68, .call { callee := .value (.func 26), args := #[.tmp 67], argTypes := #[26] }, none⟩,
    ⟨some 69, .move (.tmp 68), none⟩,
    ⟨some 70, .load 26 (.tmp 8), some (69, true)⟩,
    ⟨some 71, .call { callee := .value (.func 26), args := #[.tmp 70], argTypes := #[26] }, some (69, true)⟩,
    ⟨some 72, .pick (.tmp 69) (.tmp 71) (.const (.bool false)), none⟩,
    ⟨some 73, .move (.tmp 72), none⟩,
    ⟨some 74, .move (.tmp 10), some (73, true)⟩,
    ⟨some 75, .call { callee := .builtin .len, args := #[.tmp 74], argTypes := #[38] }, some (73, true)⟩,
    ⟨some 76, .binOp .eql 3 (.tmp 75) (.const (.int .i64 0)) 3, some (73, true)⟩,
    ⟨some 77, .pick (.tmp 73) (.tmp 76) (.const (.bool false)), none⟩,
    ⟨some 78, .move (.tmp 77), none⟩,
    ⟨some 79, .move (.tmp 9), some (78, true)⟩,
    ⟨some 80, .binOp .eql 27 (.tmp 79) (.const (.int .i64 5)) 27, some (78, true)⟩,
    ⟨some 81, .pick (.tmp 78) (.tmp 80) (.const (.bool false)), none⟩,
    ⟨some 82, .move (.tmp 81), none⟩,
    ⟨some 83, .move (.tmp 11), some (82, true)⟩,
    ⟨some 84, .binOp .eql 27 (.tmp 83) (.const (.int .i64 5)) 27, some (82, true)⟩,
    ⟨some 85, .pick (.tmp 82) (.tmp 84) (.const (.bool false)), none⟩,
    ⟨some 86, .move (.tmp 85), none⟩,
    ⟨some 87, .call { callee := .value (.func 21), args := #[], argTypes := #[] }, some (86, true)⟩,
    ⟨some 88, .pick (.tmp 86) (.tmp 87) (.const (.bool false)), none⟩,
    ⟨some 6, .assign (.tmp 88), none⟩]
@[reducible] def q4_7 : SCode := .region [⟨some 90, .move (.tmp 0), none⟩,
    ⟨some 91, .move (.tmp 1), none⟩,
    ⟨some 92, .move (.tmp 2), none⟩,
    ⟨some 93, .call { callee := .value (.func 28), args := #[.tmp 90, .tmp 91, .tmp 92], argTypes := #[3, 22, 3] }, none⟩,
    ⟨some 89, .move (.tmp 93), none⟩,
    ⟨some 94, .extract (.tmp 89) 0, none⟩,
    ⟨some 95, .extract (.tmp 89) 1, none⟩,
    ⟨some 12, .alloc 26, none⟩,
    ⟨some 13, .alloc 26, none⟩,
    ⟨none, .store 26 (.tmp 12) (.tmp 94), none⟩,
    ⟨none, .store 26 (.tmp 13) (.tmp 95), none⟩]
@[reducible] def q4_8 : SCode := .region [⟨some 96, .load 26 (.tmp 7), none⟩,
    ⟨some 97, .load 26 (.tmp 12), none⟩,
    ⟨some 98, .binOp .eql 26 (.tmp 96) (.tmp 97) 26, none⟩,
    ⟨some 99, .move (.tmp 98), none⟩,
    ⟨some 100, .load 26 (.tmp 8), some (99, true)⟩,
    ⟨some 101, .load 26 (.tmp 13), some (99, true)⟩,
    ⟨some 102, .binOp .eql 26 (.tmp 100) (.tmp 101) 26, some (99, true)⟩,
    ⟨some 103, .pick (.tmp 99) (.tmp 102) (.const (.bool false)), none⟩,
    ⟨some 104, .move (.tmp 103), none⟩,
    ⟨some 105, .move (.tmp 9), some (104, true)⟩,
    ⟨some 106, .binOp .eql 27 (.tmp 105) (.const (.int .i64 0)) 27, some (104, true)⟩,
    ⟨some 107, .pick (.tmp 104) (.tmp 106) (.const (.bool false)), none⟩,
    ⟨some 108, .move (.tmp 107), none⟩,
    ⟨some 109, .move (.tmp 10), some (108, true)⟩,
    ⟨some 110, .move (.tmp 0), some (108, true)⟩,
    ⟨some 111, .move (.tmp 1), some (108, true)⟩,
    ⟨some 112, .move (.tmp 2), some (108, true)⟩,
    ⟨some 113, .call { callee := .value (.func 30), args := #[.tmp 110, .tmp 111, .tmp 112], argTypes := #[3, 22, 3] }, some (108, true)⟩,
    ⟨some 114, .call { callee := .value (.func 29), args := #[.tmp 109, .tmp 113], argTypes := #[38, 38] }, some (108, true)⟩,
    ⟨some 115, .pick (.tmp 108) (.tmp 114) (.const (.bool false)), none⟩,
    ⟨some 116, .move (.tmp 115), none⟩,
    ⟨some 117, .move (.tmp 11), some (116, true)⟩,
    ⟨some 118, .binOp .eql 27 (.tmp 117) (.const (.int .i64 0)) 27, some (116, true)⟩,
    ⟨some 119, .pick (.tmp 116) (.tmp 118) (.const (.bool false)), none⟩,
    ⟨some 120, .move (.tmp 119), none⟩,
    ⟨some 121, .call { callee := .value (.func 21), args := #[], argTypes := #[] }, some (120, true)⟩,
    ⟨some 122, .pick (.tmp 120) (.tmp 121) (.const (.bool false)), none⟩,
    ⟨some 6, .assign (.tmp 122), none⟩]
def s4 : SCode := (.seq q4_0 (.seq q4_1 (.seq q4_2 (.seq (.seq q4_3 (.cond (.tmp 40) (.seq q4_4 .ret) .skip)) (.seq (.seq q4_5 (.cond (.tmp 66) (.seq q4_6 .ret) .skip)) (.seq q4_7 (.seq q4_8 .ret)))))))
/-! 13: planchet planchetlaw09.BetsEither -/
@[reducible] def q13_0 : SCode := .region [⟨some 4, .assign (.const (.bool false)), none⟩]
@[reducible] def q13_1 : SCode := .region [⟨some 14, .move (.tmp 0), none⟩,
    ⟨some 15, .move (.tmp 1), none⟩,
    ⟨some 16, .call { callee := .value (.func 18), args := #[.tmp 15], argTypes := #[22] }, none⟩,
    ⟨some 17, .call { callee := .value (.func 36), args := #[.tmp 14, .tmp 16], argTypes := #[3, 30] }, none⟩,
    ⟨some 13, .move (.tmp 17), none⟩,
    ⟨some 18, .extract (.tmp 13) 0, none⟩,
    ⟨some 19, .extract (.tmp 13) 1, none⟩,
    ⟨some 5, .assign (.tmp 18), none⟩,
    ⟨some 6, .assign (.tmp 19), none⟩]
@[reducible] def q13_2 : SCode := .region [⟨some 21, .move (.tmp 0), none⟩,
    ⟨some 22, .move (.tmp 1), none⟩,
    ⟨some 23, .call { callee := .value (.func 18), args := #[.tmp 22], argTypes := #[22] }, none⟩,
    ⟨some 24, .call { callee := .value (.func 50), args := #[.tmp 21, .tmp 23], argTypes := #[3, 30] }, none⟩,
    ⟨some 20, .move (.tmp 24), none⟩,
    ⟨some 25, .extract (.tmp 20) 0, none⟩,
    ⟨some 26, .extract (.tmp 20) 1, none⟩,
    ⟨some 7, .alloc 76, none⟩,
    ⟨none, .store 76 (.tmp 7) (.tmp 25), none⟩,
    ⟨some 8, .assign (.tmp 26), none⟩]
@[reducible] def q13_3 : SCode := .region [⟨some 27, .move (.tmp 0), none⟩,
    ⟨some 28, .move (.tmp 1), none⟩,
    ⟨some 29, .call { callee := .value (.func 20), args := #[.tmp 27, .tmp 28], argTypes := #[3, 22] }, none⟩,
    ⟨some 30, .unOp .not 4 (.tmp 29), none⟩]
@[reducible] def q13_4 : SCode := .region [⟨some 31, .move (.tmp 6), none⟩,
    ⟨some 32, .binOp .eql 27 (.tmp 31) (.const (.int .i64 2)) 27, none⟩,
    ⟨some 33, .move (.tmp 32), none⟩,
    ⟨some 34, .move (.tmp 8), some (33, true)⟩,
    ⟨some 35, .binOp .eql 27 (.tmp 34) (.const (.int .i64 2)) 27, some (33, true)⟩,
    ⟨some 36, .pick (.tmp 33) (.tmp 35) (.const (.bool false)), none⟩,
    ⟨some 37, .move (.tmp 36), none⟩,
    ⟨some 38, .call { callee := .value (.func 21), args := #[], argTypes := #[] }, some (37, true)⟩,
    ⟨some 39, .pick (.tmp 37) (.tmp 38) (.const (.bool false)), none⟩,
    ⟨some 4, .assign (.tmp 39), none⟩]
@[reducible] def q13_5 : SCode := .region [⟨some 40, .move (.tmp 6), none⟩,
    ⟨some 41, .binOp .eql 27 (.tmp 40) (.const (.int .i64 0)) 27, none⟩]
@[reducible] def q13_6 : SCode := .region [⟨some 43, .move (.tmp 0), none⟩,
    ⟨some 44, .move (.tmp 1), none⟩,
    ⟨some 45, .call { callee := .value (.func 18), args := #[.tmp 44], argTypes := #[22] }, none⟩,
    ⟨some 46, .move (.tmp 5), none⟩,
    ⟨some 47, .call { callee := .value (.func 37), args := #[.tmp 43, .tmp 45, .tmp 46], argTypes := #[3, 30, 47] }, none⟩,
    ⟨some 42, .move (.tmp 47), none⟩,
    ⟨some 48, .extract (.tmp 42) 0, none⟩,
    ⟨some 49, .extract (.tmp 42) 1, none⟩,
    ⟨some 9, .assign (.tmp 48), none⟩,
    ⟨some 10, .assign (.tmp 49), none⟩]
@[reducible] def q13_7 : SCode := .region [⟨some 50, .move (.tmp 8), none⟩,
    ⟨some 51, .binOp .eql 27 (.tmp 50) (.const (.int .i64 4)) 27, none⟩,
    ⟨some 52, .move (.tmp 51), none⟩,
    ⟨some 53, .move (.tmp 9), some (52, true)⟩,
    ⟨some 54, .pick (.tmp 52) (.tmp 53) (.const (.bool false)), none⟩,
    ⟨some 55, .move (.tmp 54), none⟩,
    ⟨some 56, .move (.tmp 10), some (55, true)⟩,
    ⟨some 57, .binOp .eql 27 (.tmp 56) (.const (.int .i64 0)) 27, some (55, true)⟩,
    ⟨some 58, .pick (.tmp 55) (.tmp 57) (.const (.bool false)), none⟩,
    ⟨some 59, .move (.tmp 58), none⟩,
    ⟨some 60, .call { callee := .value (.func 21), args := #[], argTypes := #[] }, some (59, true)⟩,
    ⟨some 61, .pick (.tmp 59) (.tmp 60) (.const (.bool false)), none⟩,
    ⟨some 4, .assign (.tmp 61), none⟩]
def q13_8 : SCode := .draw [⟨some 63, .move (.tmp 0), none⟩,
    ⟨some 64, .move (.tmp 1), none⟩,
    ⟨some 65, .call { callee := .value (.func 18), args := #[.tmp 64], argTypes := #[22] }, none⟩,
    ⟨some 66, .load 76 (.tmp 7), none⟩,
    ⟨some 67, .call { callee := .value (.func 51), args := #[.tmp 63, .tmp 65, .tmp 66], argTypes := #[3, 30, 76] }, none⟩,
    ⟨some 62, .move (.tmp 67), none⟩,
    ⟨some 68, .extract (.tmp 62) 0, none⟩,
    ⟨some 69, .extract (.tmp 62) 1, none⟩,
    ⟨some 11, .assign (.tmp 68), none⟩,
    ⟨some 12, .assign (.tmp 69), none⟩]
   [[], [], [1], [], [0, 2, 3, 2], [4], [5], [5], [6, 4, 0, 1, 2, 3, 4, 5, 6], [7, 8, 0, 1, 2, 3, 4, 5, 6, 7, 8]]
@[reducible] def q13_9 : SCode := .region [⟨some 70, .move (.tmp 6), none⟩,
    ⟨some 71, .binOp .eql 27 (.tmp 70) (.const (.int .i64 5)) 27, none⟩,
    ⟨some 72, .move (.tmp 71), none⟩,
    ⟨some 73, .move (.tmp 8), some (72, true)⟩,
    ⟨some 74, .binOp .eql 27 (.tmp 73) (.const (.int .i64 0)) 27, some (72, true)⟩,
    ⟨some 75, .pick (.tmp 72) (.tmp 74) (.const (.bool false)), none⟩,
    ⟨some 76, .move (.tmp 75), none⟩,
    ⟨some 77, .move (.tmp 11), some (76, true)⟩,
    ⟨some 78, .pick (.tmp 76) (.tmp 77) (.const (.bool false)), none⟩,
    ⟨some 79, .move (.tmp 78), none⟩,
    ⟨some 80, .move (.tmp 12), some (79, true)⟩,
    ⟨some 81, .binOp .eql 27 (.tmp 80) (.const (.int .i64 0)) 27, some (79, true)⟩,
    ⟨some 82, .pick (.tmp 79) (.tmp 81) (.const (.bool false)), none⟩,
    ⟨some 83, .move (.tmp 82), none⟩,
    ⟨some 84, .call { callee := .value (.func 21), args := #[], argTypes := #[] }, some (83, true)⟩,
    ⟨some 85, .pick (.tmp 83) (.tmp 84) (.const (.bool false)), none⟩,
    ⟨some 4, .assign (.tmp 85), none⟩]
def s13 : SCode := (.seq q13_0 (.seq q13_1 (.seq q13_2 (.seq (.seq q13_3 (.cond (.tmp 30) (.seq q13_4 .ret) .skip)) (.seq (.seq q13_5 (.cond (.tmp 41) (.seq q13_6 (.seq q13_7 .ret)) .skip)) (.seq q13_8 (.seq q13_9 .ret)))))))
theorem s13_strip : Yb (Zx Try.f13) = s13 := by kernel_rfl
theorem s13_ok : Ym 86 (Zx Try.f13) = true := by kernel_rfl
end Go.Proofs.Try.Am

namespace Go.Proofs.Try.Am
open Go.Am Bq
set_option maxRecDepth 100000
set_option maxHeartbeats 4000000

theorem valid_take (n : Int) (l : List (Int × Int)) : Yz n (l.take 9) = Yz n l := by
  by_cases h : l.length ≤ 9
  · rw [List.take_of_length_le h]
  · have h1 : (l.take 9).length = 9 := by rw [List.length_take]; omega
    rw [Yz, Yz, h1, show decide (9 ≤ 6) = false by decide, show decide (l.length ≤ 6) = false by simp; omega]
    simp
theorem inEv_bit (f : Nat → Rat) (e n : Nat) : Zo (inEv f e) n = evq n f e := Zj fun w hw => by
  rw [inEv, bitQ]
  split
  · rw [Rat.one_mul]
  · rw [Rat.zero_mul]
theorem fq_map {b : List Rat} {w : Nat} (hw : w < b.length) : fq (b.map ofQ) w = b.getD w 0 := by
  rw [fq, List.getD, List.getElem?_map, List.getElem?_eq_getElem hw, List.getD, List.getElem?_eq_getElem hw]; exact toQ_ofQ _
theorem mulTo_dvd' {N : Nat} (hN : 0 < N) (hB : N ≤ 10000000000) : ∀ (ps : List (Int × Int)) (m : Nat), 0 < m → m ∣ N → (∀ p ∈ ps, okP p = true ∧ p.2.natAbs ∣ N) → mulTo ps m ≠ 0 ∧ mulTo ps m ∣ N
  | [], m, h0, h1, _ => ⟨by rw [mulTo]; omega, by rw [mulTo]; exact h1⟩
  | p :: ps, m, h0, h1, h => by
    obtain ⟨k1, k2⟩ := h p (by simp)
    have hl : Nat.lcm m p.2.natAbs ∣ N := Nat.lcm_dvd h1 k2
    have hlN := Nat.le_of_dvd hN hl
    have hp0 : 0 < p.2.natAbs := Nat.pos_of_dvd_of_pos k2 hN
    rw [mulTo, if_pos ⟨k1, by omega⟩]
    exact mulTo_dvd' hN hB ps _ (Nat.lcm_pos h0 hp0) hl fun q hq => h q (by simp [hq])
theorem okP_of' {q : Rat} (h0 : 0 ≤ q) (hd : q.den ≤ 10000000000) : okP (ofQ q) = true := by
  have h1 : 0 ≤ q.num := Rat.num_nonneg.2 h0
  have h2 := q.den_pos
  have h3 := q.reduced
  simp only [okP, ofQ, Bool.and_eq_true, beq_iff_eq]
  refine ⟨⟨⟨decide_eq_true (by omega), decide_eq_true (by omega)⟩, decide_eq_true h1⟩, ?_⟩
  rw [Int.natAbs_natCast]; exact h3
theorem chn_inR' {ps : List (Int × Int)} (c : Chn ps) : InR ps := fun p hp => by
  have h1 := c.ok hp
  have h2 := c.le p hp
  simp only [okP, Bool.and_eq_true, decide_eq_true_eq] at h1
  omega
theorem corner_facts {n : Nat} {l : List (Int × Int)} {b : List Rat} (hval : Yz n l = true) (hb : b ∈ Xt n l) :
    b.length = n ∧ Feas n l (fun w => b.getD w 0) ∧ (∀ w, w < n → b.getD w 0 ≤ 1) ∧ (∃ D, 0 < D ∧ D ≤ 720 ∧ mult (b.map ofQ) ∣ D) ∧ Chn (b.map ofQ) ∧ agB l (b.map ofQ) = true := by
  obtain ⟨hn2, hn5, hl1, hl6, hok⟩ := We hval
  obtain ⟨set, h1, h2, h3⟩ := mem_corners.1 hb
  obtain ⟨hl, hf⟩ := corner_feas h3
  obtain ⟨D, d1, d2, d3⟩ := corner_den hn5 (cts_of hval) h3
  have hle : ∀ w, w < n → b.getD w 0 ≤ 1 := fun w hw => by
    have := sumTo_one (g := fun w => b.getD w 0) hw hf.nn
    rw [hf.one] at this; exact this
  have hmem : ∀ p ∈ b.map ofQ, ∃ w, w < n ∧ p = ofQ (b.getD w 0) := fun p hp => by
    obtain ⟨q, hq, rfl⟩ := List.mem_map.1 hp
    obtain ⟨w, hw, rfl⟩ := List.getElem_of_mem hq
    exact ⟨w, by omega, by rw [List.getD, List.getElem?_eq_getElem hw]; rfl⟩
  have hmul := mulTo_dvd' d1 (by omega) (b.map ofQ) 1 (by decide) (Nat.one_dvd _) fun p hp => by
    obtain ⟨w, hw, rfl⟩ := hmem p hp
    have hd := d3 w hw
    have := Nat.le_of_dvd d1 hd
    exact ⟨okP_of' (hf.nn w hw) (by omega), by rw [ofQ]; exact hd⟩
  have hc : Chn (b.map ofQ) := ⟨hmul.1, fun p hp => by
    obtain ⟨w, hw, rfl⟩ := hmem p hp
    have := hle w hw
    rw [Rat.le_iff] at this
    simpa [ofQ] using this⟩
  refine ⟨hl, hf, hle, ⟨D, d1, d2, hmul.2⟩, hc, ?_⟩
  rw [agB, List.length_map, hl, Bool.and_eq_true, decide_eq_true_eq, List.all_eq_true]
  refine ⟨by rw [Zj fun w hw => fq_map (show w < b.length by omega)]; exact hf.one, fun p hp => ?_⟩
  obtain ⟨i, hi, hip⟩ := List.getElem_of_mem hp
  have h4 := hf.bet i hi
  have hgi : l.getD i (0, 0) = p := by rw [List.getD, List.getElem?_eq_getElem hi]; exact hip
  rw [hgi] at h4
  rw [decide_eq_true_eq, inEv_bit, ← h4]
  exact Zj fun w hw => by rw [fq_map (by omega)]
end Go.Proofs.Try.Am

namespace Go.Proofs.Try.Am
open Go.Am Bq
set_option maxRecDepth 100000
set_option maxHeartbeats 4000000

theorem beatIs_shape {n : Int} {l : List (Int × Int)} {h : Zh} {x : Value} {e : Int} (hb : BeatIs n l h x e) : ∃ p m c, x = .slice p m c := by
  rw [BeatIs] at hb
  split at hb
  · split at hb
    · obtain ⟨_, ss, _, _, _, hx⟩ := hb
      obtain ⟨p, m, c, h1, _⟩ := intSl_shape hx
      exact ⟨p, m, c, h1⟩
    · exact ⟨_, _, _, hb.1⟩
  · exact ⟨_, _, _, hb.1⟩
theorem smB_of {ss : List Int} (hs : SmS ss) : smB ss = true := List.all_eq_true.2 fun s hm => by
  obtain ⟨i, hi, rfl⟩ := List.mem_iff_getElem.1 hm
  have := hs i
  rw [List.getD, List.getElem?_eq_getElem hi, Option.getD_some] at this
  simp only [Bool.and_eq_true, decide_eq_true_eq]
  omega
theorem beat_valid {k : Nat} {l : List (Int × Int)} {h : Zh} {x : Value} {e : Int} (hval : Yz k l = true) (hb : BeatIs (k : Int) l h x e) : (Xt k l = [] ∧ e = 0 ∧ ∃ ss, ss.length = l.length ∧ SmS ss ∧ Vx k l ss = true ∧ IntSl h x ss) ∨ (Xt k l ≠ [] ∧ x = .slice none 0 0 ∧ e = 4) := by
  rw [BeatIs, if_pos hval, Int.toNat_natCast] at hb
  by_cases hc : Xt k l = []
  · rw [if_pos hc] at hb; exact .inl ⟨hc, hb⟩
  · rw [if_neg hc] at hb; exact .inr ⟨hc, hb⟩

end Go.Proofs.Try.Am

namespace Go.Proofs.Try.Am
open Go.Am Bq
set_option maxRecDepth 100000
set_option maxHeartbeats 4000000

theorem s13_callW [Tabs Try.prog] {args : List Value} {h : Zh} {Q : Value → Zh → Prop} (hsz : args.length ≤ 86) (hk : AWS Try.prog 86 s13 (Zv Try.prog [.tmp 4] Q) (Zt 0 args) h) : ACall Try.prog 13 args h Q :=
  Yn Try.func13 rfl (enters_of Try.func13 (by kernel_rfl) rfl) rfl rfl (by decide) s13_strip s13_ok hsz hk
theorem law_either [Tabs prog] {h : Zh} {v : Value} {l : List (Int × Int)} (n : Int) (hv : PairSl h v l) (hl : l.length < 9223372036854775808) (hxl : InR l) :
    ACall prog 13 [Zd n, v] h fun r _ => r = .bool true := by
  refine s13_callW (by simp) ?_
  simp only [s13]
  refine Ze fun N1 hN1 => ?_
  simp (maxSteps := 2000000) only [↓Za, ↓Zb, ↓Zc, vup, cond_false, aop, Zg, Zt, ev, sput, Zf, Nat.reduceBEq, Nat.reduceAdd]
  refine hN1 [(0, Zd n), (1, v), (4, .bool false)] _ _ ?_ (by simp (maxSteps := 2000000) only [vup, cond_true, cond_false, Nat.reduceBEq])
  clear hN1
  try clear N1
  refine Ze fun N2 hN2 => ?_
  simp (maxSteps := 2000000) only [↓Za, ↓Zb, ↓Zc, vup, List.map_cons, List.map_nil, cond_true, cond_false, aop, Zg, ev, sput, Zf, Nat.reduceBEq, Yv, List.nil_append, List.append_nil]
  refine (of_copy hv hl).mono ?_
  rintro u1 h1 ⟨hu1, hE1⟩
  refine (sound_call (n := n) hu1 (by rw [List.length_take]; omega) fun hval => ?_).mono ?_
  · rw [valid_take] at hval
    have hn : n = (n.toNat : Int) := by
      simp only [Yz, Bool.and_eq_true, decide_eq_true_eq] at hval; omega
    have h6 : l.length ≤ 6 := by
      simp only [Yz, Bool.and_eq_true, decide_eq_true_eq] at hval; omega
    rw [List.take_of_length_le (by omega)]
    rw [hn] at hval
    exact tame_all (by simp only [Yz, Bool.and_eq_true, decide_eq_true_eq] at hval; omega) (cts_of hval)
  rintro _ h2 ⟨hE2, x, e, rfl, his⟩
  simp (maxSteps := 2000000) only [extr_20, extr_21]
  refine hN2 [(0, Zd n), (1, v), (4, .bool false), (5, x), (6, .int .i64 e)] _ _ ?_ (by simp (maxSteps := 2000000) only [vup, cond_true, cond_false, Nat.reduceBEq])
  clear hN2
  try clear N2
  have hE12 := hE1.trans hE2
  refine Ze fun N3 hN3 => ?_
  simp (maxSteps := 2000000) only [↓Za, ↓Zb, ↓Zc, vup, List.map_cons, List.map_nil, cond_true, cond_false, aop, Zg, ev, sput, Zf, Nat.reduceBEq, Yv, List.nil_append, List.append_nil]
  refine (of_copy (hv.ext hE12) hl).mono ?_
  rintro u2 h3 ⟨hu2, hE3⟩
  refine (beat_call (n := n) hu2 (by rw [List.length_take]; omega)).mono ?_
  rintro _ h4 ⟨hE4, y, f, rfl, hib⟩
  obtain ⟨py, my, cy, rfl⟩ := beatIs_shape hib
  obtain ⟨H, hH⟩ : ∃ H, H = h4 ++ [Blk.cells [.slice py my cy] 76 false] := ⟨_, rfl⟩
  have hE5 : Ext (fun _ => False) h4 H := by rw [hH]; exact Ext.app _ _ _
  have b7 : H[h4.length]? = some (.cells [.slice py my cy] 76 false) := by rw [hH]; exact Zy _ _
  simp (maxSteps := 2000000) only [extr_20, extr_21, tyf, Xm, Yi, storeK1 (Zy h4 (.cells [.slice none 0 0] 76 false)) rfl, Wf]
  rw [← hH]
  refine hN3 [(0, Zd n), (1, v), (4, .bool false), (5, x), (6, .int .i64 e), (7, .pointer (some ⟨h4.length, 0, none⟩)), (8, .int .i64 f)] _ _ ?_ (by simp (maxSteps := 2000000) only [vup, cond_true, cond_false, Nat.reduceBEq])
  clear hN3
  try clear N3
  have hEx : Ext (fun _ => False) h2 H := (hE3.trans hE4).trans hE5
  have hvH := (hv.ext hE12).ext hEx
  have e22 : ((2 : Int) == 2) = true := rfl
  have e44 : ((4 : Int) == 4) = true := rfl
  have e55 : ((5 : Int) == 5) = true := rfl
  have e50 : ((5 : Int) == 0) = false := rfl
  have z00 : ((0 : Int) == 0) = true := rfl
  rw [SoundIs, valid_take] at his
  cases hval : Yz n l with
  | false =>
    rw [hval, if_neg (by simp)] at his
    rw [BeatIs, valid_take, hval, if_neg (by simp)] at hib
    obtain ⟨rfl, rfl⟩ := his
    obtain ⟨hx, rfl⟩ := hib
    refine Zm fun M hM => ?_
    refine Ze fun N4 hN4 => ?_
    simp (maxSteps := 2000000) only [↓Za, ↓Zb, ↓Zc, vup, List.map_cons, List.map_nil, cond_true, cond_false, aop, Zg, ev, sput, Zf, unK, Nat.reduceBEq, Yv, List.nil_append, List.append_nil]
    refine (rbets_call hvH hl).mono ?_
    rintro _ H ⟨rfl, rfl⟩
    rw [hval]
    simp (maxSteps := 2000000) only [vup]
    refine hN4 [(0, Zd n), (1, v), (4, .bool false), (5, .slice none 0 0), (6, .int .i64 2), (7, .pointer (some ⟨h4.length, 0, none⟩)), (8, .int .i64 2), (30, .bool true)] _ _ ?_ (by simp (maxSteps := 2000000) only [vup, cond_true, cond_false, Nat.reduceBEq])
    clear hN4
    try clear N4
    refine Xl rfl ?_
    refine Ze fun N5 hN5 => ?_
    simp only [q13_4]
    refine Vg 7 fun N1 hN1 => ?_
    simp (maxSteps := 2000000) only [↓Za, ↓Zb, ↓Zc, ↓vdn, vup, cond_true, cond_false, aop, ev, sput, Zf, Yg, Yl, Nat.reduceBEq, List.take_succ_cons, List.take_zero, e22]
    refine hN1 _ _ ?_
    clear hN1 N1
    simp only [List.drop_succ_cons, List.drop_zero]
    simp (maxSteps := 2000000) only [↓Za, ↓Zb, ↓Zc, ↓vdn, vup, List.map_nil, cond_true, cond_false, aop, Zg, ev, sput, Zf, Nat.reduceBEq, Yv, List.append_nil]
    refine (awake_call).mono ?_
    rintro _ H ⟨rfl, hE9⟩
    refine hN5 [(0, Zd n), (1, v), (4, .bool true), (5, .slice none 0 0), (6, .int .i64 2), (7, .pointer (some ⟨h4.length, 0, none⟩)), (8, .int .i64 2), (30, .bool true)] _ _ ?_ (by simp (maxSteps := 2000000) only [vup, cond_true, cond_false, Nat.reduceBEq])
    clear hN5
    try clear N5
    refine Zk ?_
    simp (maxSteps := 2000000) only [↓Zz, vup, cond_true, cond_false, Zg, Nat.reduceBEq, Zv, Xw, tup]
  | true =>
    obtain ⟨k, hk⟩ : ∃ k : Nat, n = k := ⟨n.toNat, by simp only [Yz, Bool.and_eq_true, decide_eq_true_eq] at hval; omega⟩
    subst hk
    obtain ⟨hn2, hn5, hl1, hl6, hok⟩ := We hval
    have t1 : l.take 9 = l := List.take_of_length_le (by omega)
    rw [hval, if_pos rfl, t1, Int.toNat_natCast] at his
    rw [t1] at hib
    have hbc := beat_valid hval hib
    clear hib
    refine Zm fun M hM => ?_
    refine Ze fun N6 hN6 => ?_
    simp (maxSteps := 2000000) only [↓Za, ↓Zb, ↓Zc, vup, List.map_cons, List.map_nil, cond_true, cond_false, aop, Zg, ev, sput, Zf, unK, Nat.reduceBEq, Yv, List.nil_append, List.append_nil]
    refine (rbets_call hvH hl).mono ?_
    rintro _ H ⟨rfl, rfl⟩
    rw [hval]
    simp (maxSteps := 2000000) only [vup]
    refine hN6 [(0, Zd (k : Nat)), (1, v), (4, .bool false), (5, x), (6, .int .i64 e), (7, .pointer (some ⟨h4.length, 0, none⟩)), (8, .int .i64 f), (30, .bool false)] _ _ ?_ (by simp (maxSteps := 2000000) only [vup, cond_true, cond_false, Nat.reduceBEq])
    clear hN6
    try clear N6
    refine Xb rfl ?_
    refine Zk ?_
    simp (maxSteps := 2000000) only [↓Zu, Zg]
    refine hM [(0, Zd (k : Nat)), (1, v), (4, .bool false), (5, x), (6, .int .i64 e), (7, .pointer (some ⟨h4.length, 0, none⟩)), (8, .int .i64 f)] _ _ ?_ (by simp (maxSteps := 2000000) only [vup, cond_true, cond_false, Nat.reduceBEq])
    clear hM
    try clear M
    refine Zm fun M hM => ?_
    cases hcs : Xt k l with
    | nil =>
      rw [hcs] at his
      obtain ⟨rfl, rfl⟩ := his
      rcases hbc with ⟨_, rfl, ss, hsl, hsm, hbt, hx2⟩ | ⟨hne, _, _⟩
      case inr => exact absurd hcs hne
      refine Ze fun N7 hN7 => ?_
      simp (maxSteps := 2000000) only [↓Za, ↓Zb, ↓Zc, vup, cond_true, cond_false, aop, Zg, ev, sput, Zf, Yg, Yl, Nat.reduceBEq, e50]
      refine hN7 [(0, Zd (k : Nat)), (1, v), (4, .bool false), (5, .slice none 0 0), (6, .int .i64 5), (7, .pointer (some ⟨h4.length, 0, none⟩)), (8, .int .i64 0), (41, .bool false)] _ _ ?_ (by simp (maxSteps := 2000000) only [vup, cond_true, cond_false, Nat.reduceBEq])
      clear hN7
      try clear N7
      refine Xb rfl ?_
      refine Zk ?_
      simp (maxSteps := 2000000) only [↓Zu, Zg]
      refine hM [(0, Zd (k : Nat)), (1, v), (4, .bool false), (5, .slice none 0 0), (6, .int .i64 5), (7, .pointer (some ⟨h4.length, 0, none⟩)), (8, .int .i64 0)] _ _ ?_ (by simp (maxSteps := 2000000) only [vup, cond_true, cond_false, Nat.reduceBEq])
      clear hM
      try clear M
      obtain ⟨u3, g3, hof, hu3⟩ := of_det hvH hl
      have hE6 : Ext (fun _ => False) H (H ++ g3) := Ext.app _ _ _
      obtain ⟨h5, hh5⟩ : ∃ z, z = H ++ g3 := ⟨_, rfl⟩
      rw [← hh5] at hof hu3 hE6
      have d7 := (hE6.2 _ (Yh b7) id).trans b7
      refine Ze fun N8 hN8 => ?_
      simp only [q13_8]
      have ld76 : ∀ {z : Zh} {K : Value → Prop}, z[h4.length]? = some (.cells [.slice py my cy] 76 false) → Xn prog z 76 (.pointer (some ⟨h4.length, 0, none⟩)) K = K (.agg #[.slice py my cy]) := fun {z K} hz => loadK1 hz
      refine aw_drawR (fun z => z[h4.length]? = some (.cells [.slice py my cy] 76 false)) [(3, 5), (4, 4)] (by kernel_rfl) (by kernel_rfl) (by kernel_rfl) (by kernel_rfl) b7 ?_
      try simp (maxSteps := 2000000) only [↓dopsR_nil, ↓vdn, vup, List.map_cons, List.map_nil, cond_true, cond_false, aop, Zg, ev, sput, Zf, Nat.reduceBEq, Nat.reduceAdd, Nat.reduceLT, Bool.false_or, Bool.true_or, Yv, List.nil_append, List.append_nil]
      refine ⟨_, _, hof, by exact d7, ?_⟩
      try simp (maxSteps := 2000000) only [s13, ↓Za, ↓Zu, ↓Zw, ↓aw_block, ↓Xa, ↓Zz, ↓Zb, ↓Zc, ↓dops_nil, ↓Yr, ↓dopsR_nil, ↓vdn, vup, extr_20, extr_21, extr_30, extr_31, extr_32, List.map_cons, List.map_nil, cond_true, cond_false, aop, Zg, Zr, Zt, ev, sput, Zf, Yg, Yl, unK, Zl, pickK, Nat.reduceBEq, Nat.reduceAdd, Int.reduceBEq, Int.reduceBNe, Int.reduceLT, Zv, Xw, tup, tyf, Nat.reduceLT, Bool.false_or, Bool.true_or, Yv, List.nil_append, List.append_nil, List.toList_toArray, List.cons_append]
      refine ⟨.agg #[.slice py my cy], fun z hz => by simp only [ld76 hz], ?_⟩
      try simp (maxSteps := 2000000) only [s13, ↓Za, ↓Zu, ↓Zw, ↓aw_block, ↓Xa, ↓Zz, ↓Zb, ↓Zc, ↓dops_nil, ↓Yr, ↓dopsR_nil, ↓vdn, vup, extr_20, extr_21, extr_30, extr_31, extr_32, List.map_cons, List.map_nil, cond_true, cond_false, aop, Zg, Zr, Zt, ev, sput, Zf, Yg, Yl, unK, Zl, pickK, Nat.reduceBEq, Nat.reduceAdd, Int.reduceBEq, Int.reduceBNe, Int.reduceLT, Zv, Xw, tup, tyf, Nat.reduceLT, Bool.false_or, Bool.true_or, Yv, List.nil_append, List.append_nil, List.toList_toArray, List.cons_append]
      rw [t1] at hu3
      refine (progBeats_call (n := k) hu3 (by omega) (iExt hx2 (hE5.trans hE6)) (by omega)).mono ?_
      rintro _ h6 ⟨hE7, hr⟩
      rw [hval, if_pos rfl, Int.toNat_natCast, show btB k l ss = true by rw [btB, decide_eq_true hsl, smB_of hsm, hbt]; rfl] at hr
      rw [hr]
      refine ⟨(hE7.2 _ (Yh d7) id).trans d7, ?_⟩
      try simp (maxSteps := 2000000) only [extr_20, extr_21]
      refine hN8 [(0, Zd (k : Nat)), (1, v), (4, .bool false), (5, .slice none 0 0), (6, .int .i64 5), (7, .pointer (some ⟨h4.length, 0, none⟩)), (8, .int .i64 0), (11, .bool true), (12, .int .i64 0)] _ _ ?_ (by simp (maxSteps := 2000000) only [vup, cond_true, cond_false, Nat.reduceBEq])
      clear hN8
      try clear N8
      refine Ze fun N9 hN9 => ?_
      simp only [q13_9]
      refine Vg 7 fun N1 hN1 => ?_
      simp (maxSteps := 2000000) only [↓Za, ↓Zb, ↓Zc, ↓vdn, vup, cond_true, cond_false, aop, ev, sput, Zf, Yg, Yl, Nat.reduceBEq, List.take_succ_cons, List.take_zero, e55, z00]
      refine hN1 _ _ ?_
      clear hN1 N1
      simp only [List.drop_succ_cons, List.drop_zero]
      refine Vg 7 fun N1 hN1 => ?_
      simp (maxSteps := 2000000) only [↓Za, ↓Zb, ↓Zc, ↓vdn, vup, cond_true, cond_false, aop, ev, sput, Zf, Yg, Yl, Nat.reduceBEq, List.take_succ_cons, List.take_zero, z00]
      refine hN1 _ _ ?_
      clear hN1 N1
      simp only [List.drop_succ_cons, List.drop_zero]
      simp (maxSteps := 2000000) only [↓Za, ↓Zb, ↓Zc, ↓vdn, vup, List.map_nil, cond_true, cond_false, aop, Zg, ev, sput, Zf, Nat.reduceBEq, Yv, List.append_nil]
      refine (awake_call).mono ?_
      rintro _ h6 ⟨rfl, hE9⟩
      refine hN9 [(0, Zd (k : Nat)), (1, v), (4, .bool true), (5, .slice none 0 0), (6, .int .i64 5), (7, .pointer (some ⟨h4.length, 0, none⟩)), (8, .int .i64 0), (11, .bool true), (12, .int .i64 0)] _ _ ?_ (by simp (maxSteps := 2000000) only [vup, cond_true, cond_false, Nat.reduceBEq])
      clear hN9
      try clear N9
      refine Zk ?_
      simp (maxSteps := 2000000) only [↓Zz, vup, cond_true, cond_false, Nat.reduceBEq, Zv, Xw, tup]
    | cons c cs =>
      rw [hcs] at his
      obtain ⟨rfl, bl, rfl, hbl⟩ := his
      rcases hbc with ⟨hn, _⟩ | ⟨_, hx, rfl⟩
      · rw [hcs] at hn; cases hn
      have hblH : H[bl]? = some (.cells ((Yc (c.map ofQ)).map Zd) 26 false) := (hEx.2 _ (Yh hbl) id).trans hbl
      obtain ⟨hcl, hcf, _, _, hcn, hag⟩ := corner_facts (b := c) hval (by rw [hcs]; simp)
      have px := pairSl_cells hblH
      have hml : (c.map ofQ).length = k := by rw [List.length_map, hcl]
      rw [hml] at px
      rw [hcl]
      have hch : chances k (c.map ofQ) = true := by
        simp only [chances, Bool.and_eq_true, decide_eq_true_eq, List.all_eq_true, hml]
        exact ⟨trivial, hcn.m, hcn.le⟩
      refine Ze fun N10 hN10 => ?_
      simp (maxSteps := 2000000) only [↓Za, ↓Zb, ↓Zc, vup, cond_true, cond_false, aop, Zg, ev, sput, Zf, Yg, Yl, Nat.reduceBEq, z00]
      refine hN10 [(0, Zd (k : Nat)), (1, v), (4, .bool false), (5, .slice (some ⟨bl, 0, none⟩) k k), (6, .int .i64 0), (7, .pointer (some ⟨h4.length, 0, none⟩)), (8, .int .i64 4), (41, .bool true)] _ _ ?_ (by simp (maxSteps := 2000000) only [vup, cond_true, cond_false, Nat.reduceBEq])
      clear hN10
      try clear N10
      refine Xl rfl ?_
      refine Ze fun N11 hN11 => ?_
      simp (maxSteps := 2000000) only [↓Za, ↓Zb, ↓Zc, vup, List.map_cons, List.map_nil, cond_true, cond_false, aop, Zg, ev, sput, Zf, Nat.reduceBEq, Yv, List.nil_append, List.append_nil]
      refine (of_copy hvH hl).mono ?_
      rintro u3 h5 ⟨hu3, hE6⟩
      rw [t1] at hu3
      refine (progAgrees_call (n := k) hu3 (by omega) (px.ext hE6) (by omega) (chn_inR' hcn)).mono ?_
      rintro _ h6 ⟨hE7, hr⟩
      rw [if_pos ⟨hval, hch⟩, hag] at hr
      rw [hr]
      simp (maxSteps := 2000000) only [extr_20, extr_21]
      refine hN11 [(0, Zd (k : Nat)), (1, v), (4, .bool false), (5, .slice (some ⟨bl, 0, none⟩) k k), (6, .int .i64 0), (7, .pointer (some ⟨h4.length, 0, none⟩)), (8, .int .i64 4), (9, .bool true), (10, .int .i64 0), (41, .bool true)] _ _ ?_ (by simp (maxSteps := 2000000) only [vup, cond_true, cond_false, Nat.reduceBEq])
      clear hN11
      try clear N11
      refine Ze fun N12 hN12 => ?_
      simp only [q13_7]
      refine Vg 6 fun N1 hN1 => ?_
      simp (maxSteps := 2000000) only [↓Za, ↓Zb, ↓Zc, ↓vdn, vup, cond_true, cond_false, aop, ev, sput, Zf, Yg, Yl, Nat.reduceBEq, List.take_succ_cons, List.take_zero, e44]
      refine hN1 _ _ ?_
      clear hN1 N1
      simp only [List.drop_succ_cons, List.drop_zero]
      refine Vg 4 fun N1 hN1 => ?_
      simp (maxSteps := 2000000) only [↓Za, ↓Zb, ↓Zc, ↓vdn, vup, cond_true, cond_false, aop, ev, sput, Zf, Yg, Yl, Nat.reduceBEq, List.take_succ_cons, List.take_zero, z00]
      refine hN1 _ _ ?_
      clear hN1 N1
      simp only [List.drop_succ_cons, List.drop_zero]
      simp (maxSteps := 2000000) only [↓Za, ↓Zb, ↓Zc, ↓vdn, vup, List.map_nil, cond_true, cond_false, aop, Zg, ev, sput, Zf, Nat.reduceBEq, Yv, List.append_nil]
      refine (awake_call).mono ?_
      rintro _ h6 ⟨rfl, hE9⟩
      refine hN12 [(0, Zd (k : Nat)), (1, v), (4, .bool true), (5, .slice (some ⟨bl, 0, none⟩) k k), (6, .int .i64 0), (7, .pointer (some ⟨h4.length, 0, none⟩)), (8, .int .i64 4), (9, .bool true), (10, .int .i64 0), (41, .bool true)] _ _ ?_ (by simp (maxSteps := 2000000) only [vup, cond_true, cond_false, Nat.reduceBEq])
      clear hN12
      try clear N12
      refine Zk ?_
      simp (maxSteps := 2000000) only [↓Zz, vup, cond_true, cond_false, Zg, Nat.reduceBEq, Zv, Xw, tup]
end Go.Proofs.Try.Am
