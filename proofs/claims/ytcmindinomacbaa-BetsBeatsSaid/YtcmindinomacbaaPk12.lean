/-
  bets: one square system of gains, tried.
  bets: Beat.
  bets: a Book copied; the reference's Beats; the bets copied, with a name for what is laid.
  bets: the reference's corners; whether bets are sound.
-/
import Derived.Test.YtcmindinomacbaaPk11
import Derived.Test.YtcmindinomacbaaPk9
import Derived.Test.YtcmindinomacbaaPk5
import Derived.Test.YtcmindinomacbaaPk10
set_option linter.all false
namespace Go.Proofs.Try.Am
open Go.Am Bq
set_option maxRecDepth 100000
set_option maxHeartbeats 4000000

theorem RowsN.moreP [Tabs prog] {hp0 : Nat} {G G2 : Zh} {q rv : Value} {ws : List Value} {k b2 : Nat} {T : Xw} (R : RowsN hp0 G q ws k T) (hl : ws.length ≤ 1000) (h0 : hp0 ≤ G.length) (hE : Ext (fun _ => False) G G2) (hr : OwnP 26 G2 rv (rowC T k ws.length)) (hrb : ∀ b, Yj rv = some b → G.length ≤ b) (hb2 : G2[b2]? = some (.cells [rv] 47 false))
    {K : Value → Zh → Prop} (hk : ∀ q' h', RowsN hp0 h' q' (ws ++ [rv]) k T → Ext (fun b => hp0 ≤ b) G2 h' → Ext (fun i => Yj q = some i) G2 h' → K q' h') : Xi prog G2 103 103 q (.slice (some ⟨b2, 0, none⟩) 1 1) K := by
  rcases R with ⟨rfl, rfl⟩ | ⟨R, _⟩
  · obtain ⟨br, yr, hr1, hr2⟩ := Wb hr Vm
    have hbr : Yj rv = some br := by rw [hr1]; rfl
    have hbrl := hrb br hbr
    refine OwnV.app (e := 47) (h := G2) (v := .slice none 0 0) (ws := []) (us := [rv]) (.inl ⟨rfl, rfl⟩) app_103_103 (.inr ⟨b2, 0, none, 1, [rv], 47, false, rfl, Nat.le_refl _, by simp [view, hb2, Blk.view], rfl⟩) (fun w hw => ?_) (by simp) fun q' h' ho hE' hb' => ?_
    · rw [List.nil_append, List.mem_singleton] at hw
      rw [hw, hr1]; exact ⟨rfl, rfl⟩
    · have hE2 : Ext (fun _ => False) G2 h' := hE'.mono fun b hb => by cases hb
      refine hk q' h' (.inr ⟨⟨.inr ho, by simp, fun i hi => ?_, fun i j hi hj _ => ?_, fun i hi hc => ?_, ⟨fun b hb => ?_, fun i b hi hb => ?_⟩⟩, ho⟩) (hE2.mono fun _ h => h.elim) hE'
      · obtain rfl : i = 0 := by simpa using hi
        exact hr.ext hE2
      · simp at hi hj; omega
      · obtain rfl : i = 0 := by simpa using hi
        simp only [List.nil_append, List.getD, List.getElem?_cons_zero, Option.getD_some, hbr] at hc
        rcases hb' with h1 | ⟨b', h1, h2⟩
        · rw [h1] at hc; cases hc
        · rw [h1] at hc; cases hc
          have := Yg hr2; omega
      · rcases hb' with h1 | ⟨b', h1, h2⟩
        · rw [h1] at hb; cases hb
        · rw [h1] at hb; cases hb
          have := hE.1; omega
      · obtain rfl : i = 0 := by simpa using hi
        simp only [List.nil_append, List.getD, List.getElem?_cons_zero, Option.getD_some, hbr] at hb
        cases hb; omega
  · exact R.more hl h0 hE hr hrb hb2 fun q' h' ho R' e1 e2 => hk q' h' (.inr ⟨R', ho⟩) e1 e2

theorem setSame {h : Zh} {b : Nat} {B : Blk} (hb : h[b]? = some B) : h.set b B = h := by
  refine List.ext_getElem? fun i => ?_
  by_cases hi : b = i
  · subst hi; rw [List.getElem?_set_self (List.getElem?_eq_some_iff.1 hb).1, hb]
  · rw [List.getElem?_set_ne hi]
def gRow (l : List (Int × Int)) (w : Nat) (is : List Nat) (k : Nat) : List (Int × Int) := (List.range k).map fun c => ofQ (gnQ l w (is.getD c 0))
theorem gRow_succ (l : List (Int × Int)) (w : Nat) (is : List Nat) (k : Nat) : gRow l w is (k + 1) = gRow l w is k ++ [ofQ (gnQ l w (is.getD k 0))] := by
  rw [gRow, List.range_succ, List.map_append]; rfl
theorem gRow_full (l : List (Int × Int)) (ws is : List Nat) (r : Nat) : rowC (sysG l ws is) is.length r = gRow l (ws.getD r 0) is is.length ++ [ofQ 1] := by
  rw [rowC, List.range_succ, List.map_append, gRow]
  congr 1
  · exact List.map_congr_left fun c hc => by rw [sysG, if_pos (List.mem_range.1 hc)]
  · rw [List.map_cons, List.map_nil, sysG, if_neg (by omega)]
structure BeatEnv (h : Zh) (p1 p2 p3 p4 : Nat) (n : Nat) (v ov f : Value) (l : List (Int × Int)) (O : List Nat) : Prop where
  on : h[p1]? = some (.cells [ov] 38 false)
  ons : IntSl h ov (Wh O)
  bl : h[p2]? = some (.cells [v] 30 false)
  bls : PairSl h v l
  tb : h[p3]? = some (.cells [Zc (n : Nat), v] 86 false)
  fd : h[p4]? = some (.cells [f] 38 false)
theorem BeatEnv.ext {h h' : Zh} {p1 p2 p3 p4 n : Nat} {v ov f : Value} {l : List (Int × Int)} {O : List Nat} (b : BeatEnv h p1 p2 p3 p4 n v ov f l O) (hE : Ext (fun _ => False) h h') : BeatEnv h' p1 p2 p3 p4 n v ov f l O :=
  ⟨(hE.2 _ (Yg b.on) id).trans b.on, iExt b.ons hE, (hE.2 _ (Yg b.bl) id).trans b.bl, b.bls.ext hE, (hE.2 _ (Yg b.tb) id).trans b.tb, (hE.2 _ (Yg b.fd) id).trans b.fd⟩

def FoundAt (n : Nat) (l : List (Int × Int)) (p4 : Nat) (h' : Zh) : Prop := ∃ ss x, ss.length = l.length ∧ SmS ss ∧ Vq n l ss = true ∧ h'[p4]? = some (.cells [x] 38 false) ∧ IntSl h' x ss

theorem s85_callW [Tabs Try.prog] {args : List Value} {h : Zh} {Q : Value → Zh → Prop} (hsz : args.length ≤ 115) (hk : AWS Try.prog 115 s85 (Zs Try.prog [.tmp 6] Q) (Zt 0 args) h) : ACall Try.prog 85 args h Q :=
  Ys Try.func85 rfl (enters_of Try.func85 (by kernel_rfl) rfl) rfl rfl (by decide) s85_strip s85_ok hsz hk
theorem try_call [Tabs prog] {h : Zh} {p1 p2 p3 p4 n : Nat} {u v ov : Value} {l : List (Int × Int)} {on : Nat} {O W : List Nat} (hOn : O = Zj on l.length) (b : BeatEnv h p1 p2 p3 p4 n v ov (.slice none 0 0) l O) (hu : IntSl h u (Wh W)) (hval : Xg n l = true)
    (hO1 : 1 ≤ O.length) (hO5 : O.length ≤ 6) (hW5 : W.length ≤ 5) (hO : ∀ c, c < O.length → O.getD c 0 < l.length) (hW : ∀ r, r < W.length → W.getD r 0 < n) :
    ACall prog 85 [u, .pointer (some ⟨p1, 0, none⟩), .pointer (some ⟨p2, 0, none⟩), .pointer (some ⟨p3, 0, none⟩), .pointer (some ⟨p4, 0, none⟩)] h fun r h' => (r = .bool true ∧ Ext (fun _ => False) h h' ∧ ∀ xs, O.length = W.length → Xl W.length O.length (sysG l W O) = some xs → Vq n l (stkL on xs l.length) = false) ∨
      (r = .bool false ∧ FoundAt n l p4 h' ∧ Ext (fun b => b = p4) h h') := by
  obtain ⟨hn2, hn5, hl1, hl6, hok⟩ := Wg hval
  have hct := cts_of hval
  have hlO : (Wh O).length = O.length := Vh O
  have hlW : (Wh W).length = W.length := Vh W
  refine s85_callW (by simp) ?_
  simp only [s85]
  refine Ze fun N1 hN1 => ?_
  simp (maxSteps := 2000000) only [↓Za, ↓Zb, ↓Zd, vup, cond_false, aop, Zf, Zt, ev, sput, Zg, Nat.reduceBEq, Nat.reduceAdd]
  refine hN1 [(0, u), (1, .pointer (some ⟨p1, 0, none⟩)), (2, .pointer (some ⟨p2, 0, none⟩)), (3, .pointer (some ⟨p3, 0, none⟩)), (4, .pointer (some ⟨p4, 0, none⟩)), (6, .bool false)] _ _ ?_ (by simp (maxSteps := 2000000) only [vup, cond_true, cond_false, Nat.reduceBEq])
  clear hN1
  try clear N1
  refine Zl fun M hM => ?_
  by_cases hlen : O.length = W.length
  rotate_left
  · have hne : (((O.length : Nat) : Int) != ((W.length : Nat) : Int)) = true := by simp; omega
    refine Ze fun N2 hN2 => ?_
    simp (maxSteps := 2000000) only [↓Za, ↓Zb, ↓Zd, vup, List.map_cons, List.map_nil, cond_true, cond_false, aop, Zf, ev, sput, Zg, Yb, Ye, Zk, Nat.reduceBEq, tyf, Vw b.on Wv, b.ons.len, hu.len, hlO, hlW, hne]
    refine hN2 [(0, u), (1, .pointer (some ⟨p1, 0, none⟩)), (2, .pointer (some ⟨p2, 0, none⟩)), (3, .pointer (some ⟨p3, 0, none⟩)), (4, .pointer (some ⟨p4, 0, none⟩)), (6, .bool false), (25, .bool true)] _ _ ?_ (by simp (maxSteps := 2000000) only [vup, cond_true, cond_false, Nat.reduceBEq])
    clear hN2
    try clear N2
    refine Yu rfl ?_
    refine Zi ?_
    simp (maxSteps := 2000000) only [↓Za, ↓Zu, ↓Zx, ↓Zb, ↓Zd, vup, cond_true, cond_false, aop, Zf, ev, sput, Zg, Nat.reduceBEq, Zs, Wc, tup]
    exact .inl ⟨Ext.refl _ _, fun xs h => absurd h hlen⟩
  have hne : (((O.length : Nat) : Int) != ((W.length : Nat) : Int)) = false := by rw [hlen]; simp
  refine Ze fun N3 hN3 => ?_
  simp (maxSteps := 2000000) only [↓Za, ↓Zb, ↓Zd, vup, List.map_cons, List.map_nil, cond_true, cond_false, aop, Zf, ev, sput, Zg, Yb, Ye, Zk, Nat.reduceBEq, tyf, Vw b.on Wv, b.ons.len, hu.len, hlO, hlW, hne]
  refine hN3 [(0, u), (1, .pointer (some ⟨p1, 0, none⟩)), (2, .pointer (some ⟨p2, 0, none⟩)), (3, .pointer (some ⟨p3, 0, none⟩)), (4, .pointer (some ⟨p4, 0, none⟩)), (6, .bool false), (25, .bool false)] _ _ ?_ (by simp (maxSteps := 2000000) only [vup, cond_true, cond_false, Nat.reduceBEq])
  clear hN3
  try clear N3
  refine Yf rfl ?_
  refine Zi ?_
  simp (maxSteps := 2000000) only [↓Zr, Zf]
  refine hM [(0, u), (1, .pointer (some ⟨p1, 0, none⟩)), (2, .pointer (some ⟨p2, 0, none⟩)), (3, .pointer (some ⟨p3, 0, none⟩)), (4, .pointer (some ⟨p4, 0, none⟩)), (6, .bool false)] _ _ ?_ (by simp (maxSteps := 2000000) only [vup, cond_true, cond_false, Nat.reduceBEq])
  clear hM
  try clear M
  refine Ze fun N4 hN4 => ?_
  simp (maxSteps := 2000000) only [↓Za, ↓Zb, ↓Zd, vup, cond_false, aop, Zf, ev, sput, Zg, Nat.reduceBEq]
  refine hN4 [(0, u), (1, .pointer (some ⟨p1, 0, none⟩)), (2, .pointer (some ⟨p2, 0, none⟩)), (3, .pointer (some ⟨p3, 0, none⟩)), (4, .pointer (some ⟨p4, 0, none⟩)), (6, .bool false), (7, .slice none 0 0)] _ _ ?_ (by simp (maxSteps := 2000000) only [vup, cond_true, cond_false, Nat.reduceBEq])
  clear hN4
  try clear N4
  obtain ⟨T, hT⟩ : ∃ T, T = sysG l W O := ⟨_, rfl⟩
  refine Zl fun X hX => ?_
  refine Ze fun N5 hN5 => ?_
  simp (maxSteps := 2000000) only [↓Za, ↓Zb, ↓Zd, vup, List.map_cons, List.map_nil, cond_true, cond_false, aop, Zf, ev, sput, Zg, Zk, Nat.reduceBEq, tyf, hu.len, hlW]
  refine hN5 [(0, u), (1, .pointer (some ⟨p1, 0, none⟩)), (2, .pointer (some ⟨p2, 0, none⟩)), (3, .pointer (some ⟨p3, 0, none⟩)), (4, .pointer (some ⟨p4, 0, none⟩)), (6, .bool false), (7, .slice none 0 0), (26, u), (27, Zc W.length), (28, .int .i64 0)] _ _ ?_ (by simp (maxSteps := 2000000) only [vup, cond_true, cond_false, Nat.reduceBEq])
  clear hN5
  try clear N5
  refine Zm ?_
  refine Zo fun Qa hQa => ?_
  refine Yi (γ := Nat × Value × List Value × Zh) (fun g => g.1 ≤ W.length ∧ g.2.2.1.length = g.1 ∧ RowsN h.length g.2.2.2 g.2.1 g.2.2.1 O.length T ∧ Ext (fun _ => False) h g.2.2.2)
    (fun g => ([(0, u), (1, .pointer (some ⟨p1, 0, none⟩)), (2, .pointer (some ⟨p2, 0, none⟩)), (3, .pointer (some ⟨p3, 0, none⟩)), (4, .pointer (some ⟨p4, 0, none⟩)), (6, .bool false), (7, g.2.1), (26, u), (27, Zc W.length), (28, Zc (g.1 : Nat))], g.2.2.2)) (fun g => W.length - g.1) (0, .slice none 0 0, [], h) ⟨Nat.zero_le _, rfl, .inl ⟨rfl, rfl⟩, Ext.refl _ _⟩ (by simp (maxSteps := 2000000) only [vup, cond_true, cond_false, Nat.reduceBEq, Int.natCast_zero]) rfl ?_
  rintro ⟨r, q, ws, G⟩ ⟨hr, hwsl, R, hEG⟩
  simp only at hr hwsl R hEG
  refine Zo fun Qb hQb => ?_
  simp only [l85_1]
  have bG := b.ext hEG
  have huG := iExt hu hEG
  by_cases hrin : (r : Int) < W.length
  · have hr' : r < W.length := by omega
    have hr2 : r < (Wh W).length := by omega
    obtain ⟨w, hw⟩ : ∃ w, W.getD r 0 = w := ⟨_, rfl⟩
    have hwn := hW r hr'
    rw [hw] at hwn
    have hcw : (Wh W).getD r 0 = ((w : Nat) : Int) := by rw [← hw, Wh, List.getD, List.getElem?_map, List.getElem?_eq_getElem hr', List.getD, List.getElem?_eq_getElem hr']; rfl
    refine Ze fun N6 hN6 => ?_
    simp (maxSteps := 2000000) only [↓Za, ↓Zb, ↓Zd, vup, cond_true, cond_false, aop, Zf, ev, sput, Zg, Yb, Ye, Nat.reduceBEq, hrin]
    refine hN6 [(0, u), (1, .pointer (some ⟨p1, 0, none⟩)), (2, .pointer (some ⟨p2, 0, none⟩)), (3, .pointer (some ⟨p3, 0, none⟩)), (4, .pointer (some ⟨p4, 0, none⟩)), (6, .bool false), (7, q), (26, u), (27, Zc W.length), (28, Zc (r : Nat)), (29, .bool true)] _ _ ?_ (by simp (maxSteps := 2000000) only [vup, cond_true, cond_false, Nat.reduceBEq])
    clear hN6
    try clear N6
    refine Ze fun N7 hN7 => ?_
    simp (maxSteps := 2000000) only [↓Zr, ↓vdn, vup, cond_true, cond_false, Zf, ev, Nat.reduceBEq]
    refine hN7 [(0, u), (1, .pointer (some ⟨p1, 0, none⟩)), (2, .pointer (some ⟨p2, 0, none⟩)), (3, .pointer (some ⟨p3, 0, none⟩)), (4, .pointer (some ⟨p4, 0, none⟩)), (6, .bool false), (7, q), (26, u), (27, Zc W.length), (28, Zc (r : Nat))] _ _ ?_ (by simp (maxSteps := 2000000) only [vup, cond_true, cond_false, Nat.reduceBEq])
    clear hN7
    try clear N7
    refine Zl fun B hB => ?_
    refine Zm ?_
    refine Ze fun N8 hN8 => ?_
    simp (maxSteps := 2000000) only [↓Za, ↓Zb, ↓Zd, vup, cond_true, cond_false, aop, Zf, ev, sput, Zg, Nat.reduceBEq, huG.idx el_38 Vi hr2, huG.load Wk hr2, hcw]
    refine hN8 [(0, u), (1, .pointer (some ⟨p1, 0, none⟩)), (2, .pointer (some ⟨p2, 0, none⟩)), (3, .pointer (some ⟨p3, 0, none⟩)), (4, .pointer (some ⟨p4, 0, none⟩)), (6, .bool false), (7, q), (9, Zc (w : Nat)), (26, u), (27, Zc W.length), (28, Zc (r : Nat))] _ _ ?_ (by simp (maxSteps := 2000000) only [vup, cond_true, cond_false, Nat.reduceBEq])
    clear hN8
    try clear N8
    refine Ze fun N9 hN9 => ?_
    simp (maxSteps := 2000000) only [↓Za, ↓Zb, ↓Zd, vup, cond_false, aop, Zf, ev, sput, Zg, Nat.reduceBEq]
    refine hN9 [(0, u), (1, .pointer (some ⟨p1, 0, none⟩)), (2, .pointer (some ⟨p2, 0, none⟩)), (3, .pointer (some ⟨p3, 0, none⟩)), (4, .pointer (some ⟨p4, 0, none⟩)), (6, .bool false), (7, q), (9, Zc (w : Nat)), (10, .slice none 0 0), (26, u), (27, Zc W.length), (28, Zc (r : Nat))] _ _ ?_ (by simp (maxSteps := 2000000) only [vup, cond_true, cond_false, Nat.reduceBEq])
    clear hN9
    try clear N9
    refine Zl fun Y hY => ?_
    refine Ze fun N10 hN10 => ?_
    simp (maxSteps := 2000000) only [↓Za, ↓Zb, ↓Zd, vup, List.map_cons, List.map_nil, cond_true, cond_false, aop, Zf, ev, sput, Zg, Zk, Nat.reduceBEq, tyf, Vw bG.on Wv, bG.ons.len, hlO]
    refine hN10 [(0, u), (1, .pointer (some ⟨p1, 0, none⟩)), (2, .pointer (some ⟨p2, 0, none⟩)), (3, .pointer (some ⟨p3, 0, none⟩)), (4, .pointer (some ⟨p4, 0, none⟩)), (6, .bool false), (7, q), (9, Zc (w : Nat)), (10, .slice none 0 0), (26, u), (27, Zc W.length), (28, Zc (r : Nat)), (32, ov), (33, Zc O.length), (34, .int .i64 0)] _ _ ?_ (by simp (maxSteps := 2000000) only [vup, cond_true, cond_false, Nat.reduceBEq])
    clear hN10
    try clear N10
    refine Zm ?_
    refine Zo fun Qc hQc => ?_
    refine Yi (γ := Nat × Value × Zh) (fun g => g.1 ≤ O.length ∧ OwnP 26 g.2.2 g.2.1 (gRow l w O g.1) ∧ Ext (fun _ => False) G g.2.2 ∧ (∀ b, Yj g.2.1 = some b → G.length ≤ b))
      (fun g => ([(0, u), (1, .pointer (some ⟨p1, 0, none⟩)), (2, .pointer (some ⟨p2, 0, none⟩)), (3, .pointer (some ⟨p3, 0, none⟩)), (4, .pointer (some ⟨p4, 0, none⟩)), (6, .bool false), (7, q), (9, Zc (w : Nat)), (10, g.2.1), (26, u), (27, Zc W.length), (28, Zc (r : Nat)), (32, ov), (33, Zc O.length), (34, Zc (g.1 : Nat))], g.2.2)) (fun g => O.length - g.1) (0, .slice none 0 0, G) ⟨Nat.zero_le _, .inl ⟨rfl, rfl⟩, Ext.refl _ _, fun b hb => by cases hb⟩ (by simp (maxSteps := 2000000) only [vup, cond_true, cond_false, Nat.reduceBEq, Int.natCast_zero]) rfl ?_
    rintro ⟨c, x, D⟩ ⟨hc, hx, hED, hbx⟩
    simp only at hc hx hED hbx
    refine Zo fun Qd hQd => ?_
    simp only [l85_0]
    have bD := bG.ext hED
    by_cases hcin : (c : Int) < O.length
    · have hc' : c < O.length := by omega
      have hc2 : c < (Wh O).length := by omega
      obtain ⟨i, hi⟩ : ∃ i, O.getD c 0 = i := ⟨_, rfl⟩
      have hil := hO c hc'
      rw [hi] at hil
      have hci : (Wh O).getD c 0 = ((i : Nat) : Int) := by rw [castI_getD, hi]
      obtain ⟨⟨e0, y⟩, hxy⟩ : ∃ p, l.getD i (0, 0) = p := ⟨_, rfl⟩
      have hb := hok i hil
      rw [hxy] at hb
      simp only [okB, Bool.and_eq_true, decide_eq_true_eq] at hb
      obtain ⟨e, he⟩ : ∃ e : Nat, e0 = e := ⟨e0.toNat, by omega⟩
      subst he
      have hpow : (2 : Int) ^ n ≤ 32 := by
        have h1 : (2 : Nat) ^ n ≤ 2 ^ 5 := Nat.pow_le_pow_right (by decide) hn5
        exact_mod_cast h1
      have hgn : (if e.testBit w = true then (12 : Int) else 0) - y = gnI l w i := by rw [gnI, hxy, Int.toNat_natCast]
      have gc := fun z => gain_call (h := z) (x := e) (w := w) (y := y) (by omega) (by omega)
      simp only [hgn] at gc
      refine Ze fun N11 hN11 => ?_
      simp (maxSteps := 2000000) only [↓Za, ↓Zb, ↓Zd, vup, cond_true, cond_false, aop, Zf, ev, sput, Zg, Yb, Ye, Nat.reduceBEq, hcin]
      refine hN11 [(0, u), (1, .pointer (some ⟨p1, 0, none⟩)), (2, .pointer (some ⟨p2, 0, none⟩)), (3, .pointer (some ⟨p3, 0, none⟩)), (4, .pointer (some ⟨p4, 0, none⟩)), (6, .bool false), (7, q), (9, Zc (w : Nat)), (10, x), (26, u), (27, Zc W.length), (28, Zc (r : Nat)), (32, ov), (33, Zc O.length), (34, Zc (c : Nat)), (35, .bool true)] _ _ ?_ (by simp (maxSteps := 2000000) only [vup, cond_true, cond_false, Nat.reduceBEq])
      clear hN11
      try clear N11
      refine Ze fun N12 hN12 => ?_
      simp (maxSteps := 2000000) only [↓Zr, ↓vdn, vup, cond_true, cond_false, Zf, ev, Nat.reduceBEq]
      refine hN12 [(0, u), (1, .pointer (some ⟨p1, 0, none⟩)), (2, .pointer (some ⟨p2, 0, none⟩)), (3, .pointer (some ⟨p3, 0, none⟩)), (4, .pointer (some ⟨p4, 0, none⟩)), (6, .bool false), (7, q), (9, Zc (w : Nat)), (10, x), (26, u), (27, Zc W.length), (28, Zc (r : Nat)), (32, ov), (33, Zc O.length), (34, Zc (c : Nat))] _ _ ?_ (by simp (maxSteps := 2000000) only [vup, cond_true, cond_false, Nat.reduceBEq])
      clear hN12
      try clear N12
      refine Zl fun C hC => ?_
      refine Zm ?_
      refine Ze fun N13 hN13 => ?_
      simp (maxSteps := 2000000) only [↓Za, ↓Zb, ↓Zd, vup, cond_true, cond_false, aop, Zf, ev, sput, Zg, Nat.reduceBEq, bD.ons.idx el_38 Vi hc2, bD.ons.load Wk hc2, hci]
      refine hN13 [(0, u), (1, .pointer (some ⟨p1, 0, none⟩)), (2, .pointer (some ⟨p2, 0, none⟩)), (3, .pointer (some ⟨p3, 0, none⟩)), (4, .pointer (some ⟨p4, 0, none⟩)), (6, .bool false), (7, q), (9, Zc (w : Nat)), (10, x), (12, Zc (i : Nat)), (26, u), (27, Zc W.length), (28, Zc (r : Nat)), (32, ov), (33, Zc O.length), (34, Zc (c : Nat))] _ _ ?_ (by simp (maxSteps := 2000000) only [vup, cond_true, cond_false, Nat.reduceBEq])
      clear hN13
      try clear N13
      refine Zi ?_
      simp only [q85_11]
      refine Wz 7 fun N1 hN1 => ?_
      simp (maxSteps := 2000000) only [↓Za, ↓Zb, ↓Zd, vup, List.map_cons, List.map_nil, cond_true, cond_false, aop, ev, sput, Zg, Nat.reduceBEq, Yy, List.nil_append, List.append_nil, List.take_succ_cons, List.take_zero, Vw bD.bl shp_30, bD.bls.idx el_30 esz_92 hil, bD.bls.load shp_92 hil, hxy]
      refine ((gc D)).mono ?_
      rintro _ D ⟨rfl, rfl⟩
      refine hN1 _ _ ?_
      clear hN1 N1
      simp only [List.drop_succ_cons, List.drop_zero]
      simp (maxSteps := 2000000) only [↓Za, ↓Zb, ↓Zd, vup, List.map_cons, List.map_nil, cond_true, cond_false, aop, Zf, Zp, ev, sput, Zg, Zk, Nat.reduceBEq, Yy, List.nil_append, List.append_nil]
      refine ((show Xp prog 70 [Zc (gnI l w i)] D (qV ((gnI l w i : Int) : Rat)) from whole_call)).mono ?_
      rintro _ D ⟨rfl, rfl⟩
      simp (maxSteps := 2000000) only [qV, frV, litF]
      refine OwnP.append (hx.ext (Ext.app _ _ _)) Ue (by rw [gRow]; simp; omega) (Zz _ _) ?_
      intro x' h' ho' hE' hb'
      have e1 : gRow l w O c ++ [((((gnI l w i : Int) : Rat)).num, ((((gnI l w i : Int) : Rat)).den : Int))] = gRow l w O (c + 1) := by
        rw [gRow_succ, hi]; rfl
      rw [e1] at ho'
      obtain ⟨hE2, hbx'⟩ := oExt (H' := D) hED hbx _ hE' hb'
      refine hC [(0, u), (1, .pointer (some ⟨p1, 0, none⟩)), (2, .pointer (some ⟨p2, 0, none⟩)), (3, .pointer (some ⟨p3, 0, none⟩)), (4, .pointer (some ⟨p4, 0, none⟩)), (6, .bool false), (7, q), (9, Zc (w : Nat)), (10, x'), (26, u), (27, Zc W.length), (28, Zc (r : Nat)), (32, ov), (33, Zc O.length), (34, Zc (c : Nat))] _ _ ?_ (by simp (maxSteps := 2000000) only [vup, cond_true, cond_false, Nat.reduceBEq])
      clear hC
      try clear C
      refine Zi ?_
      simp (maxSteps := 2000000) only [↓Za, ↓Zb, ↓Zd, vup, cond_true, cond_false, aop, ev, sput, Zg, Yb, Ye, Nat.reduceBEq, Vt (show c < 9223372036854775807 by omega)]
      exact hQd _ _ _ ⟨(c + 1, x', h'), ⟨hc', ho', hE2, hbx'⟩, by simp only; omega, by simp (maxSteps := 2000000) only [vup, cond_true, cond_false, Nat.reduceBEq], rfl⟩
    · obtain rfl : O.length = c := by omega
      refine Ze fun N14 hN14 => ?_
      simp (maxSteps := 2000000) only [↓Za, ↓Zb, ↓Zd, vup, cond_true, cond_false, aop, Zf, ev, sput, Zg, Yb, Ye, Nat.reduceBEq, hcin]
      refine hN14 [(0, u), (1, .pointer (some ⟨p1, 0, none⟩)), (2, .pointer (some ⟨p2, 0, none⟩)), (3, .pointer (some ⟨p3, 0, none⟩)), (4, .pointer (some ⟨p4, 0, none⟩)), (6, .bool false), (7, q), (9, Zc (w : Nat)), (10, x), (26, u), (27, Zc W.length), (28, Zc (r : Nat)), (32, ov), (33, Zc O.length), (34, Zc O.length), (35, .bool false)] _ _ ?_ (by simp (maxSteps := 2000000) only [vup, cond_true, cond_false, Nat.reduceBEq])
      clear hN14
      try clear N14
      refine Ze fun N15 hN15 => ?_
      simp (maxSteps := 2000000) only [↓Ym, ↓vdn, vup, cond_true, cond_false, Zf, ev, Nat.reduceBEq]
      refine hQd _ _ _ (hQc _ _ _ ?_)
      simp (maxSteps := 2000000) only [Zf, Zp, if_true]
      refine hY [(0, u), (1, .pointer (some ⟨p1, 0, none⟩)), (2, .pointer (some ⟨p2, 0, none⟩)), (3, .pointer (some ⟨p3, 0, none⟩)), (4, .pointer (some ⟨p4, 0, none⟩)), (6, .bool false), (7, q), (9, Zc (w : Nat)), (10, x), (26, u), (27, Zc W.length), (28, Zc (r : Nat))] _ _ ?_ (by simp (maxSteps := 2000000) only [vup, cond_true, cond_false, Nat.reduceBEq])
      clear hY
      try clear Y
      have hrow : gRow l w O O.length ++ [((((1 : Int) : Rat)).num, ((((1 : Int) : Rat)).den : Int))] = rowC T O.length ws.length := by
        rw [hT, hwsl, gRow_full, hw]; rfl
      refine Zi ?_
      simp (maxSteps := 2000000) only [↓Za, ↓Zb, ↓Zd, vup, List.map_cons, List.map_nil, cond_true, cond_false, aop, Zf, Zp, ev, sput, Zg, Zk, Nat.reduceBEq, Yy, List.nil_append, List.append_nil]
      refine ((show Xp prog 70 [Zc 1] D (qV ((1 : Int) : Rat)) from whole_call)).mono ?_
      rintro _ D ⟨rfl, rfl⟩
      simp (maxSteps := 2000000) only [qV, frV, litF]
      refine OwnP.append (hx.ext (Ext.app _ _ _)) Ue (by rw [gRow]; simp; omega) (Zz _ _) ?_
      intro rv G3 ho3 hE3 hb3
      rw [hrow] at ho3
      obtain ⟨hEG3, hbr⟩ := oExt (H' := D) hED hbx _ hE3 hb3
      obtain ⟨bb, yy, hrv, -⟩ := Wb ho3 Vm
      have lit0 : ∀ K : Value → Zh → Prop, Yq prog G3 103 1 [(0, rv)] K = K (.slice (some ⟨G3.length, 0, none⟩) 1 1) (G3 ++ [.cells [rv] 47 false]) := fun K => by rw [hrv]; exact litV el_103 zero_47 Um
      simp (maxSteps := 2000000) only [lit0]
      refine R.moreP (by omega) (by have := hEG.1; omega) (hEG3.trans (Ext.app _ _ _)) (ho3.ext (Ext.app _ _ _)) hbr (Zz _ _) fun q' h' R' hEa hEb => ?_
      have hEh : Ext (fun _ => False) h h' := by
        have l1 := hEG3.1
        have l2 := hEa.1
        have l3 := hEG.1
        rw [List.length_append] at l2
        refine ⟨by omega, fun z hz _ => ?_⟩
        rw [hEa.2 z (by rw [List.length_append]; omega) (by omega), List.getElem?_append_left (by omega), hEG3.2 z (by omega) id]
        exact hEG.2 z hz id
      refine hB [(0, u), (1, .pointer (some ⟨p1, 0, none⟩)), (2, .pointer (some ⟨p2, 0, none⟩)), (3, .pointer (some ⟨p3, 0, none⟩)), (4, .pointer (some ⟨p4, 0, none⟩)), (6, .bool false), (7, q'), (26, u), (27, Zc W.length), (28, Zc (r : Nat))] _ _ ?_ (by simp (maxSteps := 2000000) only [vup, cond_true, cond_false, Nat.reduceBEq])
      clear hB
      try clear B
      refine Zi ?_
      simp (maxSteps := 2000000) only [↓Za, ↓Zb, ↓Zd, vup, cond_true, cond_false, aop, ev, sput, Zg, Yb, Ye, Nat.reduceBEq, Vt (show r < 9223372036854775807 by omega)]
      exact hQb _ _ _ ⟨(r + 1, q', ws ++ [rv], h'), ⟨hr', by simp [hwsl], R', hEh⟩, by simp only; omega, by simp (maxSteps := 2000000) only [vup, cond_true, cond_false, Nat.reduceBEq], rfl⟩
  · obtain rfl : W.length = r := by omega
    refine Ze fun N16 hN16 => ?_
    simp (maxSteps := 2000000) only [↓Za, ↓Zb, ↓Zd, vup, cond_true, cond_false, aop, Zf, ev, sput, Zg, Yb, Ye, Nat.reduceBEq, hrin]
    refine hN16 [(0, u), (1, .pointer (some ⟨p1, 0, none⟩)), (2, .pointer (some ⟨p2, 0, none⟩)), (3, .pointer (some ⟨p3, 0, none⟩)), (4, .pointer (some ⟨p4, 0, none⟩)), (6, .bool false), (7, q), (26, u), (27, Zc W.length), (28, Zc W.length), (29, .bool false)] _ _ ?_ (by simp (maxSteps := 2000000) only [vup, cond_true, cond_false, Nat.reduceBEq])
    clear hN16
    try clear N16
    refine Ze fun N17 hN17 => ?_
    simp (maxSteps := 2000000) only [↓Ym, ↓vdn, vup, cond_true, cond_false, Zf, ev, Nat.reduceBEq]
    refine hQb _ _ _ (hQa _ _ _ ?_)
    simp (maxSteps := 2000000) only [Zf, Zp, Zs, if_true]
    refine hX [(0, u), (1, .pointer (some ⟨p1, 0, none⟩)), (2, .pointer (some ⟨p2, 0, none⟩)), (3, .pointer (some ⟨p3, 0, none⟩)), (4, .pointer (some ⟨p4, 0, none⟩)), (6, .bool false), (7, q)] _ _ ?_ (by simp (maxSteps := 2000000) only [vup, cond_true, cond_false, Nat.reduceBEq])
    clear hX
    try clear X
    have hR2 : Rows h.length G q ws O.length T ∧ OwnV 47 G q ws := by
      rcases R with ⟨h1, _⟩ | h1
      · rw [h1] at hwsl; simp at hwsl; omega
      · exact h1
    obtain ⟨B, C, hqe, hBC, hBp, M, hbkp⟩ := hR2.1.mat hR2.2
    rw [hwsl] at hqe hBC M hbkp
    have hsolve := solve_call M hBC (by omega) (by omega) hO1 (by omega) (fun j S hj hS => by rw [hT] at hS; exact sysG_tame hct (by omega) hO hj hS)
    refine Ze fun N18 hN18 => ?_
    simp (maxSteps := 2000000) only [↓Za, ↓Zb, ↓Zd, vup, List.map_cons, List.map_nil, cond_true, cond_false, aop, Zf, ev, sput, Zg, Zk, Nat.reduceBEq, tyf, Vw bG.on Wv, bG.ons.len, hlO, hqe, Yy, List.nil_append, List.append_nil]
    refine hsolve.mono ?_
    rintro res G' ⟨hEs, x, ok, rfl, hres⟩
    simp (maxSteps := 2000000) only [Ui, Uj]
    refine hN18 [(0, u), (1, .pointer (some ⟨p1, 0, none⟩)), (2, .pointer (some ⟨p2, 0, none⟩)), (3, .pointer (some ⟨p3, 0, none⟩)), (4, .pointer (some ⟨p4, 0, none⟩)), (6, .bool false), (13, x), (14, .bool ok)] _ _ ?_ (by simp (maxSteps := 2000000) only [vup, cond_true, cond_false, Nat.reduceBEq])
    clear hN18
    try clear N18
    have hEG' : Ext (fun _ => False) h G' := by
      refine ⟨by have := hEG.1; have := hEs.1; omega, fun z hz _ => ?_⟩
      rw [hEs.2 z (by have := hEG.1; omega) (fun hc => by
        rcases hc with rfl | ⟨j, hj, rfl⟩
        · omega
        · exact absurd hz (Nat.not_lt.2 (hbkp j hj)))]
      exact hEG.2 z hz id
    have bG' := b.ext hEG'
    have hGl : h.length ≤ G.length := hEG.1
    clear hQa hQb M R hR2 hsolve hEs hqe hbkp bG huG
    refine Zl fun M hM => ?_
    cases hsol : Xl W.length O.length T with
    | none =>
      rw [hsol] at hres
      obtain ⟨rfl, rfl⟩ := hres
      refine Ze fun N19 hN19 => ?_
      simp (maxSteps := 2000000) only [↓Za, ↓Zb, ↓Zd, vup, cond_true, cond_false, aop, Zf, ev, sput, Zg, unK, Nat.reduceBEq]
      refine hN19 [(0, u), (1, .pointer (some ⟨p1, 0, none⟩)), (2, .pointer (some ⟨p2, 0, none⟩)), (3, .pointer (some ⟨p3, 0, none⟩)), (4, .pointer (some ⟨p4, 0, none⟩)), (6, .bool false), (13, .slice none 0 0), (14, .bool false), (65, .bool true)] _ _ ?_ (by simp (maxSteps := 2000000) only [vup, cond_true, cond_false, Nat.reduceBEq])
      clear hN19
      try clear N19
      refine Yu rfl ?_
      refine Zi ?_
      simp (maxSteps := 2000000) only [↓Za, ↓Zu, ↓Zx, ↓Zb, ↓Zd, vup, cond_true, cond_false, aop, Zf, ev, sput, Zg, Nat.reduceBEq, Zs, Wc, tup]
      exact .inl ⟨hEG', fun xs _ h => by rw [← hT, hsol] at h; cases h⟩
    | some xs =>
    rw [hsol] at hres
    obtain ⟨rfl, hox, hbx⟩ := hres
    refine Ze fun N20 hN20 => ?_
    simp (maxSteps := 2000000) only [↓Za, ↓Zb, ↓Zd, vup, cond_true, cond_false, aop, Zf, ev, sput, Zg, unK, Nat.reduceBEq]
    refine hN20 [(0, u), (1, .pointer (some ⟨p1, 0, none⟩)), (2, .pointer (some ⟨p2, 0, none⟩)), (3, .pointer (some ⟨p3, 0, none⟩)), (4, .pointer (some ⟨p4, 0, none⟩)), (6, .bool false), (13, x), (14, .bool true), (65, .bool false)] _ _ ?_ (by simp (maxSteps := 2000000) only [vup, cond_true, cond_false, Nat.reduceBEq])
    clear hN20
    try clear N20
    refine Yf rfl ?_
    refine Zi ?_
    simp (maxSteps := 2000000) only [↓Zr, Zf]
    refine hM [(0, u), (1, .pointer (some ⟨p1, 0, none⟩)), (2, .pointer (some ⟨p2, 0, none⟩)), (3, .pointer (some ⟨p3, 0, none⟩)), (4, .pointer (some ⟨p4, 0, none⟩)), (6, .bool false), (13, x), (14, .bool true)] _ _ ?_ (by simp (maxSteps := 2000000) only [vup, cond_true, cond_false, Nat.reduceBEq])
    clear hM
    try clear M
    rw [hT] at hsol
    obtain ⟨hxl, hbyle, hstk⟩ := sol_small (ws := W) (is := O) hct (by omega) hO (by omega) hsol
    have hxl2 : (xs.map ofQ).length = O.length := by rw [List.length_map, hxl]
    refine Ze fun N21 hN21 => ?_
    simp (maxSteps := 2000000) only [↓Za, ↓Zb, ↓Zd, vup, cond_false, aop, Zf, ev, sput, Zg, Nat.reduceBEq]
    refine hN21 [(0, u), (1, .pointer (some ⟨p1, 0, none⟩)), (2, .pointer (some ⟨p2, 0, none⟩)), (3, .pointer (some ⟨p3, 0, none⟩)), (4, .pointer (some ⟨p4, 0, none⟩)), (6, .bool false), (13, x), (14, .bool true), (15, .int .i64 1)] _ _ ?_ (by simp (maxSteps := 2000000) only [vup, cond_true, cond_false, Nat.reduceBEq])
    clear hN21
    try clear N21
    refine Zl fun X hX => ?_
    refine Ze fun N22 hN22 => ?_
    simp (maxSteps := 2000000) only [↓Za, ↓Zb, ↓Zd, vup, List.map_cons, List.map_nil, cond_true, cond_false, aop, Zf, ev, sput, Zg, Zk, Nat.reduceBEq, tyf, hox.pair.len, hxl2]
    refine hN22 [(0, u), (1, .pointer (some ⟨p1, 0, none⟩)), (2, .pointer (some ⟨p2, 0, none⟩)), (3, .pointer (some ⟨p3, 0, none⟩)), (4, .pointer (some ⟨p4, 0, none⟩)), (6, .bool false), (13, x), (14, .bool true), (15, .int .i64 1), (66, x), (67, Zc O.length), (68, .int .i64 0)] _ _ ?_ (by simp (maxSteps := 2000000) only [vup, cond_true, cond_false, Nat.reduceBEq])
    clear hN22
    try clear N22
    refine Zm ?_
    refine Zo fun Qa hQa => ?_
    refine Yi (γ := Nat × Zh) (fun g => g.1 ≤ O.length ∧ Ext (fun _ => False) G' g.2)
      (fun g => ([(0, u), (1, .pointer (some ⟨p1, 0, none⟩)), (2, .pointer (some ⟨p2, 0, none⟩)), (3, .pointer (some ⟨p3, 0, none⟩)), (4, .pointer (some ⟨p4, 0, none⟩)), (6, .bool false), (13, x), (14, .bool true), (15, Zc (Ug xs g.1 : Nat)), (66, x), (67, Zc O.length), (68, Zc (g.1 : Nat))], g.2)) (fun g => O.length - g.1) (0, G') ⟨Nat.zero_le _, Ext.refl _ _⟩ (by simp (maxSteps := 2000000) only [vup, cond_true, cond_false, Nat.reduceBEq, Int.natCast_zero, Ug, Int.natCast_one]) rfl ?_
    rintro ⟨k, D⟩ ⟨hk, hED⟩
    simp only at hk hED
    refine Zo fun Qb hQb => ?_
    simp only [l85_2]
    by_cases hkin : (k : Int) < O.length
    · have hk' : k < O.length := by omega
      have hk2 : k < (xs.map ofQ).length := by omega
      have hpx := hox.pair.ext hED
      obtain ⟨qq, hqq⟩ : ∃ qq, xs.getD k 0 = qq := ⟨_, rfl⟩
      have hxy : (xs.map ofQ).getD k (0, 0) = (qq.num, (qq.den : Int)) := by
        rw [← hqq, List.getD, List.getElem?_map, List.getElem?_eq_getElem (by omega), List.getD, List.getElem?_eq_getElem (by omega)]; rfl
      have hb1 := hbyle k (by omega)
      have hb2 := hbyle (k + 1) (by omega)
      have hb0 := byTo_pos xs k
      have hd0 := qq.den_pos
      have hdl : qq.den ≤ 29859840 := by
        have := byTo_dvd xs (show k < k + 1 by omega)
        rw [hqq] at this
        exact Nat.le_trans (Nat.le_of_dvd (byTo_pos xs _) this) hb2
      obtain ⟨D2, hD2⟩ : ∃ Z, Z = D ++ [fC qq.num qq.den] := ⟨_, rfl⟩
      have c17 : D2[D.length]? = some (fC qq.num qq.den) := by rw [hD2]; exact Zz _ _
      have hED2 : Ext (fun _ => False) G' D2 := by rw [hD2]; exact hED.trans (Ext.app _ _ _)
      have gc := gcd_call (h := D2) (a := ((Ug xs k : Nat) : Int)) (b := (qq.den : Int)) (.inl (by omega)) (by omega)
      rw [Int.natAbs_natCast, Int.natAbs_natCast] at gc
      have hg0 : 0 < Nat.gcd (Ug xs k) qq.den := Nat.gcd_pos_of_pos_left _ hb0
      have q1 : quoV .i64 ((Ug xs k : Nat) : Int) ((Nat.gcd (Ug xs k) qq.den : Nat) : Int) = ((Ug xs k / Nat.gcd (Ug xs k) qq.den : Nat) : Int) := by
        rw [quo_dvd (by omega) (by exact_mod_cast Nat.gcd_dvd_left _ _)]; rfl
      have hnx : Ug xs (k + 1) = Ug xs k / Nat.gcd (Ug xs k) qq.den * qq.den := by rw [Ug, hqq]
      have m1 : mulV .i64 ((Ug xs k / Nat.gcd (Ug xs k) qq.den : Nat) : Int) (qq.den : Int) = ((Ug xs (k + 1) : Nat) : Int) := by
        rw [hnx, mulN]
        · exact (Int.natCast_mul _ _).symm
        · rw [← Int.natCast_mul, Int.natAbs_natCast, ← hnx]; omega
      have hgne : ¬ ((Nat.gcd (Ug xs k) qq.den : Nat) : Int) = 0 := by omega
      refine Ze fun N23 hN23 => ?_
      simp (maxSteps := 2000000) only [↓Za, ↓Zb, ↓Zd, vup, cond_true, cond_false, aop, Zf, ev, sput, Zg, Yb, Ye, Nat.reduceBEq, hkin]
      refine hN23 [(0, u), (1, .pointer (some ⟨p1, 0, none⟩)), (2, .pointer (some ⟨p2, 0, none⟩)), (3, .pointer (some ⟨p3, 0, none⟩)), (4, .pointer (some ⟨p4, 0, none⟩)), (6, .bool false), (13, x), (14, .bool true), (15, Zc (Ug xs k : Nat)), (66, x), (67, Zc O.length), (68, Zc (k : Nat)), (69, .bool true)] _ _ ?_ (by simp (maxSteps := 2000000) only [vup, cond_true, cond_false, Nat.reduceBEq])
      clear hN23
      try clear N23
      refine Ze fun N24 hN24 => ?_
      simp (maxSteps := 2000000) only [↓Zr, ↓vdn, vup, cond_true, cond_false, Zf, ev, Nat.reduceBEq]
      refine hN24 [(0, u), (1, .pointer (some ⟨p1, 0, none⟩)), (2, .pointer (some ⟨p2, 0, none⟩)), (3, .pointer (some ⟨p3, 0, none⟩)), (4, .pointer (some ⟨p4, 0, none⟩)), (6, .bool false), (13, x), (14, .bool true), (15, Zc (Ug xs k : Nat)), (66, x), (67, Zc O.length), (68, Zc (k : Nat))] _ _ ?_ (by simp (maxSteps := 2000000) only [vup, cond_true, cond_false, Nat.reduceBEq])
      clear hN24
      try clear N24
      refine Zl fun B hB => ?_
      refine Zm ?_
      refine Ze fun N25 hN25 => ?_
      simp (maxSteps := 2000000) only [↓Za, ↓Zb, ↓Zd, vup, cond_true, cond_false, aop, Zf, ev, sput, Zg, Nat.reduceBEq, tyf, hpx.idx el_47 Vs hk2, hpx.load shp_26 hk2, hxy, Xo, Yn, Vr (Zz D z0) rfl, Wi]
      rw [← hD2]
      refine hN25 [(0, u), (1, .pointer (some ⟨p1, 0, none⟩)), (2, .pointer (some ⟨p2, 0, none⟩)), (3, .pointer (some ⟨p3, 0, none⟩)), (4, .pointer (some ⟨p4, 0, none⟩)), (6, .bool false), (13, x), (14, .bool true), (15, Zc (Ug xs k : Nat)), (17, .pointer (some ⟨D.length, 0, none⟩)), (66, x), (67, Zc O.length), (68, Zc (k : Nat))] _ _ ?_ (by simp (maxSteps := 2000000) only [vup, cond_true, cond_false, Nat.reduceBEq])
      clear hN25
      try clear N25
      refine Zi ?_
      simp only [q85_22]
      refine Xx [(4, 1)] (by kernel_rfl) (by kernel_rfl) (by kernel_rfl) (by kernel_rfl) ?_
      simp (maxSteps := 2000000) only [↓Yt, ↓vdn, vup, List.map_cons, List.map_nil, cond_true, cond_false, aop, Zf, Zp, ev, sput, Zg, Yb, Ye, Nat.reduceBEq, Nat.reduceAdd, tyf, fA1, Ul c17, Yy, List.nil_append, List.append_nil]
      refine ⟨_, _, gc, rfl, ?_⟩
      simp (maxSteps := 2000000) only [vup, ne_eq, hgne, not_false_eq_true, q1, m1]
      refine hB [(0, u), (1, .pointer (some ⟨p1, 0, none⟩)), (2, .pointer (some ⟨p2, 0, none⟩)), (3, .pointer (some ⟨p3, 0, none⟩)), (4, .pointer (some ⟨p4, 0, none⟩)), (6, .bool false), (13, x), (14, .bool true), (15, Zc (Ug xs (k + 1) : Nat)), (66, x), (67, Zc O.length), (68, Zc (k : Nat))] _ _ ?_ (by simp (maxSteps := 2000000) only [vup, cond_true, cond_false, Nat.reduceBEq])
      clear hB
      try clear B
      refine Zi ?_
      simp (maxSteps := 2000000) only [↓Za, ↓Zb, ↓Zd, vup, cond_true, cond_false, aop, ev, sput, Zg, Yb, Ye, Nat.reduceBEq, Vt (show k < 9223372036854775807 by omega)]
      exact hQb _ _ _ ⟨(k + 1, D2), ⟨hk', hED2⟩, by simp only; omega, by simp (maxSteps := 2000000) only [vup, cond_true, cond_false, Nat.reduceBEq], rfl⟩
    · obtain rfl : O.length = k := by omega
      refine Ze fun N26 hN26 => ?_
      simp (maxSteps := 2000000) only [↓Za, ↓Zb, ↓Zd, vup, cond_true, cond_false, aop, Zf, ev, sput, Zg, Yb, Ye, Nat.reduceBEq, hkin]
      refine hN26 [(0, u), (1, .pointer (some ⟨p1, 0, none⟩)), (2, .pointer (some ⟨p2, 0, none⟩)), (3, .pointer (some ⟨p3, 0, none⟩)), (4, .pointer (some ⟨p4, 0, none⟩)), (6, .bool false), (13, x), (14, .bool true), (15, Zc (Ug xs O.length : Nat)), (66, x), (67, Zc O.length), (68, Zc O.length), (69, .bool false)] _ _ ?_ (by simp (maxSteps := 2000000) only [vup, cond_true, cond_false, Nat.reduceBEq])
      clear hN26
      try clear N26
      refine Ze fun N27 hN27 => ?_
      simp (maxSteps := 2000000) only [↓Ym, ↓vdn, vup, cond_true, cond_false, Zf, ev, Nat.reduceBEq]
      refine hQb _ _ _ (hQa _ _ _ ?_)
      simp (maxSteps := 2000000) only [Zf, Zp, Zs, if_true]
      refine hX [(0, u), (1, .pointer (some ⟨p1, 0, none⟩)), (2, .pointer (some ⟨p2, 0, none⟩)), (3, .pointer (some ⟨p3, 0, none⟩)), (4, .pointer (some ⟨p4, 0, none⟩)), (6, .bool false), (13, x), (14, .bool true), (15, Zc (Ug xs O.length : Nat))] _ _ ?_ (by simp (maxSteps := 2000000) only [vup, cond_true, cond_false, Nat.reduceBEq])
      clear hX
      try clear X
      clear hQa hQb
      have bD := bG'.ext hED
      have hmk : ∀ {K : Value → Zh → Prop}, makeK prog D 38 (Zc l.length) (Zc l.length) K = K (.slice (some ⟨D.length, 0, none⟩) l.length l.length) (D ++ [.ints (List.replicate l.length 0) 3 false]) := fun {K} => makeI el_38 zero_3 info_3 (by omega) (by omega)
      obtain ⟨E, hE⟩ : ∃ Z, Z = D ++ [Blk.ints (List.replicate l.length 0) 3 false] := ⟨_, rfl⟩
      have hDE : Ext (fun _ => False) D E := by rw [hE]; exact Ext.app _ _ _
      have c18 : E[D.length]? = some (.ints (stkP on xs l.length 0) 3 false) := by rw [hE, Zz, stkP_zero]
      refine Ze fun N28 hN28 => ?_
      simp (maxSteps := 2000000) only [↓Za, ↓Zb, ↓Zd, vup, List.map_cons, List.map_nil, cond_true, cond_false, aop, Zf, ev, sput, Zg, Zk, Nat.reduceBEq, tyf, Vw bD.bl shp_30, bD.bls.len, hmk]
      rw [← hE]
      refine hN28 [(0, u), (1, .pointer (some ⟨p1, 0, none⟩)), (2, .pointer (some ⟨p2, 0, none⟩)), (3, .pointer (some ⟨p3, 0, none⟩)), (4, .pointer (some ⟨p4, 0, none⟩)), (6, .bool false), (13, x), (14, .bool true), (15, Zc (Ug xs O.length : Nat)), (18, .slice (some ⟨D.length, 0, none⟩) l.length l.length)] _ _ ?_ (by simp (maxSteps := 2000000) only [vup, cond_true, cond_false, Nat.reduceBEq])
      clear hN28
      try clear N28
      have bE := bD.ext hDE
      refine Zl fun X hX => ?_
      refine Ze fun N29 hN29 => ?_
      simp (maxSteps := 2000000) only [↓Za, ↓Zb, ↓Zd, vup, List.map_cons, List.map_nil, cond_true, cond_false, aop, Zf, ev, sput, Zg, Zk, Nat.reduceBEq, tyf, Vw bE.on Wv, bE.ons.len, hlO]
      refine hN29 [(0, u), (1, .pointer (some ⟨p1, 0, none⟩)), (2, .pointer (some ⟨p2, 0, none⟩)), (3, .pointer (some ⟨p3, 0, none⟩)), (4, .pointer (some ⟨p4, 0, none⟩)), (6, .bool false), (13, x), (14, .bool true), (15, Zc (Ug xs O.length : Nat)), (18, .slice (some ⟨D.length, 0, none⟩) l.length l.length), (85, ov), (86, Zc O.length), (87, .int .i64 0)] _ _ ?_ (by simp (maxSteps := 2000000) only [vup, cond_true, cond_false, Nat.reduceBEq])
      clear hN29
      try clear N29
      refine Zm ?_
      refine Zo fun Qa hQa => ?_
      refine Yi (γ := Nat) (fun g => g ≤ O.length)
        (fun g => ([(0, u), (1, .pointer (some ⟨p1, 0, none⟩)), (2, .pointer (some ⟨p2, 0, none⟩)), (3, .pointer (some ⟨p3, 0, none⟩)), (4, .pointer (some ⟨p4, 0, none⟩)), (6, .bool false), (13, x), (14, .bool true), (15, Zc (Ug xs O.length : Nat)), (18, .slice (some ⟨D.length, 0, none⟩) l.length l.length), (85, ov), (86, Zc O.length), (87, Zc (g : Nat))], E.set D.length (.ints (stkP on xs l.length g) 3 false))) (fun g => O.length - g) 0 (Nat.zero_le _) (by simp (maxSteps := 2000000) only [vup, cond_true, cond_false, Nat.reduceBEq, Int.natCast_zero]) (by show E = _; rw [setSame c18]) ?_
      rintro k hk
      refine Zo fun Qb hQb => ?_
      simp only [l85_3]
      have hDl : D.length < E.length := Yg c18
      have hDS : Ext (fun _ => False) D (E.set D.length (.ints (stkP on xs l.length k) 3 false)) := hDE.set_ge (Nat.le_refl _) _
      have bS := bD.ext hDS
      by_cases hkin : (k : Int) < O.length
      · have hk' : k < O.length := by omega
        have hk2 : k < (xs.map ofQ).length := by omega
        have hk3 : k < (Wh O).length := by omega
        obtain ⟨i, hi⟩ : ∃ i, O.getD k 0 = i := ⟨_, rfl⟩
        have hil := hO k hk'
        rw [hi] at hil
        have hki : (Wh O).getD k 0 = ((i : Nat) : Int) := by rw [castI_getD, hi]
        obtain ⟨qq, hqq⟩ : ∃ qq, xs.getD k 0 = qq := ⟨_, rfl⟩
        have hxy : (xs.map ofQ).getD k (0, 0) = (qq.num, (qq.den : Int)) := by
          rw [← hqq, List.getD, List.getElem?_map, List.getElem?_eq_getElem (by omega), List.getD, List.getElem?_eq_getElem (by omega)]; rfl
        obtain ⟨e0, e1, f1, f2, f3, f4, f5⟩ := pairFlds (hox.pair.ext (hED.trans hDS)) hk2
        rw [hxy] at f4 f5
        simp only at f4 f5
        have hst := stkI_at xs (on := on) (m := l.length) (k := k) (by rw [← hOn]; exact hk')
        have hstep := stkP_step (on := on) (m := l.length) xs (k := k) (by rw [← hOn]; exact hk')
        rw [← hOn, hi] at hst hstep
        have hby := byTo_dvd xs (show k < xs.length by omega)
        have hs2 := hstk k hk'
        rw [hqq] at hst hby hs2
        have hbl := hbyle O.length (Nat.le_refl _)
        rw [hxl] at hst hby hs2
        have hd0 := qq.den_pos
        have hdne : ¬ (qq.den : Int) = 0 := by omega
        have q1 : quoV .i64 ((Ug xs O.length : Nat) : Int) (qq.den : Int) = ((Ug xs O.length / qq.den : Nat) : Int) := by
          rw [quo_dvd (by omega) (by exact_mod_cast hby)]; rfl
        have m1 : mulV .i64 qq.num ((Ug xs O.length / qq.den : Nat) : Int) = stkI on xs i := by rw [mulN (by omega), hst]
        have c18' : (E.set D.length (.ints (stkP on xs l.length k) 3 false))[D.length]? = some (.ints (stkP on xs l.length k) 3 false) := Xz hDl _
        have hsl : IntSl (E.set D.length (.ints (stkP on xs l.length k) 3 false)) (.slice (some ⟨D.length, 0, none⟩) l.length l.length) (stkP on xs l.length k) := by
          have := intSl_blk c18'
          rwa [stkP_len] at this
        have hil2 : i < (stkP on xs l.length k).length := by rw [stkP_len]; exact hil
        refine Ze fun N30 hN30 => ?_
        simp (maxSteps := 2000000) only [↓Za, ↓Zb, ↓Zd, vup, cond_true, cond_false, aop, Zf, ev, sput, Zg, Yb, Ye, Nat.reduceBEq, hkin]
        refine hN30 [(0, u), (1, .pointer (some ⟨p1, 0, none⟩)), (2, .pointer (some ⟨p2, 0, none⟩)), (3, .pointer (some ⟨p3, 0, none⟩)), (4, .pointer (some ⟨p4, 0, none⟩)), (6, .bool false), (13, x), (14, .bool true), (15, Zc (Ug xs O.length : Nat)), (18, .slice (some ⟨D.length, 0, none⟩) l.length l.length), (85, ov), (86, Zc O.length), (87, Zc (k : Nat)), (88, .bool true)] _ _ ?_ (by simp (maxSteps := 2000000) only [vup, cond_true, cond_false, Nat.reduceBEq])
        clear hN30
        try clear N30
        refine Ze fun N31 hN31 => ?_
        simp (maxSteps := 2000000) only [↓Zr, ↓vdn, vup, cond_true, cond_false, Zf, ev, Nat.reduceBEq]
        refine hN31 [(0, u), (1, .pointer (some ⟨p1, 0, none⟩)), (2, .pointer (some ⟨p2, 0, none⟩)), (3, .pointer (some ⟨p3, 0, none⟩)), (4, .pointer (some ⟨p4, 0, none⟩)), (6, .bool false), (13, x), (14, .bool true), (15, Zc (Ug xs O.length : Nat)), (18, .slice (some ⟨D.length, 0, none⟩) l.length l.length), (85, ov), (86, Zc O.length), (87, Zc (k : Nat))] _ _ ?_ (by simp (maxSteps := 2000000) only [vup, cond_true, cond_false, Nat.reduceBEq])
        clear hN31
        try clear N31
        refine Zl fun B hB => ?_
        refine Zm ?_
        refine Ze fun N32 hN32 => ?_
        simp (maxSteps := 2000000) only [↓Za, ↓Zb, ↓Zd, vup, cond_true, cond_false, aop, Zf, ev, sput, Zg, Nat.reduceBEq, bS.ons.idx el_38 Vi hk3, bS.ons.load Wk hk3, hki]
        refine hN32 [(0, u), (1, .pointer (some ⟨p1, 0, none⟩)), (2, .pointer (some ⟨p2, 0, none⟩)), (3, .pointer (some ⟨p3, 0, none⟩)), (4, .pointer (some ⟨p4, 0, none⟩)), (6, .bool false), (13, x), (14, .bool true), (15, Zc (Ug xs O.length : Nat)), (18, .slice (some ⟨D.length, 0, none⟩) l.length l.length), (19, Zc (k : Nat)), (20, Zc (i : Nat)), (85, ov), (86, Zc O.length), (87, Zc (k : Nat))] _ _ ?_ (by simp (maxSteps := 2000000) only [vup, cond_true, cond_false, Nat.reduceBEq])
        clear hN32
        try clear N32
        refine Zi ?_
        simp only [q85_28]
        refine Xx [] (by kernel_rfl) (by kernel_rfl) (by kernel_rfl) (by kernel_rfl) ?_
        simp (maxSteps := 2000000) only [↓Yt, ↓vdn, vup, cond_true, cond_false, aop, Zf, Zp, ev, sput, Zg, Yb, Ye, Nat.reduceBEq, Nat.reduceAdd, tyf, f1, f2, f3, f4, f5, hsl.idx el_38 Vi hil2, elemP_new, ne_eq, hdne, not_false_eq_true, q1, m1, storeBI c18' Wk hil2, List.set_set, hstep]
        refine hB [(0, u), (1, .pointer (some ⟨p1, 0, none⟩)), (2, .pointer (some ⟨p2, 0, none⟩)), (3, .pointer (some ⟨p3, 0, none⟩)), (4, .pointer (some ⟨p4, 0, none⟩)), (6, .bool false), (13, x), (14, .bool true), (15, Zc (Ug xs O.length : Nat)), (18, .slice (some ⟨D.length, 0, none⟩) l.length l.length), (85, ov), (86, Zc O.length), (87, Zc (k : Nat))] _ _ ?_ (by simp (maxSteps := 2000000) only [vup, cond_true, cond_false, Nat.reduceBEq])
        clear hB
        try clear B
        refine Zi ?_
        simp (maxSteps := 2000000) only [↓Za, ↓Zb, ↓Zd, vup, cond_true, cond_false, aop, ev, sput, Zg, Yb, Ye, Nat.reduceBEq, Vt (show k < 9223372036854775807 by omega)]
        exact hQb _ _ _ ⟨k + 1, by show k + 1 ≤ O.length; omega, by omega, by simp (maxSteps := 2000000) only [vup, cond_true, cond_false, Nat.reduceBEq], rfl⟩
      · obtain rfl : O.length = k := by omega
        refine Ze fun N33 hN33 => ?_
        simp (maxSteps := 2000000) only [↓Za, ↓Zb, ↓Zd, vup, cond_true, cond_false, aop, Zf, ev, sput, Zg, Yb, Ye, Nat.reduceBEq, hkin]
        refine hN33 [(0, u), (1, .pointer (some ⟨p1, 0, none⟩)), (2, .pointer (some ⟨p2, 0, none⟩)), (3, .pointer (some ⟨p3, 0, none⟩)), (4, .pointer (some ⟨p4, 0, none⟩)), (6, .bool false), (13, x), (14, .bool true), (15, Zc (Ug xs O.length : Nat)), (18, .slice (some ⟨D.length, 0, none⟩) l.length l.length), (85, ov), (86, Zc O.length), (87, Zc O.length), (88, .bool false)] _ _ ?_ (by simp (maxSteps := 2000000) only [vup, cond_true, cond_false, Nat.reduceBEq])
        clear hN33
        try clear N33
        refine Ze fun N34 hN34 => ?_
        simp (maxSteps := 2000000) only [↓Ym, ↓vdn, vup, cond_true, cond_false, Zf, ev, Nat.reduceBEq]
        refine hQb _ _ _ (hQa _ _ _ ?_)
        simp (maxSteps := 2000000) only [Zf, Zp, Zs, if_true]
        refine hX [(0, u), (1, .pointer (some ⟨p1, 0, none⟩)), (2, .pointer (some ⟨p2, 0, none⟩)), (3, .pointer (some ⟨p3, 0, none⟩)), (4, .pointer (some ⟨p4, 0, none⟩)), (6, .bool false), (13, x), (14, .bool true), (15, Zc (Ug xs O.length : Nat)), (18, .slice (some ⟨D.length, 0, none⟩) l.length l.length)] _ _ ?_ (by simp (maxSteps := 2000000) only [vup, cond_true, cond_false, Nat.reduceBEq])
        clear hX
        try clear X
        have hfull : stkP on xs l.length O.length = stkL on xs l.length := by rw [hOn, stkP_full]
        rw [hfull] at bS hDS ⊢
        obtain ⟨F, hF⟩ : ∃ Z, Z = E.set D.length (.ints (stkL on xs l.length) 3 false) := ⟨_, rfl⟩
        rw [← hF] at bS hDS ⊢
        have cF : F[D.length]? = some (.ints (stkL on xs l.length) 3 false) := by rw [hF]; exact Xz hDl _
        have hsl : IntSl F (.slice (some ⟨D.length, 0, none⟩) l.length l.length) (stkL on xs l.length) := by
          have := intSl_blk cF
          rwa [← hfull, stkP_len, hfull] at this
        have hsms : SmS (stkL on xs l.length) := fun i => by
          rcases Nat.lt_or_ge i l.length with hi | hi
          · rw [stkL_get hi, stkI]
            split
            · rename_i hb
              have hlt := Xd hi hb
              rw [← hOn] at hlt
              have := hstk _ hlt
              omega
            · decide
          · rw [List.getD, List.getElem?_eq_none (by rw [stkL]; simpa using hi)]; decide
        have bc := beats_call bS.bls hsl hval (by rw [← hfull, stkP_len]) hsms
        refine Zl fun M hM => ?_
        refine Ze fun N35 hN35 => ?_
        simp (maxSteps := 2000000) only [↓Za, ↓Zb, ↓Zd, vup, List.map_cons, List.map_nil, cond_true, cond_false, aop, Zf, ev, sput, Zg, Nat.reduceBEq, Yy, List.nil_append, List.append_nil, loadT bS.tb]
        refine (bc).mono ?_
        rintro _ F ⟨rfl, rfl⟩
        refine hN35 [(0, u), (1, .pointer (some ⟨p1, 0, none⟩)), (2, .pointer (some ⟨p2, 0, none⟩)), (3, .pointer (some ⟨p3, 0, none⟩)), (4, .pointer (some ⟨p4, 0, none⟩)), (6, .bool false), (13, x), (14, .bool true), (15, Zc (Ug xs O.length : Nat)), (18, .slice (some ⟨D.length, 0, none⟩) l.length l.length), (111, .bool (Vq n l (stkL on xs l.length)))] _ _ ?_ (by simp (maxSteps := 2000000) only [vup, cond_true, cond_false, Nat.reduceBEq])
        clear hN35
        try clear N35
        cases hbt : Vq n l (stkL on xs l.length) with
        | true =>
          have hp4 := Yg b.fd
          have hpF := Yg bS.fd
          have hEF := hEG'.trans (hED.trans hDS)
          have hhD := (hEG'.trans hED).1
          obtain ⟨Y, hY⟩ : ∃ Z, Z = F.set p4 (.cells [.slice (some ⟨D.length, 0, none⟩) l.length l.length] 38 false) := ⟨_, rfl⟩
          have cY : Y[p4]? = some (.cells [.slice (some ⟨D.length, 0, none⟩) l.length l.length] 38 false) := by rw [hY]; exact Xz hpF _
          have hEY : Ext (fun b => b = p4) h Y := (hEF.mono fun _ h => h.elim).trans (by rw [hY]; exact Ext.set _ rfl)
          have hslY : IntSl Y (.slice (some ⟨D.length, 0, none⟩) l.length l.length) (stkL on xs l.length) := hsl.same fun b hb => by
            cases hb
            rw [hY, List.getElem?_set_ne (by omega)]
          refine Yu rfl ?_
          refine Zi ?_
          simp (maxSteps := 2000000) only [↓Za, ↓Zb, ↓Zd, vup, cond_true, cond_false, aop, Zf, ev, sput, Zg, Nat.reduceBEq, store1 (v' := .slice (some ⟨D.length, 0, none⟩) l.length l.length) bS.fd Wv rfl]
          rw [← hY]
          refine hM [(0, u), (1, .pointer (some ⟨p1, 0, none⟩)), (2, .pointer (some ⟨p2, 0, none⟩)), (3, .pointer (some ⟨p3, 0, none⟩)), (4, .pointer (some ⟨p4, 0, none⟩)), (6, .bool false), (13, x), (14, .bool true), (15, Zc (Ug xs O.length : Nat)), (18, .slice (some ⟨D.length, 0, none⟩) l.length l.length)] _ _ ?_ (by simp (maxSteps := 2000000) only [vup, cond_true, cond_false, Nat.reduceBEq])
          clear hM
          try clear M
          refine Zi ?_
          simp (maxSteps := 2000000) only [↓Za, ↓Zu, ↓Zx, ↓Zb, ↓Zd, vup, cond_true, cond_false, aop, Zf, ev, sput, Zg, Yb, Ye, Nat.reduceBEq, Zs, Wc, tup, tyf, Vw cY Wv, Option.isSome_some]
          exact .inr ⟨⟨stkL on xs l.length, _, by rw [stkL, List.length_map, List.length_range], hsms, hbt, cY, hslY⟩, hEY⟩
        | false =>
          refine Yf rfl ?_
          refine Zi ?_
          simp (maxSteps := 2000000) only [↓Zr, Zf]
          refine hM [(0, u), (1, .pointer (some ⟨p1, 0, none⟩)), (2, .pointer (some ⟨p2, 0, none⟩)), (3, .pointer (some ⟨p3, 0, none⟩)), (4, .pointer (some ⟨p4, 0, none⟩)), (6, .bool false), (13, x), (14, .bool true), (15, Zc (Ug xs O.length : Nat)), (18, .slice (some ⟨D.length, 0, none⟩) l.length l.length)] _ _ ?_ (by simp (maxSteps := 2000000) only [vup, cond_true, cond_false, Nat.reduceBEq])
          clear hM
          try clear M
          refine Zi ?_
          simp (maxSteps := 2000000) only [↓Za, ↓Zu, ↓Zx, ↓Zb, ↓Zd, vup, cond_true, cond_false, aop, Zf, ev, sput, Zg, Yb, Ye, Nat.reduceBEq, Zs, Wc, tup, tyf, Vw bS.fd Wv, Option.isSome_some]
          exact .inl ⟨hEG'.trans (hED.trans hDS), fun xs' _ h => by rw [hsol] at h; cases h; exact hbt⟩
end Go.Proofs.Try.Am

namespace Go.Proofs.Try.Am
open Go.Am Bq
set_option maxRecDepth 100000
set_option maxHeartbeats 4000000

theorem Wr {h : Zh} {v : Value} {xs : List Int} (hv : IntSl h v xs) : ∃ p n c, v = .slice p n c ∧ (xs ≠ [] → p.isSome = true) := by
  rcases hv with ⟨rfl, rfl⟩ | ⟨b, o, sp, cap, c, e, ro, rfl, _⟩
  · exact ⟨_, _, _, rfl, fun h => absurd rfl h⟩
  · exact ⟨_, _, _, rfl, fun _ => rfl⟩
theorem intSl_no {h : Zh} {v : Value} {xs : List Int} {b : Nat} {e : TypeId} {ro : Bool} (hv : IntSl h v xs) (hne : xs ≠ []) (hb : h[b]? = some (.cells [.slice none 0 0] e ro)) : Yj v ≠ some b := by
  rcases hv with ⟨rfl, rfl⟩ | ⟨b', o, sp, cap, c, e', ro', rfl, hc, hw, hx⟩
  · exact absurd rfl hne
  · intro hb'
    cases hb'
    have h0 := hx 0 (List.length_pos_iff.2 hne)
    simp only [view, hb, Blk.view, Option.bind_some, Option.some.injEq, Prod.mk.injEq] at hw
    obtain ⟨rfl, -, -⟩ := hw
    cases o with
    | zero => simp [Zc] at h0
    | succ o => simp at h0
def NoBeat (n : Nat) (l : List (Int × Int)) (on set : Nat) : Prop := ∀ xs, (Zj on l.length).length = (Zj set n).length → Xl (Zj set n).length (Zj on l.length).length (sysG l (Zj set n) (Zj on l.length)) = some xs → Vq n l (stkL on xs l.length) = false
structure BeatEnv1 (h : Zh) (pn p2 p3 p4 : Nat) (n : Nat) (v f : Value) (l : List (Int × Int)) : Prop where
  nb : h[pn]? = some (.cells [Zc (n : Nat)] 3 false)
  bl : h[p2]? = some (.cells [v] 30 false)
  bls : PairSl h v l
  tb : h[p3]? = some (.cells [Zc (n : Nat), v] 86 false)
  fd : h[p4]? = some (.cells [f] 38 false)
theorem BeatEnv1.ext {h h' : Zh} {pn p2 p3 p4 n : Nat} {v f : Value} {l : List (Int × Int)} (b : BeatEnv1 h pn p2 p3 p4 n v f l) (hE : Ext (fun _ => False) h h') : BeatEnv1 h' pn p2 p3 p4 n v f l :=
  ⟨(hE.2 _ (Yg b.nb) id).trans b.nb, (hE.2 _ (Yg b.bl) id).trans b.bl, b.bls.ext hE, (hE.2 _ (Yg b.tb) id).trans b.tb, (hE.2 _ (Yg b.fd) id).trans b.fd⟩

theorem s84_callW [Tabs Try.prog] {args : List Value} {h : Zh} {Q : Value → Zh → Prop} (hsz : args.length ≤ 12) (hk : AWS Try.prog 12 s84 (Zs Try.prog [.tmp 6] Q) (Zt 0 args) h) : ACall Try.prog 84 args h Q :=
  Ys Try.func84 rfl (enters_of Try.func84 (by kernel_rfl) rfl) rfl rfl (by decide) s84_strip s84_ok hsz hk
theorem try1_call [Tabs prog] {h : Zh} {pn p2 p3 p4 n : Nat} {u v : Value} {l : List (Int × Int)} {on : Nat} (b : BeatEnv1 h pn p2 p3 p4 n v (.slice none 0 0) l) (hu : IntSl h u (Wh (Zj on l.length))) (hval : Xg n l = true) (hon1 : 1 ≤ on) (hon : on < 2 ^ l.length) :
    ACall prog 84 [u, .pointer (some ⟨pn, 0, none⟩), .pointer (some ⟨p2, 0, none⟩), .pointer (some ⟨p3, 0, none⟩), .pointer (some ⟨p4, 0, none⟩)] h fun r h' =>
      (r = .bool true ∧ Ext (fun _ => False) h h' ∧ ∀ set, 1 ≤ set → set < 2 ^ n → NoBeat n l on set) ∨ (r = .bool false ∧ FoundAt n l p4 h' ∧ Ext (fun b => b = p4) h h') := by
  obtain ⟨hn2, hn5, hl1, hl6, hok⟩ := Wg hval
  obtain ⟨p, m, c, rfl, -⟩ := Wr hu
  obtain ⟨H, hH⟩ : ∃ H, H = h ++ [Blk.cells [.slice p m c] 38 false] := ⟨_, rfl⟩
  have hE : Ext (fun _ => False) h H := by rw [hH]; exact Ext.app _ _ _
  have c5 : H[h.length]? = some (.cells [.slice p m c] 38 false) := by rw [hH]; exact Zz _ _
  have hbx : ∀ {K : Value → Zh → Prop}, boxK prog h 38 (.slice p m c) K = K (Yn h) H := fun {K} => by
    rw [hH]; simp [boxK, esz_38, Yn, cellsOf]
  have b1 := b.ext hE
  have bE : BeatEnv H h.length p2 p3 p4 n v (.slice p m c) (.slice none 0 0) l (Zj on l.length) := ⟨c5, iExt hu hE, b1.bl, b1.bls, b1.tb, b1.fd⟩
  have hO1 : 1 ≤ (Zj on l.length).length := worldsN_pos hon1 hon
  have ch := chosen_call (h := H) (n := n) (fn := 85) (cap := #[.pointer (some ⟨h.length, 0, none⟩), .pointer (some ⟨p2, 0, none⟩), .pointer (some ⟨p3, 0, none⟩), .pointer (some ⟨p4, 0, none⟩)]) (by omega)
    (fun k h' => Ext (fun _ => False) H h' ∧ ∀ set, 1 ≤ set → set < k → NoBeat n l on set) (fun h' => FoundAt n l p4 h' ∧ Ext (fun b => b = p4) H h')
    (fun k h1 h2 hI hE2 => ⟨hI.1.trans hE2, hI.2⟩)
    (fun set hs1 hs2 h1 w hI hw hlen => (try_call (on := on) rfl (bE.ext hI.1) hw hval hO1 (Nat.le_trans (Va _ _) hl6) (Nat.le_trans (Va _ _) hn5) (fun c hc => (Xh hc).2.1) (fun r hr => (Xh hr).2.1)).mono fun r h2 hr => by
      rcases hr with ⟨rfl, hE2, hno⟩ | ⟨rfl, hfd, hE2⟩
      · refine ⟨hE2.1, true, rfl, fun _ => ⟨hI.1.trans hE2, fun set' h3 h4 => ?_⟩, fun h => by cases h⟩
        by_cases he : set' = set
        · subst he; exact hno
        · exact hI.2 set' h3 (by omega)
      · exact ⟨hE2.1, false, rfl, fun h => (by cases h), fun _ => ⟨hfd, (hI.1.mono fun _ h => h.elim).trans hE2⟩⟩)
    ⟨Ext.refl _ _, fun set h1 h2 => absurd h2 (by omega)⟩
  refine s84_callW (by simp) ?_
  simp only [s84]
  refine Ze fun N1 hN1 => ?_
  simp (maxSteps := 2000000) only [↓Za, ↓Zb, ↓Zd, vup, cond_true, cond_false, aop, Zf, Zt, ev, sput, Zg, Nat.reduceBEq, Nat.reduceAdd, hbx, Yn]
  refine hN1 [(0, .slice p m c), (1, .pointer (some ⟨pn, 0, none⟩)), (2, .pointer (some ⟨p2, 0, none⟩)), (3, .pointer (some ⟨p3, 0, none⟩)), (4, .pointer (some ⟨p4, 0, none⟩)), (5, .pointer (some ⟨h.length, 0, none⟩)), (6, .bool false)] _ _ ?_ (by simp (maxSteps := 2000000) only [vup, cond_true, cond_false, Nat.reduceBEq])
  clear hN1
  try clear N1
  refine Ze fun N2 hN2 => ?_
  simp (maxSteps := 2000000) only [↓Za, ↓Zb, ↓Zd, vup, List.map_cons, List.map_nil, cond_true, cond_false, aop, Zf, ev, sput, Zg, Nat.reduceBEq, Vw b1.nb Wk, Yy, List.nil_append, List.append_nil, List.map_toArray]
  refine ch.mono ?_
  rintro r G ⟨hlen, hor⟩
  refine hN2 [(0, .slice p m c), (1, .pointer (some ⟨pn, 0, none⟩)), (2, .pointer (some ⟨p2, 0, none⟩)), (3, .pointer (some ⟨p3, 0, none⟩)), (4, .pointer (some ⟨p4, 0, none⟩)), (5, .pointer (some ⟨h.length, 0, none⟩)), (6, .bool false)] _ _ ?_ (by simp (maxSteps := 2000000) only [vup, cond_true, cond_false, Nat.reduceBEq])
  clear hN2
  try clear N2
  refine Zi ?_
  rcases hor with ⟨hEG, hno⟩ | ⟨hfd, hEG⟩
  · simp (maxSteps := 2000000) only [↓Za, ↓Zu, ↓Zx, ↓Zb, ↓Zd, vup, cond_true, cond_false, aop, Zf, ev, sput, Zg, Yb, Ye, Nat.reduceBEq, Zs, Wc, tup, tyf, Vw (b1.ext hEG).fd Wv, Option.isSome_some]
    exact .inl ⟨hE.trans hEG, hno⟩
  · obtain ⟨ss, x, hl, hsm, hbt, cx, hx⟩ := hfd
    obtain ⟨p', m', c', rfl, hp⟩ := Wr hx
    have hps := hp (by rintro rfl; simp at hl; omega)
    obtain ⟨a, rfl⟩ := Option.isSome_iff_exists.1 hps
    simp (maxSteps := 2000000) only [↓Za, ↓Zu, ↓Zx, ↓Zb, ↓Zd, vup, cond_true, cond_false, aop, Zf, ev, sput, Zg, Yb, Ye, Nat.reduceBEq, Zs, Wc, tup, tyf, Vw cx Wv, Option.isSome_some]
    exact .inr ⟨⟨ss, _, hl, hsm, hbt, cx, hx⟩, (hE.mono fun _ h => h.elim).trans hEG⟩

def BeatIs (n : Int) (l : List (Int × Int)) (h' : Zh) (x : Value) (e : Int) : Prop :=
  if Xg n l = true then (if Xq n.toNat l = [] then e = 0 ∧ ∃ ss, ss.length = l.length ∧ SmS ss ∧ Vq n.toNat l ss = true ∧ IntSl h' x ss else x = .slice none 0 0 ∧ e = 4) else x = .slice none 0 0 ∧ e = 2
theorem cts_evs {n : Nat} {l : List (Int × Int)} (hval : Xg n l = true) : Evs n l := fun i hi => by
  obtain ⟨hn2, hn5, hl1, hl6, hok⟩ := Wg hval
  have := hok i hi
  simp only [okB, Bool.and_eq_true, decide_eq_true_eq] at this
  have h2 : ((2 ^ n : Nat) : Int) = 2 ^ n := by simp
  omega
theorem bldK0 {K : Value → Prop} : Vf prog 76 [] K = K (.agg #[.slice none 0 0]) := by
  simp [Vf, zero_76, fillL, pl_76_0]
theorem bldK {p : Option Addr} {m c : Nat} {K : Value → Prop} : Vf prog 76 [(0, .slice p m c)] K = K (.agg #[.slice p m c]) := by
  simp [Vf, zero_76, fillL, pl_76_0, Wt, cellsOf, Yk]
theorem storeK1 {h : Zh} {b : Nat} {p : Option Addr} {m k : Nat} {e : TypeId} {c : List Value} {K : Zh → Prop} (hb : h[b]? = some (.cells c e false)) (hc : c.length = 1) : Xs prog h 76 (.pointer (some ⟨b, 0, none⟩)) (.agg #[.slice p m k]) K = K (h.set b (.cells [.slice p m k] e false)) :=
  storeA (vs := [.slice p m k]) hb (by rw [shp_76]; rfl) rfl (by rw [hc]; rfl)
theorem loadK1 {h : Zh} {b : Nat} {v : Value} {K : Value → Prop} (hb : h[b]? = some (.cells [v] 76 false)) : Xj prog h 76 (.pointer (some ⟨b, 0, none⟩)) K = K (.agg #[v]) :=
  loadA hb (by rw [shp_76]; rfl)

theorem s50_callW [Tabs Try.prog] {args : List Value} {h : Zh} {Q : Value → Zh → Prop} (hsz : args.length ≤ 24) (hk : AWS Try.prog 24 s50 (Zs Try.prog [.cell 4 76, .tmp 5] Q) (Zt 0 args) h) : ACall Try.prog 50 args h Q :=
  Ys Try.func50 rfl (enters_of Try.func50 (by kernel_rfl) rfl) rfl rfl (by decide) s50_strip s50_ok hsz hk
theorem beat_call [Tabs prog] {h : Zh} {n : Int} {v : Value} {l : List (Int × Int)} (hv : PairSl h v l) (hl : l.length < 9223372036854775808) :
    ACall prog 50 [Zc n, v] h fun r h' => Ext (fun _ => False) h h' ∧ ∃ x e, r = .tuple #[.agg #[x], .int .i64 e] ∧ BeatIs n l h' x e := by
  obtain ⟨p, m, c, rfl⟩ := pairSl_shape hv
  obtain ⟨H3, hH3⟩ : ∃ H, H = h ++ [Blk.cells [Zc n] 3 false] ++ [Blk.cells [.slice p m c] 30 false] ++ [Blk.cells [.slice none 0 0] 76 false] := ⟨_, rfl⟩
  have l3 : H3.length = h.length + 3 := by rw [hH3]; simp
  have hE3 : Ext (fun _ => False) h H3 := by rw [hH3]; exact e3 ..
  have a2 : H3[h.length]? = some (.cells [Zc n] 3 false) := by rw [hH3]; exact b3_0 ..
  have a3 : H3[h.length + 1]? = some (.cells [.slice p m c] 30 false) := by rw [hH3]; exact b3_1 ..
  have a4 : H3[h.length + 2]? = some (.cells [.slice none 0 0] 76 false) := by rw [hH3]; exact b3_2 ..
  obtain ⟨H, hH⟩ : ∃ H, H = H3 ++ [Blk.cells [Zc n, .slice p m c] 86 false] := ⟨_, rfl⟩
  have hE6 : Ext (fun _ => False) H3 H := by rw [hH]; exact Ext.app _ _ _
  have c6 : H[H3.length]? = some (.cells [Zc n, .slice p m c] 86 false) := by rw [hH]; exact Zz _ _
  have lH : H.length = h.length + 4 := by rw [hH]; simp [l3]
  have c4 : H[h.length + 2]? = some (.cells [.slice none 0 0] 76 false) := (hE6.2 _ (Yg a4) id).trans a4
  have hE := hE3.trans hE6
  have hvH := hv.ext hE
  have bx3 : ∀ {h : Zh} {K : Value → Zh → Prop}, boxK prog h 3 (Zc n) K = K (Yn h) (h ++ [Blk.cells [Zc n] 3 false]) := fun {h K} => by
    simp [boxK, Vi, Yn, cellsOf]
  have bx30 : ∀ {h : Zh} {K : Value → Zh → Prop}, boxK prog h 30 (.slice p m c) K = K (Yn h) (h ++ [Blk.cells [.slice p m c] 30 false]) := fun {h K} => by
    simp [boxK, esz_30, Yn, cellsOf]
  refine s50_callW (by simp) ?_
  simp only [s50]
  refine Ze fun N3 hN3 => ?_
  simp (maxSteps := 2000000) only [↓Za, ↓Zb, ↓Zd, vup, cond_true, cond_false, aop, Zf, Zt, ev, sput, Zg, Nat.reduceBEq, Nat.reduceAdd, tyf, bx3, bx30, Yn, Xo, List.length_append, List.length_singleton, Nat.add_assoc, Nat.reduceAdd]
  rw [← hH3]
  refine hN3 [(2, .pointer (some ⟨h.length, 0, none⟩)), (3, .pointer (some ⟨h.length + 1, 0, none⟩)), (4, .pointer (some ⟨h.length + 2, 0, none⟩)), (5, .int .i64 0)] _ _ ?_ (by simp (maxSteps := 2000000) only [vup, cond_true, cond_false, Nat.reduceBEq])
  clear hN3
  try clear N3
  refine Ze fun N4 hN4 => ?_
  simp (maxSteps := 2000000) only [↓Za, ↓Zb, ↓Zd, vup, List.map_cons, List.map_nil, cond_true, cond_false, aop, Zf, ev, sput, Zg, Nat.reduceBEq, tyf, Vw a2 Wk, Vw a3 shp_30, bldT, Xo, Yn, storeT (Zz H3 (.cells [.int .i64 0, .slice none 0 0] 86 false)) rfl, Wi]
  rw [← hH]
  refine hN4 [(2, .pointer (some ⟨h.length, 0, none⟩)), (3, .pointer (some ⟨h.length + 1, 0, none⟩)), (4, .pointer (some ⟨h.length + 2, 0, none⟩)), (5, .int .i64 0), (6, .pointer (some ⟨H3.length, 0, none⟩))] _ _ ?_ (by simp (maxSteps := 2000000) only [vup, cond_true, cond_false, Nat.reduceBEq])
  clear hN4
  try clear N4
  refine Zl fun M hM => ?_
  refine Ze fun N5 hN5 => ?_
  simp (maxSteps := 2000000) only [↓Za, ↓Zb, ↓Zd, vup, List.map_cons, List.map_nil, cond_true, cond_false, aop, Zf, ev, sput, Zg, unK, Nat.reduceBEq, Yy, List.nil_append, List.append_nil, loadT c6]
  refine (valid_call hvH hl).mono ?_
  rintro _ H ⟨rfl, rfl⟩
  refine hN5 [(2, .pointer (some ⟨h.length, 0, none⟩)), (3, .pointer (some ⟨h.length + 1, 0, none⟩)), (4, .pointer (some ⟨h.length + 2, 0, none⟩)), (5, .int .i64 0), (6, .pointer (some ⟨H3.length, 0, none⟩)), (13, .bool (!Xg n l))] _ _ ?_ (by simp (maxSteps := 2000000) only [vup, cond_true, cond_false, Nat.reduceBEq])
  clear hN5
  try clear N5
  cases hval : Xg n l with
  | false =>
    refine Yu rfl ?_
    refine Zi ?_
    obtain ⟨Y, hY⟩ : ∃ Z, Z = H.set (h.length + 2) (.cells [.slice none 0 0] 76 false) := ⟨_, rfl⟩
    have cY : Y[h.length + 2]? = some (.cells [.slice none 0 0] 76 false) := by rw [hY]; exact Xz (Yg c4) _
    simp (maxSteps := 2000000) only [↓Za, ↓Zu, ↓Zx, ↓Zb, ↓Zd, vup, List.map_nil, cond_true, cond_false, aop, Zf, ev, sput, Zg, Nat.reduceBEq, Zs, Wc, tup, bldK0, storeK1 c4 rfl]
    rw [← hY]
    simp (maxSteps := 2000000) only [loadK1 cY]
    exact ⟨by rw [hY]; exact hE.set_ge (by omega) _, _, _, rfl, by rw [BeatIs, if_neg (by simp [hval])]; exact ⟨rfl, rfl⟩⟩
  | true =>
    have hn : n = (n.toNat : Int) := by
      simp only [Xg, Bool.and_eq_true, decide_eq_true_eq] at hval; omega
    obtain ⟨k, hk⟩ : ∃ k : Nat, n = k := ⟨n.toNat, hn⟩
    subst hk
    obtain ⟨hn2, hn5, hl1, hl6, hok⟩ := Wg hval
    refine Yf rfl ?_
    refine Zi ?_
    simp (maxSteps := 2000000) only [↓Zr, vup, Zf]
    refine hM [(2, .pointer (some ⟨h.length, 0, none⟩)), (3, .pointer (some ⟨h.length + 1, 0, none⟩)), (4, .pointer (some ⟨h.length + 2, 0, none⟩)), (5, .int .i64 0), (6, .pointer (some ⟨H3.length, 0, none⟩))] _ _ ?_ (by simp (maxSteps := 2000000) only [vup, cond_true, cond_false, Nat.reduceBEq])
    clear hM
    try clear M
    obtain ⟨G, hG⟩ : ∃ G, G = H ++ [Blk.cells [.slice none 0 0] 38 false] := ⟨_, rfl⟩
    have hEG : Ext (fun _ => False) H G := by rw [hG]; exact Ext.app _ _ _
    have c7 : G[H.length]? = some (.cells [.slice none 0 0] 38 false) := by rw [hG]; exact Zz _ _
    have bE : BeatEnv1 G h.length (h.length + 1) H3.length H.length k (.slice p m c) (.slice none 0 0) l :=
      ⟨((hE6.trans hEG).2 _ (Yg a2) id).trans a2, ((hE6.trans hEG).2 _ (Yg a3) id).trans a3, hvH.ext hEG, (hEG.2 _ (Yg c6) id).trans c6, c7⟩
    have ch := chosen_call (h := G) (n := l.length) (fn := 84) (cap := #[.pointer (some ⟨h.length, 0, none⟩), .pointer (some ⟨h.length + 1, 0, none⟩), .pointer (some ⟨H3.length, 0, none⟩), .pointer (some ⟨H.length, 0, none⟩)]) hl6
      (fun a h' => Ext (fun _ => False) G h' ∧ ∀ on, 1 ≤ on → on < a → ∀ set, 1 ≤ set → set < 2 ^ k → NoBeat k l on set) (fun h' => FoundAt k l H.length h' ∧ Ext (fun b => b = H.length) G h')
      (fun a h1 h2 hI hE2 => ⟨hI.1.trans hE2, hI.2⟩)
      (fun on hs1 hs2 h1 w hI hw hlen => (try1_call (on := on) (bE.ext hI.1) hw hval hs1 hs2).mono fun r h2 hr => by
        rcases hr with ⟨rfl, hE2, hno⟩ | ⟨rfl, hfd, hE2⟩
        · refine ⟨hE2.1, true, rfl, fun _ => ⟨hI.1.trans hE2, fun on' h3 h4 => ?_⟩, fun h => by cases h⟩
          by_cases he : on' = on
          · subst he; exact hno
          · exact hI.2 on' h3 (by omega)
        · exact ⟨hE2.1, false, rfl, fun h => (by cases h), fun _ => ⟨hfd, (hI.1.mono fun _ h => h.elim).trans hE2⟩⟩)
      ⟨Ext.refl _ _, fun on h1 h2 => absurd h2 (by omega)⟩
    refine Ze fun N6 hN6 => ?_
    simp (maxSteps := 2000000) only [↓Za, ↓Zb, ↓Zd, vup, cond_false, aop, Zf, sput, Zg, Nat.reduceBEq, tyf, Xo, Yn]
    rw [← hG]
    refine hN6 [(2, .pointer (some ⟨h.length, 0, none⟩)), (3, .pointer (some ⟨h.length + 1, 0, none⟩)), (4, .pointer (some ⟨h.length + 2, 0, none⟩)), (5, .int .i64 0), (6, .pointer (some ⟨H3.length, 0, none⟩)), (7, .pointer (some ⟨H.length, 0, none⟩))] _ _ ?_ (by simp (maxSteps := 2000000) only [vup, cond_true, cond_false, Nat.reduceBEq])
    clear hN6
    try clear N6
    refine Ze fun N7 hN7 => ?_
    simp (maxSteps := 2000000) only [↓Za, ↓Zb, ↓Zd, vup, List.map_cons, List.map_nil, cond_true, cond_false, aop, Zf, ev, sput, Zg, Zk, Nat.reduceBEq, tyf, Vw bE.bl shp_30, bE.bls.len, Yy, List.nil_append, List.append_nil, List.map_toArray]
    refine ch.mono ?_
    rintro r F ⟨hlen, hor⟩
    refine hN7 [(2, .pointer (some ⟨h.length, 0, none⟩)), (3, .pointer (some ⟨h.length + 1, 0, none⟩)), (4, .pointer (some ⟨h.length + 2, 0, none⟩)), (5, .int .i64 0), (6, .pointer (some ⟨H3.length, 0, none⟩)), (7, .pointer (some ⟨H.length, 0, none⟩))] _ _ ?_ (by simp (maxSteps := 2000000) only [vup, cond_true, cond_false, Nat.reduceBEq])
    clear hN7
    try clear N7
    have his : ∀ x e h', BeatIs (k : Int) l h' x e ↔ (if Xq k l = [] then e = 0 ∧ ∃ ss, ss.length = l.length ∧ SmS ss ∧ Vq k l ss = true ∧ IntSl h' x ss else x = .slice none 0 0 ∧ e = 4) := fun x e h' => by rw [BeatIs, if_pos hval, Int.toNat_natCast]
    rcases hor with ⟨hEF, hno⟩ | ⟨hfd, hEF⟩
    · have hne : Xq k l ≠ [] := fun h0 => by
        obtain ⟨on, set, xs, h1, h2, h3, h4, h5, h6, h7⟩ := beat_ex (by omega) (cts_evs hval) h0
        rw [hno on h1 h2 set h3 h4 xs h5.symm h6] at h7
        cases h7
      have c4F : F[h.length + 2]? = some (.cells [.slice none 0 0] 76 false) := ((hEG.trans hEF).2 _ (Yg c4) id).trans c4
      refine Zl fun N hN => ?_
      refine Ze fun N8 hN8 => ?_
      simp (maxSteps := 2000000) only [↓Za, ↓Zb, ↓Zd, vup, cond_true, cond_false, aop, Zf, ev, sput, Zg, Yb, Ye, Nat.reduceBEq, tyf, Vw (bE.ext hEF).fd Wv, Option.isSome_some]
      refine hN8 [(2, .pointer (some ⟨h.length, 0, none⟩)), (3, .pointer (some ⟨h.length + 1, 0, none⟩)), (4, .pointer (some ⟨h.length + 2, 0, none⟩)), (5, .int .i64 0), (6, .pointer (some ⟨H3.length, 0, none⟩)), (7, .pointer (some ⟨H.length, 0, none⟩)), (20, .bool true)] _ _ ?_ (by simp (maxSteps := 2000000) only [vup, cond_true, cond_false, Nat.reduceBEq])
      clear hN8
      try clear N8
      refine Yu rfl ?_
      refine Zi ?_
      obtain ⟨Y, hY⟩ : ∃ Z, Z = F.set (h.length + 2) (.cells [.slice none 0 0] 76 false) := ⟨_, rfl⟩
      have cY : Y[h.length + 2]? = some (.cells [.slice none 0 0] 76 false) := by rw [hY]; exact Xz (Yg c4F) _
      simp (maxSteps := 2000000) only [↓Za, ↓Zu, ↓Zx, ↓Zb, ↓Zd, vup, List.map_nil, cond_true, cond_false, aop, Zf, ev, sput, Zg, Nat.reduceBEq, Zs, Wc, tup, bldK0, storeK1 c4F rfl]
      rw [← hY]
      simp (maxSteps := 2000000) only [loadK1 cY]
      exact ⟨by rw [hY]; exact ((hE.trans hEG).trans hEF).set_ge (by omega) _, _, _, rfl, (his _ _ _).2 (by rw [if_neg hne]; exact ⟨rfl, rfl⟩)⟩
    · obtain ⟨ss, x, hsl, hsm, hbt, cx, hx⟩ := hfd
      obtain ⟨p', m', c', rfl, hp⟩ := Wr hx
      have hps := hp (by rintro rfl; simp at hsl; omega)
      obtain ⟨a, rfl⟩ := Option.isSome_iff_exists.1 hps
      have hne : Xq k l = [] := beats_unsound (cts_evs hval) hbt
      have lG : G.length = H.length + 1 := by rw [hG]; simp
      have c4G : G[h.length + 2]? = some (.cells [.slice none 0 0] 76 false) := (hEG.2 _ (Yg c4) id).trans c4
      have c4F : F[h.length + 2]? = some (.cells [.slice none 0 0] 76 false) := (hEF.2 _ (Yg c4G) (by omega)).trans c4G
      have hEF2 : Ext (fun _ => False) h F := ⟨by have := hEF.1; omega, fun i hi _ => (hEF.2 i (by omega) (by omega)).trans ((hE.trans hEG).2 i hi id)⟩
      refine Zl fun N hN => ?_
      refine Ze fun N9 hN9 => ?_
      simp (maxSteps := 2000000) only [↓Za, ↓Zb, ↓Zd, vup, cond_true, cond_false, aop, Zf, ev, sput, Zg, Yb, Ye, Nat.reduceBEq, tyf, Vw cx Wv, Option.isSome_some]
      refine hN9 [(2, .pointer (some ⟨h.length, 0, none⟩)), (3, .pointer (some ⟨h.length + 1, 0, none⟩)), (4, .pointer (some ⟨h.length + 2, 0, none⟩)), (5, .int .i64 0), (6, .pointer (some ⟨H3.length, 0, none⟩)), (7, .pointer (some ⟨H.length, 0, none⟩)), (20, .bool false)] _ _ ?_ (by simp (maxSteps := 2000000) only [vup, cond_true, cond_false, Nat.reduceBEq])
      clear hN9
      try clear N9
      refine Yf rfl ?_
      refine Zi ?_
      simp (maxSteps := 2000000) only [↓Zr, Zf]
      refine hN [(2, .pointer (some ⟨h.length, 0, none⟩)), (3, .pointer (some ⟨h.length + 1, 0, none⟩)), (4, .pointer (some ⟨h.length + 2, 0, none⟩)), (5, .int .i64 0), (6, .pointer (some ⟨H3.length, 0, none⟩)), (7, .pointer (some ⟨H.length, 0, none⟩)), (20, .bool false)] _ _ ?_ (by simp (maxSteps := 2000000) only [vup, cond_true, cond_false, Nat.reduceBEq])
      clear hN
      try clear N
      obtain ⟨Y, hY⟩ : ∃ Z, Z = F.set (h.length + 2) (.cells [.slice (some a) m' c'] 76 false) := ⟨_, rfl⟩
      have cY : Y[h.length + 2]? = some (.cells [.slice (some a) m' c'] 76 false) := by rw [hY]; exact Xz (Yg c4F) _
      have hxY : IntSl Y (.slice (some a) m' c') ss := hx.same fun b hb => by
        have hne' := intSl_no hx (by rintro rfl; simp at hsl; omega) c4F
        rw [hY, List.getElem?_set_ne (fun he => hne' (by rw [hb, he]))]
      refine Zi ?_
      simp (maxSteps := 2000000) only [↓Za, ↓Zu, ↓Zx, ↓Zb, ↓Zd, vup, List.map_cons, List.map_nil, cond_true, cond_false, aop, Zf, ev, sput, Zg, Nat.reduceBEq, Zs, Wc, tup, Vw cx Wv, bldK, storeK1 c4F rfl]
      rw [← hY]
      simp (maxSteps := 2000000) only [loadK1 cY]
      exact ⟨by rw [hY]; exact hEF2.set_ge (by omega) _, _, _, rfl, (his _ _ _).2 (by rw [if_pos hne]; exact ⟨rfl, ss, hsl, hsm, hbt, hxY⟩)⟩
end Go.Proofs.Try.Am

namespace Go.Proofs.Try.Am
open Go.Am Bq
set_option maxRecDepth 100000
set_option maxHeartbeats 4000000

theorem of_nil [Tabs prog] {h : Zh} {v : Value} (hv : PairSl h v []) : Xp prog 18 [v] h (.slice none 0 0) := by
  refine ACall.forget (.atom rfl) ?_
  refine s18_callW (by simp) ?_
  simp only [s18]
  refine Ze fun N1 hN1 => ?_
  simp (maxSteps := 2000000) only [↓Za, ↓Zb, ↓Zd, vup, cond_false, aop, Zf, Zt, ev, sput, Zg, Nat.reduceBEq]
  refine hN1 [(0, v), (2, .slice none 0 0)] _ _ ?_ (by simp (maxSteps := 2000000) only [vup, cond_true, cond_false, Nat.reduceBEq])
  clear hN1
  try clear N1
  refine Ze fun N2 hN2 => ?_
  simp (maxSteps := 2000000) only [↓Za, ↓Zb, ↓Zd, vup, cond_false, aop, Zf, ev, sput, Zg, Nat.reduceBEq]
  refine hN2 [(0, v), (2, .slice none 0 0), (3, .slice none 0 0)] _ _ ?_ (by simp (maxSteps := 2000000) only [vup, cond_true, cond_false, Nat.reduceBEq])
  clear hN2
  try clear N2
  refine Zl fun Z hZ => ?_
  refine Ze fun N3 hN3 => ?_
  simp (maxSteps := 2000000) only [↓Za, ↓Zb, ↓Zd, vup, List.map_cons, List.map_nil, cond_true, cond_false, aop, Zf, ev, sput, Zg, Zk, Nat.reduceBEq, tyf, hv.len, List.length_nil, Int.natCast_zero]
  refine hN3 [(0, v), (2, .slice none 0 0), (3, .slice none 0 0), (6, v), (7, .int .i64 0), (8, .int .i64 0)] _ _ ?_ (by simp (maxSteps := 2000000) only [vup, cond_true, cond_false, Nat.reduceBEq])
  clear hN3
  try clear N3
  refine Zm ?_
  refine Zo fun Q hQ => ?_
  refine Yi (γ := Nat) (fun s => s = 0) (fun _ => ([(0, v), (2, .slice none 0 0), (3, .slice none 0 0), (6, v), (7, .int .i64 0), (8, .int .i64 0)], h)) (fun _ => 0) 0 rfl (by simp (maxSteps := 2000000) only [vup, cond_true, cond_false, Nat.reduceBEq]) rfl ?_
  rintro k rfl
  refine Zo fun Q2 hQ2 => ?_
  simp only [l18_0]
  refine Ze fun N4 hN4 => ?_
  simp (maxSteps := 2000000) only [↓Za, ↓Zb, ↓Zd, vup, cond_true, cond_false, aop, Zf, ev, sput, Zg, Yb, Ye, Nat.reduceBEq, Int.reduceLT]
  refine hN4 [(0, v), (2, .slice none 0 0), (3, .slice none 0 0), (6, v), (7, .int .i64 0), (8, .int .i64 0), (9, .bool false)] _ _ ?_ (by simp (maxSteps := 2000000) only [vup, cond_true, cond_false, Nat.reduceBEq])
  clear hN4
  try clear N4
  refine Ze fun N5 hN5 => ?_
  simp (maxSteps := 2000000) only [↓Ym, ↓vdn, vup, cond_true, cond_false, Zf, ev, Nat.reduceBEq]
  refine hQ2 _ _ _ (hQ _ _ _ ?_)
  simp (maxSteps := 2000000) only [Zf, Zp, Zs, if_true]
  refine hZ [(0, v), (2, .slice none 0 0), (3, .slice none 0 0), (9, .bool false)] _ _ ?_ (by simp (maxSteps := 2000000) only [vup, cond_true, cond_false, Nat.reduceBEq])
  clear hZ
  try clear Z
  refine Zi ?_
  simp (maxSteps := 2000000) only [↓Za, ↓Zu, ↓Zx, ↓Zb, ↓Zd, vup, cond_true, cond_false, aop, Zf, ev, sput, Zg, Nat.reduceBEq, Zs, Wc, tup]
  exact Ext.refl _ _
theorem of_det [Tabs prog] {h : Zh} {v : Value} {l : List (Int × Int)} (hv : PairSl h v l) (hl : l.length < 9223372036854775808) : ∃ v' g, ADet prog 18 [v] h v' (h ++ g) ∧ PairSl (h ++ g) v' (l.take 9) := by
  by_cases hne : l = []
  · subst hne
    exact ⟨_, [], by rw [List.append_nil]; exact of_nil hv, .inl ⟨rfl, rfl⟩⟩
  · have hne9 : l.take 9 ≠ [] := by
      cases l with
      | nil => exact absurd rfl hne
      | cons a l => simp
    refine ⟨_, _, (of_own hv hl).named hne9, OwnP.pair (e := 92) (.inr ⟨h.length, [], rfl, ?_⟩)⟩
    rw [Zz]; simp [Yd]
theorem min9 (n : Nat) : (if (9 : Int) < n then 9 else (n : Int)) = ((min n 9 : Nat) : Int) := by split <;> omega
theorem intSl_set {h : Zh} {v y : Value} {xs : List Int} {b : Nat} {e e2 : TypeId} {ro : Bool} (hv : IntSl h v xs) (hb : h[b]? = some (.cells [.slice none 0 0] e ro)) : IntSl (h.set b (.cells [y] e2 false)) v xs := by
  by_cases hne : xs = []
  · subst hne
    rcases hv with ⟨rfl, _⟩ | ⟨b', o, sp, cap, c, e', ro', rfl, hc, hw, hx⟩
    · exact .inl ⟨rfl, rfl⟩
    · by_cases hbb : b' = b
      · subst hbb
        exact .inr ⟨b', o, sp, cap, [y], e2, false, rfl, hc, by simp only [view, Xz (Yg hb)]; rfl, fun i hi => absurd hi (Nat.not_lt_zero i)⟩
      · exact .inr ⟨b', o, sp, cap, c, e', ro', rfl, hc, by rw [← hw]; simp only [view, List.getElem?_set_ne (Ne.symm hbb)], hx⟩
  · exact hv.same fun b' hb' => List.getElem?_set_ne (by rintro rfl; exact intSl_no hv hne hb hb')

theorem s52_callW [Tabs Try.prog] {args : List Value} {h : Zh} {Q : Value → Zh → Prop} (hsz : args.length ≤ 12) (hk : AWS Try.prog 12 s52 (Zs Try.prog [.cell 2 76] Q) (Zt 0 args) h) : ACall Try.prog 52 args h Q :=
  Ys Try.func52 rfl (enters_of Try.func52 (by kernel_rfl) rfl) rfl rfl (by decide) s52_strip s52_ok hsz hk
theorem book_call [Tabs prog] {h : Zh} {u : Value} {ss : List Int} (hu : IntSl h u ss) : ACall prog 52 [.agg #[u]] h fun r h' => Ext (fun _ => False) h h' ∧ ∃ u', r = .agg #[u'] ∧ IntSl h' u' (ss.take 9) := by
  obtain ⟨p, m, c, rfl, -⟩ := Wr hu
  obtain ⟨H, hH⟩ : ∃ H, H = h ++ [Blk.cells [.slice p m c] 75 false] ++ [Blk.cells [.slice none 0 0] 76 false] := ⟨_, rfl⟩
  have hE : Ext (fun _ => False) h H := by rw [hH]; exact e2 ..
  have b1 : H[h.length]? = some (.cells [.slice p m c] 75 false) := by rw [hH]; exact b2_0 ..
  have b2 : H[h.length + 1]? = some (.cells [.slice none 0 0] 76 false) := by rw [hH]; exact b2_1 ..
  have hbx : ∀ {K : Value → Zh → Prop}, boxK prog h 75 (.agg #[.slice p m c]) K = K (Yn h) (h ++ [Blk.cells [.slice p m c] 75 false]) := fun {K} => by
    simp [boxK, esz_75, Yn, cellsOf]
  have l1 : ∀ {K : Value → Prop}, Xj prog H 38 (.pointer (some ⟨h.length, 0, none⟩)) K = K (.slice p m c) := fun {K} => loadC b1 Wv rfl
  have f1 : ∀ {K : Value → Prop}, Yh prog 75 (.pointer (some ⟨h.length, 0, none⟩)) 0 K = K (.pointer (some ⟨h.length, 0, none⟩)) := fun {K} => fldA fld_75_0 esz_38
  have huH := iExt hu hE
  refine s52_callW (by simp) ?_
  simp only [s52]
  refine Ze fun N6 hN6 => ?_
  simp (maxSteps := 2000000) only [↓Za, ↓Zb, ↓Zd, vup, cond_true, cond_false, aop, Zf, Zt, ev, sput, Zg, Nat.reduceBEq, tyf, hbx, Yn, Xo, List.length_append, List.length_singleton]
  rw [← hH]
  refine hN6 [(1, .pointer (some ⟨h.length, 0, none⟩)), (2, .pointer (some ⟨h.length + 1, 0, none⟩))] _ _ ?_ (by simp (maxSteps := 2000000) only [vup, cond_true, cond_false, Nat.reduceBEq])
  clear hN6
  try clear N6
  refine Zi ?_
  simp (maxSteps := 2000000) only [↓Za, ↓Zu, ↓Zx, ↓Zb, ↓Zd, vup, List.map_cons, List.map_nil, cond_true, cond_false, aop, Zf, ev, sput, Zg, Zk, Nat.reduceBEq, Zs, Wc, tup, tyf, f1, l1, huH.len, mmK, Bool.false_eq_true, if_false, gt_iff_lt, min9, Option.map_none, Option.map_some]
  refine huH.pre el_38 Vi (Nat.min_le_left _ _) ?_
  intro v' hv'
  rw [take_min] at hv'
  simp (maxSteps := 2000000) only [Yy, List.nil_append, List.append_nil]
  refine (clone_call hv' (by simp; omega)).mono ?_
  rintro r G ⟨hr, hEG⟩
  obtain ⟨p', m', c', rfl, -⟩ := Wr hr
  have b2G := (hEG.2 _ (Yg b2) id).trans b2
  obtain ⟨Y, hY⟩ : ∃ Z, Z = G.set (h.length + 1) (.cells [.slice p' m' c'] 76 false) := ⟨_, rfl⟩
  have cY : Y[h.length + 1]? = some (.cells [.slice p' m' c'] 76 false) := by rw [hY]; exact Xz (Yg b2G) _
  simp (maxSteps := 2000000) only [bldK, storeK1 b2G rfl]
  rw [← hY]
  simp (maxSteps := 2000000) only [loadK1 cY]
  exact ⟨by rw [hY]; exact (hE.trans hEG).set_ge (by omega) _, _, rfl, by rw [hY]; exact intSl_set hr b2G⟩

theorem s54_callW [Tabs Try.prog] {args : List Value} {h : Zh} {Q : Value → Zh → Prop} (hsz : args.length ≤ 6) (hk : AWS Try.prog 6 s54 (Zs Try.prog [.cell 2 75] Q) (Zt 0 args) h) : ACall Try.prog 54 args h Q :=
  Ys Try.func54 rfl (enters_of Try.func54 (by kernel_rfl) rfl) rfl rfl (by decide) s54_strip s54_ok hsz hk
theorem own_call [Tabs prog] {h : Zh} {u : Value} {ss : List Int} (hu : IntSl h u ss) : ACall prog 54 [.agg #[u]] h fun r h' => Ext (fun _ => False) h h' ∧ r = .agg #[u] := by
  obtain ⟨p, m, c, rfl, -⟩ := Wr hu
  obtain ⟨H, hH⟩ : ∃ H, H = h ++ [Blk.cells [.slice p m c] 76 false] ++ [Blk.cells [.slice none 0 0] 75 false] := ⟨_, rfl⟩
  have hE : Ext (fun _ => False) h H := by rw [hH]; exact e2 ..
  have b1 : H[h.length]? = some (.cells [.slice p m c] 76 false) := by rw [hH]; exact b2_0 ..
  have b2 : H[h.length + 1]? = some (.cells [.slice none 0 0] 75 false) := by rw [hH]; exact b2_1 ..
  have hbx : ∀ {K : Value → Zh → Prop}, boxK prog h 76 (.agg #[.slice p m c]) K = K (Yn h) (h ++ [Blk.cells [.slice p m c] 76 false]) := fun {K} => by
    simp [boxK, esz_76, Yn, cellsOf]
  have l1 : ∀ {K : Value → Prop}, Xj prog H 38 (.pointer (some ⟨h.length, 0, none⟩)) K = K (.slice p m c) := fun {K} => loadC b1 Wv rfl
  have f1 : ∀ {K : Value → Prop}, Yh prog 76 (.pointer (some ⟨h.length, 0, none⟩)) 0 K = K (.pointer (some ⟨h.length, 0, none⟩)) := fun {K} => fldA fld_76_0 esz_38
  have bld : ∀ {K : Value → Prop}, Vf prog 75 [(0, .slice p m c)] K = K (.agg #[.slice p m c]) := fun {K} => by
    simp [Vf, zero_75, fillL, pl_75_0, Wt, cellsOf, Yk]
  obtain ⟨Y, hY⟩ : ∃ Z, Z = H.set (h.length + 1) (.cells [.slice p m c] 75 false) := ⟨_, rfl⟩
  have cY : Y[h.length + 1]? = some (.cells [.slice p m c] 75 false) := by rw [hY]; exact Xz (Yg b2) _
  have st : ∀ {K : Zh → Prop}, Xs prog H 75 (.pointer (some ⟨h.length + 1, 0, none⟩)) (.agg #[.slice p m c]) K = K Y := fun {K} => by
    rw [hY]; exact storeA (vs := [.slice p m c]) b2 (by rw [shp_75]; rfl) rfl rfl
  have ld : ∀ {K : Value → Prop}, Xj prog Y 75 (.pointer (some ⟨h.length + 1, 0, none⟩)) K = K (.agg #[.slice p m c]) := fun {K} => loadA cY (by rw [shp_75]; rfl)
  refine s54_callW (by simp) ?_
  simp only [s54]
  refine Ze fun N7 hN7 => ?_
  simp (maxSteps := 2000000) only [↓Za, ↓Zb, ↓Zd, vup, cond_true, cond_false, aop, Zf, Zt, ev, sput, Zg, Nat.reduceBEq, tyf, hbx, Yn, Xo, List.length_append, List.length_singleton]
  rw [← hH]
  refine hN7 [(1, .pointer (some ⟨h.length, 0, none⟩)), (2, .pointer (some ⟨h.length + 1, 0, none⟩))] _ _ ?_ (by simp (maxSteps := 2000000) only [vup, cond_true, cond_false, Nat.reduceBEq])
  clear hN7
  try clear N7
  refine Zi ?_
  simp (maxSteps := 2000000) only [↓Za, ↓Zu, ↓Zx, ↓Zb, ↓Zd, vup, List.map_cons, List.map_nil, cond_true, cond_false, aop, Zf, ev, sput, Zg, Nat.reduceBEq, Zs, Wc, tup, f1, l1, bld, st, ld]
  rw [hY]
  exact hE.set_ge (by omega) _

theorem s53_callW [Tabs Try.prog] {args : List Value} {h : Zh} {Q : Value → Zh → Prop} (hsz : args.length ≤ 65) (hk : AWS Try.prog 65 s53 (Zs Try.prog [.tmp 6] Q) (Zt 0 args) h) : ACall Try.prog 53 args h Q :=
  Ys Try.func53 rfl (enters_of Try.func53 (by kernel_rfl) rfl) rfl rfl (by decide) s53_strip s53_ok hsz hk
theorem rbeats_call [Tabs prog] {h : Zh} {n : Nat} {v u : Value} {l : List (Int × Int)} {ss : List Int} (hv : PairSl h v l) (hu : IntSl h u ss) (hval : Xg n l = true) (hls : ss.length < 9223372036854775808) :
    Xp prog 53 [Zc (n : Nat), v, .agg #[u]] h (.bool (btB n l ss)) := by
  refine ACall.forget (Low.bool _) ?_
  obtain ⟨hn2, hn5, hl1, hl6, hok⟩ := Wg hval
  have hct := cts_of hval
  obtain ⟨p, m, c, rfl, -⟩ := Wr hu
  obtain ⟨H, hH⟩ : ∃ H, H = h ++ [Blk.cells [.slice p m c] 75 false] := ⟨_, rfl⟩
  have hE : Ext (fun _ => False) h H := by rw [hH]; exact Ext.app _ _ _
  have b5 : H[h.length]? = some (.cells [.slice p m c] 75 false) := by rw [hH]; exact Zz _ _
  have hvH := hv.ext hE
  have huH := iExt hu hE
  have hbx : ∀ {K : Value → Zh → Prop}, boxK prog h 75 (.agg #[.slice p m c]) K = K (Yn h) H := fun {K} => by
    rw [hH]; simp [boxK, esz_75, Yn, cellsOf]
  have l5 : ∀ {G : Zh} {K : Value → Prop}, G[h.length]? = some (.cells [.slice p m c] 75 false) → Xj prog G 38 (.pointer (some ⟨h.length, 0, none⟩)) K = K (.slice p m c) := fun {G K} hb => loadC hb Wv rfl
  have f5 : ∀ {K : Value → Prop}, Yh prog 75 (.pointer (some ⟨h.length, 0, none⟩)) 0 K = K (.pointer (some ⟨h.length, 0, none⟩)) := fun {K} => fldA fld_75_0 esz_38
  refine s53_callW (by simp) ?_
  simp only [s53]
  refine Ze fun N8 hN8 => ?_
  simp (maxSteps := 2000000) only [↓Za, ↓Zb, ↓Zd, vup, cond_true, cond_false, aop, Zf, Zt, ev, sput, Zg, Nat.reduceBEq, Nat.reduceAdd, hbx, Yn]
  refine hN8 [(0, Zc (n : Nat)), (1, v), (5, .pointer (some ⟨h.length, 0, none⟩)), (6, .bool false)] _ _ ?_ (by simp (maxSteps := 2000000) only [vup, cond_true, cond_false, Nat.reduceBEq])
  clear hN8
  try clear N8
  by_cases hlen : ss.length = l.length
  case neg =>
    have hne : (((ss.length : Nat) : Int) != ((l.length : Nat) : Int)) = true := by
      rw [bne_iff_ne]; omega
    refine Zl fun A hA => ?_
    refine Ze fun N9 hN9 => ?_
    simp (maxSteps := 2000000) only [↓Za, ↓Zb, ↓Zd, vup, List.map_cons, List.map_nil, cond_true, cond_false, aop, Zf, ev, sput, Zg, Yb, Ye, Zk, Nat.reduceBEq, tyf, f5, l5 b5, huH.len, hvH.len, hne]
    refine hN9 [(0, Zc (n : Nat)), (1, v), (5, .pointer (some ⟨h.length, 0, none⟩)), (6, .bool false), (18, .bool true)] _ _ ?_ (by simp (maxSteps := 2000000) only [vup, cond_true, cond_false, Nat.reduceBEq])
    clear hN9
    try clear N9
    refine Yu rfl ?_
    refine Zi ?_
    simp (maxSteps := 2000000) only [↓Za, ↓Zu, ↓Zx, ↓Zb, ↓Zd, vup, cond_true, cond_false, aop, Zf, ev, sput, Zg, Nat.reduceBEq, Zs, Wc, tup, btB, decide_eq_false hlen, Bool.false_and]
    exact hE
  have hne : (((ss.length : Nat) : Int) != ((l.length : Nat) : Int)) = false := by rw [hlen]; simp
  refine Zl fun A hA => ?_
  refine Ze fun N10 hN10 => ?_
  simp (maxSteps := 2000000) only [↓Za, ↓Zb, ↓Zd, vup, List.map_cons, List.map_nil, cond_true, cond_false, aop, Zf, ev, sput, Zg, Yb, Ye, Zk, Nat.reduceBEq, tyf, f5, l5 b5, huH.len, hvH.len, hne]
  refine hN10 [(0, Zc (n : Nat)), (1, v), (5, .pointer (some ⟨h.length, 0, none⟩)), (6, .bool false), (18, .bool false)] _ _ ?_ (by simp (maxSteps := 2000000) only [vup, cond_true, cond_false, Nat.reduceBEq])
  clear hN10
  try clear N10
  refine Yf rfl ?_
  refine Zi ?_
  simp (maxSteps := 2000000) only [↓Zr, Zf]
  refine hA [(0, Zc (n : Nat)), (1, v), (5, .pointer (some ⟨h.length, 0, none⟩)), (6, .bool false)] _ _ ?_ (by simp (maxSteps := 2000000) only [vup, cond_true, cond_false, Nat.reduceBEq])
  clear hA
  try clear A
  refine Zl fun Z hZ => ?_
  refine Ze fun N11 hN11 => ?_
  simp (maxSteps := 2000000) only [↓Za, ↓Zb, ↓Zd, vup, List.map_cons, List.map_nil, cond_true, cond_false, aop, Zf, ev, sput, Zg, Zk, Nat.reduceBEq, tyf, f5, l5 b5, huH.len]
  refine hN11 [(0, Zc (n : Nat)), (1, v), (5, .pointer (some ⟨h.length, 0, none⟩)), (6, .bool false), (19, .pointer (some ⟨h.length, 0, none⟩)), (20, .slice p m c), (21, Zc ss.length), (22, .int .i64 0)] _ _ ?_ (by simp (maxSteps := 2000000) only [vup, cond_true, cond_false, Nat.reduceBEq])
  clear hN11
  try clear N11
  refine Zm ?_
  refine Zo fun Q hQ => ?_
  refine Yi (γ := Nat) (fun s => s ≤ ss.length ∧ smB (ss.take s) = true)
    (fun s => ([(0, Zc (n : Nat)), (1, v), (5, .pointer (some ⟨h.length, 0, none⟩)), (6, .bool false), (19, .pointer (some ⟨h.length, 0, none⟩)), (20, .slice p m c), (21, Zc ss.length), (22, Zc (s : Nat))], H)) (fun s => ss.length - s) 0 ⟨Nat.zero_le _, rfl⟩ (by simp (maxSteps := 2000000) only [vup, cond_true, cond_false, Nat.reduceBEq, Int.natCast_zero]) rfl ?_
  rintro k ⟨hk, hsm⟩
  refine Zo fun Q2 hQ2 => ?_
  simp only [l53_0]
  by_cases hin : (k : Int) < ss.length
  · have hk' : k < ss.length := by omega
    obtain ⟨s, hs⟩ : ∃ s, ss.getD k 0 = s := ⟨_, rfl⟩
    have hsk : ss[k]? = some s := by rw [List.getD, List.getElem?_eq_getElem hk'] at hs; rw [List.getElem?_eq_getElem hk']; exact congrArg some hs
    have hnx : smB (ss.take (k + 1)) = (decide (-1000000000 ≤ s) && decide (s ≤ 1000000000)) := by
      rw [List.take_succ, hsk, Option.toList_some, smB, List.all_append, ← smB, hsm, Bool.true_and, List.all_cons, List.all_nil, Bool.and_true]
    refine Ze fun N12 hN12 => ?_
    simp (maxSteps := 2000000) only [↓Za, ↓Zb, ↓Zd, vup, cond_true, cond_false, aop, Zf, ev, sput, Zg, Yb, Ye, Nat.reduceBEq, hin]
    refine hN12 [(0, Zc (n : Nat)), (1, v), (5, .pointer (some ⟨h.length, 0, none⟩)), (6, .bool false), (19, .pointer (some ⟨h.length, 0, none⟩)), (20, .slice p m c), (21, Zc ss.length), (22, Zc (k : Nat)), (23, .bool true)] _ _ ?_ (by simp (maxSteps := 2000000) only [vup, cond_true, cond_false, Nat.reduceBEq])
    clear hN12
    try clear N12
    refine Ze fun N13 hN13 => ?_
    simp (maxSteps := 2000000) only [↓Zr, ↓vdn, vup, cond_true, cond_false, Zf, ev, Nat.reduceBEq]
    refine hN13 [(0, Zc (n : Nat)), (1, v), (5, .pointer (some ⟨h.length, 0, none⟩)), (6, .bool false), (19, .pointer (some ⟨h.length, 0, none⟩)), (20, .slice p m c), (21, Zc ss.length), (22, Zc (k : Nat))] _ _ ?_ (by simp (maxSteps := 2000000) only [vup, cond_true, cond_false, Nat.reduceBEq])
    clear hN13
    try clear N13
    refine Zl fun B hB => ?_
    refine Zm ?_
    refine Ze fun N14 hN14 => ?_
    simp (maxSteps := 2000000) only [↓Za, ↓Zb, ↓Zd, vup, cond_true, cond_false, aop, Zf, ev, sput, Zg, Nat.reduceBEq, huH.idx el_38 Vi hk', huH.load Wk hk', hs]
    refine hN14 [(0, Zc (n : Nat)), (1, v), (5, .pointer (some ⟨h.length, 0, none⟩)), (6, .bool false), (8, .int .i64 s), (19, .pointer (some ⟨h.length, 0, none⟩)), (20, .slice p m c), (21, Zc ss.length), (22, Zc (k : Nat))] _ _ ?_ (by simp (maxSteps := 2000000) only [vup, cond_true, cond_false, Nat.reduceBEq])
    clear hN14
    try clear N14
    by_cases hbad : s < -1000000000 ∨ 1000000000 < s
    · have hfalse : smB ss = false := by
        rw [← Bool.not_eq_true]
        intro hc
        have := List.all_eq_true.1 hc s (List.mem_of_getElem? hsk)
        simp only [Bool.and_eq_true, decide_eq_true_eq] at this
        omega
      refine Ze fun N15 hN15 => ?_
      by_cases h1 : s < -1000000000
      · simp (maxSteps := 2000000) only [↓Za, ↓Zb, ↓Zd, ↓vdn, vup, cond_true, cond_false, aop, Zf, ev, sput, Zg, Yb, Ye, Nat.reduceBEq, decide_eq_true h1]
        refine hN15 [(0, Zc (n : Nat)), (1, v), (5, .pointer (some ⟨h.length, 0, none⟩)), (6, .bool false), (8, .int .i64 s), (19, .pointer (some ⟨h.length, 0, none⟩)), (20, .slice p m c), (21, Zc ss.length), (22, Zc (k : Nat)), (31, .bool true)] _ _ ?_ (by simp (maxSteps := 2000000) only [vup, cond_true, cond_false, Nat.reduceBEq])
        clear hN15
        try clear N15
        refine Yu rfl ?_
        refine Zi ?_
        simp (maxSteps := 2000000) only [↓Za, ↓Zu, ↓Zx, ↓Zb, ↓Zd, vup, cond_true, cond_false, aop, Zf, Zp, ev, sput, Zg, Nat.reduceBEq]
        refine hQ2 _ _ _ (hQ _ _ _ ?_)
        simp (maxSteps := 2000000) only [vup, cond_true, cond_false, Zf, Zp, Nat.reduceBEq, Zs, Wc, tup, btB, hfalse, Bool.false_and, Bool.and_false]
        exact hE
      · simp (maxSteps := 2000000) only [↓Za, ↓Zb, ↓Zd, ↓vdn, vup, cond_true, cond_false, aop, Zf, ev, sput, Zg, Yb, Ye, Nat.reduceBEq, decide_eq_false h1, decide_eq_true (show 1000000000 < s by omega)]
        refine hN15 [(0, Zc (n : Nat)), (1, v), (5, .pointer (some ⟨h.length, 0, none⟩)), (6, .bool false), (8, .int .i64 s), (19, .pointer (some ⟨h.length, 0, none⟩)), (20, .slice p m c), (21, Zc ss.length), (22, Zc (k : Nat)), (31, .bool true)] _ _ ?_ (by simp (maxSteps := 2000000) only [vup, cond_true, cond_false, Nat.reduceBEq])
        clear hN15
        try clear N15
        refine Yu rfl ?_
        refine Zi ?_
        simp (maxSteps := 2000000) only [↓Za, ↓Zu, ↓Zx, ↓Zb, ↓Zd, vup, cond_true, cond_false, aop, Zf, Zp, ev, sput, Zg, Nat.reduceBEq]
        refine hQ2 _ _ _ (hQ _ _ _ ?_)
        simp (maxSteps := 2000000) only [vup, cond_true, cond_false, Zf, Zp, Nat.reduceBEq, Zs, Wc, tup, btB, hfalse, Bool.false_and, Bool.and_false]
        exact hE
    · refine Ze fun N16 hN16 => ?_
      simp (maxSteps := 2000000) only [↓Za, ↓Zb, ↓Zd, ↓vdn, vup, cond_true, cond_false, aop, Zf, ev, sput, Zg, Yb, Ye, Nat.reduceBEq, decide_eq_false (show ¬ s < -1000000000 by omega), decide_eq_false (show ¬ 1000000000 < s by omega)]
      refine hN16 [(0, Zc (n : Nat)), (1, v), (5, .pointer (some ⟨h.length, 0, none⟩)), (6, .bool false), (8, .int .i64 s), (19, .pointer (some ⟨h.length, 0, none⟩)), (20, .slice p m c), (21, Zc ss.length), (22, Zc (k : Nat)), (31, .bool false)] _ _ ?_ (by simp (maxSteps := 2000000) only [vup, cond_true, cond_false, Nat.reduceBEq])
      clear hN16
      try clear N16
      refine Yf rfl ?_
      refine Zi ?_
      simp (maxSteps := 2000000) only [↓Zr, Zf, Zp]
      refine hB [(0, Zc (n : Nat)), (1, v), (5, .pointer (some ⟨h.length, 0, none⟩)), (6, .bool false), (19, .pointer (some ⟨h.length, 0, none⟩)), (20, .slice p m c), (21, Zc ss.length), (22, Zc (k : Nat))] _ _ ?_ (by simp (maxSteps := 2000000) only [vup, cond_true, cond_false, Nat.reduceBEq])
      clear hB
      try clear B
      refine Zi ?_
      simp (maxSteps := 2000000) only [↓Za, ↓Zb, ↓Zd, vup, cond_true, cond_false, aop, ev, sput, Zg, Yb, Ye, Nat.reduceBEq, Vt (show k < 9223372036854775807 by omega)]
      exact hQ2 _ _ _ ⟨k + 1, ⟨hk', by rw [hnx, decide_eq_true (show -1000000000 ≤ s by omega), decide_eq_true (show s ≤ 1000000000 by omega)]; rfl⟩, by omega, by simp (maxSteps := 2000000) only [vup, cond_true, cond_false, Nat.reduceBEq], rfl⟩
  obtain rfl : ss.length = k := by omega
  rw [List.take_length] at hsm
  have hs := smB_sms hsm
  refine Ze fun N17 hN17 => ?_
  simp (maxSteps := 2000000) only [↓Za, ↓Zb, ↓Zd, vup, cond_true, cond_false, aop, Zf, ev, sput, Zg, Yb, Ye, Nat.reduceBEq, hin]
  refine hN17 [(0, Zc (n : Nat)), (1, v), (5, .pointer (some ⟨h.length, 0, none⟩)), (6, .bool false), (19, .pointer (some ⟨h.length, 0, none⟩)), (20, .slice p m c), (21, Zc ss.length), (22, Zc ss.length), (23, .bool false)] _ _ ?_ (by simp (maxSteps := 2000000) only [vup, cond_true, cond_false, Nat.reduceBEq])
  clear hN17
  try clear N17
  refine Ze fun N18 hN18 => ?_
  simp (maxSteps := 2000000) only [↓Ym, ↓vdn, vup, cond_true, cond_false, Zf, ev, Nat.reduceBEq]
  refine hQ2 _ _ _ (hQ _ _ _ ?_)
  simp (maxSteps := 2000000) only [Zf, Zp, Zs, if_true]
  refine hZ [(0, Zc (n : Nat)), (1, v), (5, .pointer (some ⟨h.length, 0, none⟩)), (6, .bool false)] _ _ ?_ (by simp (maxSteps := 2000000) only [vup, cond_true, cond_false, Nat.reduceBEq])
  clear hZ
  try clear Z
  clear hQ hQ2
  have hbt : btB n l ss = Vq n l ss := by rw [btB, decide_eq_true hlen, hsm]; rfl
  rw [hbt]
  refine Zl fun Z hZ => ?_
  refine Ze fun N19 hN19 => ?_
  simp (maxSteps := 2000000) only [↓Za, ↓Zb, ↓Zd, vup, cond_true, cond_false, aop, Zf, ev, sput, Zg, Nat.reduceBEq]
  refine hN19 [(0, Zc (n : Nat)), (1, v), (5, .pointer (some ⟨h.length, 0, none⟩)), (6, .bool false), (33, Zc (n : Nat)), (34, .int .i64 0)] _ _ ?_ (by simp (maxSteps := 2000000) only [vup, cond_true, cond_false, Nat.reduceBEq])
  clear hN19
  try clear N19
  refine Zm ?_
  refine Zo fun Q hQ => ?_
  refine Yi (γ := Nat × Zh) (fun s => s.1 ≤ n ∧ (∀ w, w < s.1 → 0 < gnTo l ss w l.length) ∧ Ext (fun _ => False) H s.2)
    (fun s => ([(0, Zc (n : Nat)), (1, v), (5, .pointer (some ⟨h.length, 0, none⟩)), (6, .bool false), (33, Zc (n : Nat)), (34, Zc (s.1 : Nat))], s.2)) (fun s => n - s.1) (0, H) ⟨Nat.zero_le _, fun w hw => absurd hw (Nat.not_lt_zero w), Ext.refl _ _⟩ (by simp (maxSteps := 2000000) only [vup, cond_true, cond_false, Nat.reduceBEq, Int.natCast_zero]) rfl ?_
  rintro ⟨w, hp⟩ ⟨hk, hall, hEp⟩
  simp only at hk hall hEp
  refine Zo fun Q2 hQ2 => ?_
  simp only [l53_2]
  by_cases hin : (w : Int) < (n : Nat)
  · have hw : w < n := by omega
    have hvp := hvH.ext hEp
    refine Ze fun N20 hN20 => ?_
    simp (maxSteps := 2000000) only [↓Za, ↓Zb, ↓Zd, vup, cond_true, cond_false, aop, Zf, ev, sput, Zg, Yb, Ye, Nat.reduceBEq, hin]
    refine hN20 [(0, Zc (n : Nat)), (1, v), (5, .pointer (some ⟨h.length, 0, none⟩)), (6, .bool false), (33, Zc (n : Nat)), (34, Zc (w : Nat)), (35, .bool true)] _ _ ?_ (by simp (maxSteps := 2000000) only [vup, cond_true, cond_false, Nat.reduceBEq])
    clear hN20
    try clear N20
    refine Ze fun N21 hN21 => ?_
    simp (maxSteps := 2000000) only [↓Zr, ↓vdn, vup, cond_true, cond_false, Zf, ev, Nat.reduceBEq]
    refine hN21 [(0, Zc (n : Nat)), (1, v), (5, .pointer (some ⟨h.length, 0, none⟩)), (6, .bool false), (33, Zc (n : Nat)), (34, Zc (w : Nat))] _ _ ?_ (by simp (maxSteps := 2000000) only [vup, cond_true, cond_false, Nat.reduceBEq])
    clear hN21
    try clear N21
    refine Zl fun B hB => ?_
    refine Zm ?_
    refine Ze fun N22 hN22 => ?_
    simp (maxSteps := 2000000) only [↓Za, ↓Zb, ↓Zd, vup, cond_true, cond_false, aop, Zf, ev, sput, Zg, Nat.reduceBEq]
    refine hN22 [(0, Zc (n : Nat)), (1, v), (5, .pointer (some ⟨h.length, 0, none⟩)), (6, .bool false), (9, Zc (w : Nat)), (33, Zc (n : Nat)), (34, Zc (w : Nat))] _ _ ?_ (by simp (maxSteps := 2000000) only [vup, cond_true, cond_false, Nat.reduceBEq])
    clear hN22
    try clear N22
    refine Ze fun N23 hN23 => ?_
    simp (maxSteps := 2000000) only [↓Za, ↓Zb, ↓Zd, vup, cond_false, aop, Zf, ev, sput, Zg, Nat.reduceBEq]
    refine hN23 [(0, Zc (n : Nat)), (1, v), (5, .pointer (some ⟨h.length, 0, none⟩)), (6, .bool false), (9, Zc (w : Nat)), (10, .int .i64 0), (33, Zc (n : Nat)), (34, Zc (w : Nat))] _ _ ?_ (by simp (maxSteps := 2000000) only [vup, cond_true, cond_false, Nat.reduceBEq])
    clear hN23
    try clear N23
    refine Zl fun Y hY => ?_
    refine Ze fun N24 hN24 => ?_
    simp (maxSteps := 2000000) only [↓Za, ↓Zb, ↓Zd, vup, List.map_cons, List.map_nil, cond_true, cond_false, aop, Zf, ev, sput, Zg, Zk, Nat.reduceBEq, tyf, hvp.len]
    refine hN24 [(0, Zc (n : Nat)), (1, v), (5, .pointer (some ⟨h.length, 0, none⟩)), (6, .bool false), (9, Zc (w : Nat)), (10, .int .i64 0), (33, Zc (n : Nat)), (34, Zc (w : Nat)), (37, v), (38, Zc l.length), (39, .int .i64 0)] _ _ ?_ (by simp (maxSteps := 2000000) only [vup, cond_true, cond_false, Nat.reduceBEq])
    clear hN24
    try clear N24
    refine Zm ?_
    refine Zo fun Q3 hQ3 => ?_
    refine Yi (γ := Nat × Zh) (fun s => s.1 ≤ l.length ∧ Ext (fun _ => False) H s.2)
      (fun s => ([(0, Zc (n : Nat)), (1, v), (5, .pointer (some ⟨h.length, 0, none⟩)), (6, .bool false), (9, Zc (w : Nat)), (10, Zc (gnTo l ss w s.1)), (33, Zc (n : Nat)), (34, Zc (w : Nat)), (37, v), (38, Zc l.length), (39, Zc (s.1 : Nat))], s.2)) (fun s => l.length - s.1) (0, hp) ⟨Nat.zero_le _, hEp⟩ (by simp (maxSteps := 2000000) only [vup, cond_true, cond_false, Nat.reduceBEq, Int.natCast_zero, gnTo]) rfl ?_
    rintro ⟨i, hq⟩ ⟨hi, hEq⟩
    simp only at hi hEq
    refine Zo fun Q4 hQ4 => ?_
    simp only [l53_1]
    by_cases hin2 : (i : Int) < l.length
    · have hi' : i < l.length := by omega
      have hi2 : i < ss.length := by omega
      have hvq := hvH.ext hEq
      obtain ⟨⟨x, y⟩, hxy⟩ : ∃ p, l.getD i (0, 0) = p := ⟨_, rfl⟩
      have hb := hok i hi'
      rw [hxy] at hb
      simp only [okB, Bool.and_eq_true, decide_eq_true_eq] at hb
      obtain ⟨e, he⟩ : ∃ e : Nat, x = e := ⟨x.toNat, by omega⟩
      subst he
      have hpow : (2 : Int) ^ n ≤ 32 := by
        have h1 : (2 : Nat) ^ n ≤ 2 ^ 5 := Nat.pow_le_pow_right (by decide) hn5
        exact_mod_cast h1
      obtain ⟨G, hG⟩ : ∃ G, G = hq ++ [rB e y] := ⟨_, rfl⟩
      have c8 : G[hq.length]? = some (rB e y) := by rw [hG]; exact Zz _ _
      have hEG : Ext (fun _ => False) H G := by rw [hG]; exact hEq.trans (Ext.app _ _ _)
      have huG : IntSl G (.slice p m c) ss := iExt huH hEG
      have c5 := (hEG.2 _ (Yg b5) id).trans b5
      have r0 : ∀ {K : Value → Prop}, Xj prog G 3 (.pointer (some ⟨hq.length, 0, none⟩)) K = K (Zc (e : Nat)) := fun {K} => loadC c8 Wk rfl
      have r1 : ∀ {K : Value → Prop}, Xj prog G 3 (.pointer (some ⟨hq.length, 1, none⟩)) K = K (Zc y) := fun {K} => loadC c8 Wk rfl
      refine Ze fun N25 hN25 => ?_
      simp (maxSteps := 2000000) only [↓Za, ↓Zb, ↓Zd, vup, cond_true, cond_false, aop, Zf, ev, sput, Zg, Yb, Ye, Nat.reduceBEq, hin2]
      refine hN25 [(0, Zc (n : Nat)), (1, v), (5, .pointer (some ⟨h.length, 0, none⟩)), (6, .bool false), (9, Zc (w : Nat)), (10, Zc (gnTo l ss w i)), (33, Zc (n : Nat)), (34, Zc (w : Nat)), (37, v), (38, Zc l.length), (39, Zc (i : Nat)), (40, .bool true)] _ _ ?_ (by simp (maxSteps := 2000000) only [vup, cond_true, cond_false, Nat.reduceBEq])
      clear hN25
      try clear N25
      refine Ze fun N26 hN26 => ?_
      simp (maxSteps := 2000000) only [↓Zr, ↓vdn, vup, cond_true, cond_false, Zf, ev, Nat.reduceBEq]
      refine hN26 [(0, Zc (n : Nat)), (1, v), (5, .pointer (some ⟨h.length, 0, none⟩)), (6, .bool false), (9, Zc (w : Nat)), (10, Zc (gnTo l ss w i)), (33, Zc (n : Nat)), (34, Zc (w : Nat)), (37, v), (38, Zc l.length), (39, Zc (i : Nat))] _ _ ?_ (by simp (maxSteps := 2000000) only [vup, cond_true, cond_false, Nat.reduceBEq])
      clear hN26
      try clear N26
      refine Zl fun C hC => ?_
      refine Zm ?_
      refine Ze fun N27 hN27 => ?_
      simp (maxSteps := 2000000) only [↓Za, ↓Zb, ↓Zd, vup, cond_true, cond_false, aop, Zf, ev, sput, Zg, Nat.reduceBEq, tyf, hvq.idx el_22 esz_24 hi', hvq.load shp_24 hi', hxy, Xo, Yn, storeRt (Zz hq zR) rfl, Wi]
      rw [← hG]
      refine hN27 [(0, Zc (n : Nat)), (1, v), (5, .pointer (some ⟨h.length, 0, none⟩)), (6, .bool false), (9, Zc (w : Nat)), (10, Zc (gnTo l ss w i)), (11, Zc (i : Nat)), (12, .pointer (some ⟨hq.length, 0, none⟩)), (33, Zc (n : Nat)), (34, Zc (w : Nat)), (37, v), (38, Zc l.length), (39, Zc (i : Nat))] _ _ ?_ (by simp (maxSteps := 2000000) only [vup, cond_true, cond_false, Nat.reduceBEq])
      clear hN27
      try clear N27
      refine Zi ?_
      obtain ⟨g1, g2⟩ := gnTo_le hct hs w (i + 1) (by omega)
      have g3 := (gnTo_le hct hs w i (by omega)).1
      have g4 := g2 i (by omega)
      have hgn : gnI l w i = (if e.testBit w then 12 else 0) - y := by rw [gnI, hxy, Int.toNat_natCast]
      rw [hgn] at g4
      have ht := testV (a := e) (y := w) (by omega)
      have m0 : mulV .i64 12 (if e.testBit w = true then 1 else 0) = if e.testBit w = true then 12 else 0 := by cases e.testBit w <;> rfl
      have s0 : subV .i64 (if e.testBit w = true then 12 else 0) y = (if e.testBit w = true then 12 else 0) - y := by
        rw [subV_id]
        · split <;> omega
        · split <;> omega
      have m1 : mulV .i64 (ss.getD i 0) ((if e.testBit w = true then 12 else 0) - y) = ss.getD i 0 * ((if e.testBit w = true then 12 else 0) - y) := mulN (by omega)
      have a1 : addV .i64 (gnTo l ss w i) (ss.getD i 0 * ((if e.testBit w = true then 12 else 0) - y)) = gnTo l ss w (i + 1) := by
        rw [addN (by omega), gnTo, hgn]
      simp only [q53_16]
      refine Xx [] (by kernel_rfl) (by kernel_rfl) (by kernel_rfl) (by kernel_rfl) ?_
      simp (maxSteps := 2000000) only [↓Yt, ↓vdn, vup, cond_true, cond_false, aop, Zf, Zp, ev, sput, Zg, Yb, Ye, Nat.reduceBEq, Nat.reduceAdd, tyf, f5, l5 c5, huG.idx el_38 Vi hi2, huG.load Wk hi2, rA0, rA1, r0, r1, ht, m0, s0, m1, a1]
      refine hC [(0, Zc (n : Nat)), (1, v), (5, .pointer (some ⟨h.length, 0, none⟩)), (6, .bool false), (9, Zc (w : Nat)), (10, Zc (gnTo l ss w (i + 1))), (33, Zc (n : Nat)), (34, Zc (w : Nat)), (37, v), (38, Zc l.length), (39, Zc (i : Nat))] _ _ ?_ (by simp (maxSteps := 2000000) only [vup, cond_true, cond_false, Nat.reduceBEq])
      clear hC
      try clear C
      refine Zi ?_
      simp (maxSteps := 2000000) only [↓Za, ↓Zb, ↓Zd, vup, cond_true, cond_false, aop, ev, sput, Zg, Yb, Ye, Nat.reduceBEq, Vt (show i < 9223372036854775807 by omega)]
      exact hQ4 _ _ _ ⟨(i + 1, G), ⟨hi', hEG⟩, by simp only; omega, by simp (maxSteps := 2000000) only [vup, cond_true, cond_false, Nat.reduceBEq], rfl⟩
    · obtain rfl : i = l.length := by omega
      refine Ze fun N28 hN28 => ?_
      simp (maxSteps := 2000000) only [↓Za, ↓Zb, ↓Zd, vup, cond_true, cond_false, aop, Zf, ev, sput, Zg, Yb, Ye, Nat.reduceBEq, hin2]
      refine hN28 [(0, Zc (n : Nat)), (1, v), (5, .pointer (some ⟨h.length, 0, none⟩)), (6, .bool false), (9, Zc (w : Nat)), (10, Zc (gnTo l ss w l.length)), (33, Zc (n : Nat)), (34, Zc (w : Nat)), (37, v), (38, Zc l.length), (39, Zc l.length), (40, .bool false)] _ _ ?_ (by simp (maxSteps := 2000000) only [vup, cond_true, cond_false, Nat.reduceBEq])
      clear hN28
      try clear N28
      refine Ze fun N29 hN29 => ?_
      simp (maxSteps := 2000000) only [↓Ym, ↓vdn, vup, cond_true, cond_false, Zf, ev, Nat.reduceBEq]
      refine hQ4 _ _ _ (hQ3 _ _ _ ?_)
      simp (maxSteps := 2000000) only [Zf, Zp, if_true]
      refine hY [(0, Zc (n : Nat)), (1, v), (5, .pointer (some ⟨h.length, 0, none⟩)), (6, .bool false), (9, Zc (w : Nat)), (10, Zc (gnTo l ss w l.length)), (33, Zc (n : Nat)), (34, Zc (w : Nat))] _ _ ?_ (by simp (maxSteps := 2000000) only [vup, cond_true, cond_false, Nat.reduceBEq])
      clear hY
      try clear Y
      by_cases hg : gnTo l ss w l.length ≤ 0
      · refine Ze fun N30 hN30 => ?_
        simp (maxSteps := 2000000) only [↓Za, ↓Zb, ↓Zd, vup, cond_true, cond_false, aop, Zf, ev, sput, Zg, Yb, Ye, Nat.reduceBEq, hg]
        refine hN30 [(0, Zc (n : Nat)), (1, v), (5, .pointer (some ⟨h.length, 0, none⟩)), (6, .bool false), (9, Zc (w : Nat)), (10, Zc (gnTo l ss w l.length)), (33, Zc (n : Nat)), (34, Zc (w : Nat)), (63, .bool true)] _ _ ?_ (by simp (maxSteps := 2000000) only [vup, cond_true, cond_false, Nat.reduceBEq])
        clear hN30
        try clear N30
        refine Yu rfl ?_
        refine Zi ?_
        simp (maxSteps := 2000000) only [↓Za, ↓Zu, ↓Zx, ↓Zb, ↓Zd, vup, cond_true, cond_false, aop, Zf, Zp, ev, sput, Zg, Nat.reduceBEq]
        refine hQ2 _ _ _ (hQ _ _ _ ?_)
        simp (maxSteps := 2000000) only [vup, cond_true, cond_false, Zf, Zp, Nat.reduceBEq, Zs, Wc, tup, beatsTo_false hw (show ¬ 0 < gnTo l ss w l.length by omega)]
        exact hE.trans hEq
      · refine Ze fun N31 hN31 => ?_
        simp (maxSteps := 2000000) only [↓Za, ↓Zb, ↓Zd, vup, cond_true, cond_false, aop, Zf, ev, sput, Zg, Yb, Ye, Nat.reduceBEq, hg]
        refine hN31 [(0, Zc (n : Nat)), (1, v), (5, .pointer (some ⟨h.length, 0, none⟩)), (6, .bool false), (9, Zc (w : Nat)), (10, Zc (gnTo l ss w l.length)), (33, Zc (n : Nat)), (34, Zc (w : Nat)), (63, .bool false)] _ _ ?_ (by simp (maxSteps := 2000000) only [vup, cond_true, cond_false, Nat.reduceBEq])
        clear hN31
        try clear N31
        refine Yf rfl ?_
        refine Zi ?_
        simp (maxSteps := 2000000) only [↓Zr, Zf, Zp]
        refine hB [(0, Zc (n : Nat)), (1, v), (5, .pointer (some ⟨h.length, 0, none⟩)), (6, .bool false), (33, Zc (n : Nat)), (34, Zc (w : Nat))] _ _ ?_ (by simp (maxSteps := 2000000) only [vup, cond_true, cond_false, Nat.reduceBEq])
        clear hB
        try clear B
        refine Zi ?_
        simp (maxSteps := 2000000) only [↓Za, ↓Zb, ↓Zd, vup, cond_true, cond_false, aop, ev, sput, Zg, Yb, Ye, Nat.reduceBEq, Vt (show w < 9223372036854775807 by omega)]
        refine hQ2 _ _ _ ⟨(w + 1, hq), ⟨hw, fun v hv => ?_, hEq⟩, by simp only; omega, by simp (maxSteps := 2000000) only [vup, cond_true, cond_false, Nat.reduceBEq], rfl⟩
        by_cases hvw : v = w
        · rw [hvw]; omega
        · exact hall v (by omega)
  · obtain rfl : n = w := by omega
    refine Ze fun N32 hN32 => ?_
    simp (maxSteps := 2000000) only [↓Za, ↓Zb, ↓Zd, vup, cond_true, cond_false, aop, Zf, ev, sput, Zg, Yb, Ye, Nat.reduceBEq, hin]
    refine hN32 [(0, Zc (n : Nat)), (1, v), (5, .pointer (some ⟨h.length, 0, none⟩)), (6, .bool false), (33, Zc (n : Nat)), (34, Zc (n : Nat)), (35, .bool false)] _ _ ?_ (by simp (maxSteps := 2000000) only [vup, cond_true, cond_false, Nat.reduceBEq])
    clear hN32
    try clear N32
    refine Ze fun N33 hN33 => ?_
    simp (maxSteps := 2000000) only [↓Ym, ↓vdn, vup, cond_true, cond_false, Zf, ev, Nat.reduceBEq]
    refine hQ2 _ _ _ (hQ _ _ _ ?_)
    simp (maxSteps := 2000000) only [Zf, Zp, Zs, if_true]
    refine hZ [(0, Zc (n : Nat)), (1, v), (5, .pointer (some ⟨h.length, 0, none⟩)), (6, .bool false)] _ _ ?_ (by simp (maxSteps := 2000000) only [vup, cond_true, cond_false, Nat.reduceBEq])
    clear hZ
    try clear Z
    refine Zi ?_
    simp (maxSteps := 2000000) only [↓Za, ↓Zu, ↓Zx, ↓Zb, ↓Zd, vup, cond_true, cond_false, aop, Zf, ev, sput, Zg, Nat.reduceBEq, Zs, Wc, tup]
    exact ⟨by rw [beatsB_iff.2 hall], hE.trans hEp⟩
end Go.Proofs.Try.Am

namespace Go.Proofs.Try.Am
open Go.Am Bq
set_option maxRecDepth 100000
set_option maxHeartbeats 4000000

theorem s103_callW [Tabs Try.prog] {args : List Value} {h : Zh} {Q : Value → Zh → Prop} (hsz : args.length ≤ 22) (hk : AWS Try.prog 22 s103 (Zs Try.prog [.tmp 4] Q) (Zt 0 args) h) : ACall Try.prog 103 args h Q :=
  Ys Try.func103 rfl (enters_of Try.func103 (by kernel_rfl) rfl) rfl rfl (by decide) s103_strip s103_ok hsz hk
theorem worldsOf_call [Tabs prog] {h : Zh} {n s : Nat} (hn : n ≤ 62) (hs : s < 9223372036854775808) : ACall prog 103 [Zc (n : Nat), Zc (s : Nat)] h fun r h' => IntSl h' r (Wh (Yr n s)) ∧ Ext (fun _ => False) h h' := by
  refine s103_callW (by simp) ?_
  simp only [s103]
  refine Ze fun N1 hN1 => ?_
  simp (maxSteps := 2000000) only [↓Za, ↓Zb, ↓Zd, vup, cond_false, aop, Zf, Zt, ev, sput, Zg, Nat.reduceBEq, Nat.reduceAdd]
  refine hN1 [(0, Zc (n : Nat)), (1, Zc (s : Nat)), (4, .slice none 0 0)] _ _ ?_ (by simp (maxSteps := 2000000) only [vup, cond_true, cond_false, Nat.reduceBEq])
  clear hN1
  try clear N1
  refine Ze fun N2 hN2 => ?_
  simp (maxSteps := 2000000) only [↓Za, ↓Zb, ↓Zd, vup, cond_false, aop, Zf, ev, sput, Zg, Nat.reduceBEq]
  refine hN2 [(0, Zc (n : Nat)), (1, Zc (s : Nat)), (4, .slice none 0 0), (5, .slice none 0 0)] _ _ ?_ (by simp (maxSteps := 2000000) only [vup, cond_true, cond_false, Nat.reduceBEq])
  clear hN2
  try clear N2
  refine Zl fun X hX => ?_
  refine Ze fun N3 hN3 => ?_
  simp (maxSteps := 2000000) only [↓Za, ↓Zb, ↓Zd, vup, cond_true, cond_false, aop, Zf, ev, sput, Zg, Nat.reduceBEq]
  refine hN3 [(0, Zc (n : Nat)), (1, Zc (s : Nat)), (4, .slice none 0 0), (5, .slice none 0 0), (7, Zc (n : Nat)), (8, .int .i64 0)] _ _ ?_ (by simp (maxSteps := 2000000) only [vup, cond_true, cond_false, Nat.reduceBEq])
  clear hN3
  try clear N3
  refine Zm ?_
  refine Zo fun Qa hQa => ?_
  refine Yi (γ := Nat × Value × Zh) (fun g => g.1 ≤ n ∧ OwnSl 3 g.2.2 g.2.1 (Wh (Zj s g.1)) ∧ Ext (fun _ => False) h g.2.2 ∧ (∀ b, Yj g.2.1 = some b → h.length ≤ b))
    (fun g => ([(0, Zc (n : Nat)), (1, Zc (s : Nat)), (4, .slice none 0 0), (5, g.2.1), (7, Zc (n : Nat)), (8, Zc (g.1 : Nat))], g.2.2)) (fun g => n - g.1) (0, .slice none 0 0, h) ⟨Nat.zero_le _, .inl ⟨rfl, rfl⟩, Ext.refl _ _, fun b hb => by cases hb⟩ (by simp (maxSteps := 2000000) only [vup, cond_true, cond_false, Nat.reduceBEq, Int.natCast_zero]) rfl ?_
  rintro ⟨k, wv, G⟩ ⟨hk, how, hEG, hbw⟩
  simp only at hk how hEG hbw
  refine Zo fun Qb hQb => ?_
  simp only [l103_0]
  by_cases hkin : (k : Int) < n
  · have hk' : k < n := by omega
    have ht := testV (y := k) hs
    have hnx := Xy s k
    refine Ze fun N4 hN4 => ?_
    simp (maxSteps := 2000000) only [↓Za, ↓Zb, ↓Zd, vup, cond_true, cond_false, aop, Zf, ev, sput, Zg, Yb, Ye, Nat.reduceBEq, hkin]
    refine hN4 [(0, Zc (n : Nat)), (1, Zc (s : Nat)), (4, .slice none 0 0), (5, wv), (7, Zc (n : Nat)), (8, Zc (k : Nat)), (9, .bool true)] _ _ ?_ (by simp (maxSteps := 2000000) only [vup, cond_true, cond_false, Nat.reduceBEq])
    clear hN4
    try clear N4
    refine Ze fun N5 hN5 => ?_
    simp (maxSteps := 2000000) only [↓Zr, ↓vdn, vup, cond_true, cond_false, Zf, ev, Nat.reduceBEq]
    refine hN5 [(0, Zc (n : Nat)), (1, Zc (s : Nat)), (4, .slice none 0 0), (5, wv), (7, Zc (n : Nat)), (8, Zc (k : Nat))] _ _ ?_ (by simp (maxSteps := 2000000) only [vup, cond_true, cond_false, Nat.reduceBEq])
    clear hN5
    try clear N5
    refine Zl fun B hB => ?_
    refine Zm ?_
    refine Ze fun N6 hN6 => ?_
    simp (maxSteps := 2000000) only [↓Za, ↓Zb, ↓Zd, vup, cond_true, cond_false, aop, Zf, ev, sput, Zg, Nat.reduceBEq]
    refine hN6 [(0, Zc (n : Nat)), (1, Zc (s : Nat)), (4, .slice none 0 0), (5, wv), (6, Zc (k : Nat)), (7, Zc (n : Nat)), (8, Zc (k : Nat))] _ _ ?_ (by simp (maxSteps := 2000000) only [vup, cond_true, cond_false, Nat.reduceBEq])
    clear hN6
    try clear N6
    refine Ze fun N7 hN7 => ?_
    simp (maxSteps := 2000000) only [↓Za, ↓Zb, ↓Zd, vup, cond_true, cond_false, aop, Zf, ev, sput, Zg, Yb, Ye, Nat.reduceBEq, ht, beq1, Int.natCast_nonneg]
    refine hN7 [(0, Zc (n : Nat)), (1, Zc (s : Nat)), (4, .slice none 0 0), (5, wv), (6, Zc (k : Nat)), (7, Zc (n : Nat)), (8, Zc (k : Nat)), (15, .bool (s.testBit k))] _ _ ?_ (by simp (maxSteps := 2000000) only [vup, cond_true, cond_false, Nat.reduceBEq])
    clear hN7
    try clear N7
    cases hbit : s.testBit k with
    | false =>
      rw [hbit, if_neg (by decide), List.append_nil] at hnx
      refine Yf rfl ?_
      refine Zi ?_
      simp (maxSteps := 2000000) only [↓Zr, Zf, Zp]
      refine hB [(0, Zc (n : Nat)), (1, Zc (s : Nat)), (4, .slice none 0 0), (5, wv), (7, Zc (n : Nat)), (8, Zc (k : Nat))] _ _ ?_ (by simp (maxSteps := 2000000) only [vup, cond_true, cond_false, Nat.reduceBEq])
      clear hB
      try clear B
      refine Zi ?_
      simp (maxSteps := 2000000) only [↓Za, ↓Zb, ↓Zd, vup, cond_true, cond_false, aop, ev, sput, Zg, Yb, Ye, Nat.reduceBEq, Vt (show k < 9223372036854775807 by omega)]
      exact hQb _ _ _ ⟨(k + 1, wv, G), ⟨hk', by simp only; rw [hnx]; exact how, hEG, hbw⟩, by simp only; omega, by simp (maxSteps := 2000000) only [vup, cond_true, cond_false, Nat.reduceBEq], rfl⟩
    | true =>
      rw [hbit, if_pos rfl] at hnx
      refine Yu rfl ?_
      refine Zi ?_
      simp (maxSteps := 2000000) only [↓Za, ↓Zb, ↓Zd, vup, List.map_cons, List.map_nil, cond_true, cond_false, aop, Zf, Zp, ev, sput, Zg, Zk, Nat.reduceBEq, litI1]
      have hwl := Va s k
      refine OwnSl.append (x := (k : Int)) (how.ext (S := fun _ => False) (Ext.app _ _ _) (fun _ _ => id)) app_38_38 (by rw [Vh]; omega) (Zz _ _) ?_
      intro wv' G' ho' hE' hb'
      rw [← castI_snoc, ← hnx] at ho'
      obtain ⟨hEn, hbn⟩ := oExt (H' := G) hEG hbw _ hE' hb'
      refine hB [(0, Zc (n : Nat)), (1, Zc (s : Nat)), (4, .slice none 0 0), (5, wv'), (7, Zc (n : Nat)), (8, Zc (k : Nat))] _ _ ?_ (by simp (maxSteps := 2000000) only [vup, cond_true, cond_false, Nat.reduceBEq])
      clear hB
      try clear B
      refine Zi ?_
      simp (maxSteps := 2000000) only [↓Za, ↓Zb, ↓Zd, vup, cond_true, cond_false, aop, ev, sput, Zg, Yb, Ye, Nat.reduceBEq, Vt (show k < 9223372036854775807 by omega)]
      exact hQb _ _ _ ⟨(k + 1, wv', G'), ⟨hk', ho', hEn, hbn⟩, by simp only; omega, by simp (maxSteps := 2000000) only [vup, cond_true, cond_false, Nat.reduceBEq], rfl⟩
  have hkn := Vx hkin hk
  subst hkn
  refine Ze fun N8 hN8 => ?_
  simp (maxSteps := 2000000) only [↓Za, ↓Zb, ↓Zd, vup, cond_true, cond_false, aop, Zf, ev, sput, Zg, Yb, Ye, Nat.reduceBEq, hkin]
  refine hN8 [(0, Zc (n : Nat)), (1, Zc (s : Nat)), (4, .slice none 0 0), (5, wv), (7, Zc (n : Nat)), (8, Zc (n : Nat)), (9, .bool false)] _ _ ?_ (by simp (maxSteps := 2000000) only [vup, cond_true, cond_false, Nat.reduceBEq])
  clear hN8
  try clear N8
  refine Ze fun N9 hN9 => ?_
  simp (maxSteps := 2000000) only [↓Ym, ↓vdn, vup, cond_true, cond_false, Zf, ev, Nat.reduceBEq]
  refine hQb _ _ _ (hQa _ _ _ ?_)
  simp (maxSteps := 2000000) only [Zf, Zp, Zs, if_true]
  refine hX [(0, Zc (n : Nat)), (1, Zc (s : Nat)), (4, .slice none 0 0), (5, wv)] _ _ ?_ (by simp (maxSteps := 2000000) only [vup, cond_true, cond_false, Nat.reduceBEq])
  clear hX
  try clear X
  refine Zi ?_
  simp (maxSteps := 2000000) only [↓Za, ↓Zu, ↓Zx, ↓Zb, ↓Zd, vup, cond_true, cond_false, aop, Zf, ev, sput, Zg, Nat.reduceBEq, Zs, Wc, tup]
  exact ⟨how.int, hEG⟩

def CornSlR (h : Zh) (v : Value) (cs : List (List Rat)) : Prop := ∃ ws, OwnV 47 h v ws ∧ Each (BelAt h) ws cs
theorem CornSlR.ext {h h' : Zh} {v : Value} {cs : List (List Rat)} (c : CornSlR h v cs) (hE : Ext (fun _ => False) h h') : CornSlR h' v cs := by
  obtain ⟨ws, h1, h2⟩ := c
  exact ⟨ws, h1.ext hE, h2.imp fun w b ⟨bl, g1, g2⟩ => ⟨bl, g1, (hE.2 _ (Yg g2) id).trans g2⟩⟩

theorem s65_callW [Tabs Try.prog] {args : List Value} {h : Zh} {Q : Value → Zh → Prop} (hsz : args.length ≤ 36) (hk : AWS Try.prog 36 s65 (Zs Try.prog [.tmp 4] Q) (Zt 0 args) h) : ACall Try.prog 65 args h Q :=
  Ys Try.func65 rfl (enters_of Try.func65 (by kernel_rfl) rfl) rfl rfl (by decide) s65_strip s65_ok hsz hk
theorem rcorners_call [Tabs prog] {h : Zh} {n : Nat} {v : Value} {l : List (Int × Int)} (hv : PairSl h v l) (hval : Xg n l = true) :
    ACall prog 65 [Zc (n : Nat), v] h fun r h' => Ext (fun _ => False) h h' ∧ CornSlR h' r (Xq n l) := by
  obtain ⟨hn2, hn5, hl1, hl6, hok⟩ := Wg hval
  have hpn : (2 : Nat) ^ n ≤ 2 ^ 5 := Nat.pow_le_pow_right (by decide) hn5
  have hp32 : (2 : Nat) ^ n ≤ 32 := hpn
  have hpp := Nat.two_pow_pos n
  have hsh : shlV .i64 1 (n : Int) = ((2 ^ n : Nat) : Int) := by rw [shl1 (by omega), pow_cast]
  refine s65_callW (by simp) ?_
  simp only [s65]
  refine Ze fun N10 hN10 => ?_
  simp (maxSteps := 2000000) only [↓Za, ↓Zb, ↓Zd, vup, cond_false, aop, Zf, Zt, ev, sput, Zg, Nat.reduceBEq, Nat.reduceAdd]
  refine hN10 [(0, Zc (n : Nat)), (1, v), (4, .slice none 0 0)] _ _ ?_ (by simp (maxSteps := 2000000) only [vup, cond_true, cond_false, Nat.reduceBEq])
  clear hN10
  try clear N10
  refine Ze fun N11 hN11 => ?_
  simp (maxSteps := 2000000) only [↓Za, ↓Zb, ↓Zd, vup, cond_false, aop, Zf, ev, sput, Zg, Nat.reduceBEq]
  refine hN11 [(0, Zc (n : Nat)), (1, v), (4, .slice none 0 0), (5, .slice none 0 0)] _ _ ?_ (by simp (maxSteps := 2000000) only [vup, cond_true, cond_false, Nat.reduceBEq])
  clear hN11
  try clear N11
  refine Zl fun Z hZ => ?_
  refine Ze fun N12 hN12 => ?_
  simp (maxSteps := 2000000) only [↓Za, ↓Zb, ↓Zd, vup, cond_false, aop, Zf, ev, sput, Zg, Nat.reduceBEq]
  refine hN12 [(0, Zc (n : Nat)), (1, v), (4, .slice none 0 0), (5, .slice none 0 0), (6, .int .i64 1)] _ _ ?_ (by simp (maxSteps := 2000000) only [vup, cond_true, cond_false, Nat.reduceBEq])
  clear hN12
  try clear N12
  refine Zm ?_
  refine Zo fun Q hQ => ?_
  refine Yi (γ := Nat × Value × Zh) (fun g => 1 ≤ g.1 ∧ g.1 ≤ 2 ^ n ∧ CornSlR g.2.2 g.2.1 (Wa n l (g.1 - 1)) ∧ Ext (fun _ => False) h g.2.2 ∧ ∀ b, Yj g.2.1 = some b → h.length ≤ b)
    (fun g => ([(0, Zc (n : Nat)), (1, v), (4, .slice none 0 0), (5, g.2.1), (6, Zc (g.1 : Nat))], g.2.2)) (fun g => 2 ^ n - g.1) (1, .slice none 0 0, h) ⟨Nat.le_refl _, hpp, ⟨[], .inl ⟨rfl, rfl⟩, trivial⟩, Ext.refl _ _, fun b hb => by cases hb⟩ (by simp (maxSteps := 2000000) only [vup, cond_true, cond_false, Nat.reduceBEq, Int.natCast_one]) rfl ?_
  rintro ⟨s, out, hp⟩ ⟨hs1, hs, hcs, hEp, hbo⟩
  simp only at hs1 hs hcs hEp hbo
  refine Zo fun Q2 hQ2 => ?_
  simp only [l65_0]
  have hvp := hv.ext hEp
  by_cases hin : (s : Int) < ((2 ^ n : Nat) : Int)
  · have hs' : s < 2 ^ n := by omega
    refine Zl fun X hX => ?_
    refine Ze fun N13 hN13 => ?_
    simp (maxSteps := 2000000) only [↓Za, ↓Zb, ↓Zd, vup, cond_true, cond_false, aop, Zf, ev, sput, Zg, Yb, Ye, Nat.reduceBEq, Int.natCast_nonneg, hsh, hin]
    refine hN13 [(0, Zc (n : Nat)), (1, v), (4, .slice none 0 0), (5, out), (6, Zc (s : Nat)), (12, .bool true)] _ _ ?_ (by simp (maxSteps := 2000000) only [vup, cond_true, cond_false, Nat.reduceBEq])
    clear hN13
    try clear N13
    refine Yu rfl ?_
    refine Zi ?_
    simp (maxSteps := 2000000) only [↓Zr, Zf]
    refine hX [(0, Zc (n : Nat)), (1, v), (4, .slice none 0 0), (5, out), (6, Zc (s : Nat))] _ _ ?_ (by simp (maxSteps := 2000000) only [vup, cond_true, cond_false, Nat.reduceBEq])
    clear hX
    try clear X
    refine Zl fun Y hY => ?_
    refine Zm ?_
    have hcsucc : Wa n l s = Wa n l (s - 1) ++ (Wq n l s).toList := by
      obtain ⟨s', rfl⟩ : ∃ s', s = s' + 1 := ⟨s - 1, by omega⟩
      rw [Wa]; simp
    have goOn : ∀ e out' G2, CornSlR G2 out' (Wa n l s) → Ext (fun _ => False) h G2 → (∀ b, Yj out' = some b → h.length ≤ b) → ELe e [(0, Zc (n : Nat)), (1, v), (4, .slice none 0 0), (5, out'), (6, Zc (s : Nat))] → Y e G2 := by
      intro e out' G2 c1 c2 c3 he
      refine hY _ _ _ ?_ he
      refine Zi ?_
      have ea : addV .i64 (s : Int) 1 = ((s + 1 : Nat) : Int) := Vt (by omega)
      simp (maxSteps := 2000000) only [↓Za, ↓Zb, ↓Zd, vup, cond_true, cond_false, aop, ev, sput, Zg, Yb, Ye, Nat.reduceBEq, ea]
      exact hQ2 _ _ _ ⟨(s + 1, out', G2), ⟨by simp only; omega, by simp only; omega, by simpa using c1, c2, c3⟩, by simp only; omega, by simp (maxSteps := 2000000) only [vup, cond_true, cond_false, Nat.reduceBEq], rfl⟩
    refine Zl fun D hD => ?_
    have al : addV .i64 ((l.length : Nat) : Int) 1 = ((l.length + 1 : Nat) : Int) := Vt (by omega)
    refine Ze fun N14 hN14 => ?_
    simp (maxSteps := 2000000) only [↓Za, ↓Zb, ↓Zd, vup, List.map_cons, List.map_nil, cond_true, cond_false, aop, Zf, ev, sput, Zg, Yb, Ye, Zk, Nat.reduceBEq, tyf, Yy, List.nil_append, List.append_nil]
    refine (worldsOf_call (n := n) (s := s) (by omega) (by omega)).mono ?_
    rintro wv G ⟨hw, hEG⟩
    have hcl : (Wh (Yr n s)).length = (Yr n s).length := Vh _
    have hvG := hvp.ext hEG
    by_cases hwide : (Yr n s).length > l.length + 1
    · have hgt : ((((Yr n s).length : Nat) : Int) > ((l.length + 1 : Nat) : Int)) := by omega
      simp (maxSteps := 2000000) only [vup, hw.len, hcl, hvG.len, al, hgt]
      refine hN14 [(0, Zc (n : Nat)), (1, v), (4, .slice none 0 0), (5, out), (6, Zc (s : Nat)), (22, .bool true)] _ _ ?_ (by simp (maxSteps := 2000000) only [vup, cond_true, cond_false, Nat.reduceBEq])
      clear hN14
      try clear N14
      refine Yu rfl ?_
      refine Zi ?_
      simp (maxSteps := 2000000) only [↓Ym, Zf, Zp]
      exact goOn _ out G (by rw [hcsucc, cornersTo_wide hwide]; simpa using hcs.ext hEG) (hEp.trans hEG) hbo (by simp (maxSteps := 2000000) only [vup, cond_true, cond_false, Nat.reduceBEq])
    have hgt : ¬ ((((Yr n s).length : Nat) : Int) > ((l.length + 1 : Nat) : Int)) := by omega
    simp (maxSteps := 2000000) only [vup, hw.len, hcl, hvG.len, al, hgt]
    refine hN14 [(0, Zc (n : Nat)), (1, v), (4, .slice none 0 0), (5, out), (6, Zc (s : Nat)), (22, .bool false)] _ _ ?_ (by simp (maxSteps := 2000000) only [vup, cond_true, cond_false, Nat.reduceBEq])
    clear hN14
    try clear N14
    refine Yf rfl ?_
    refine Zi ?_
    simp (maxSteps := 2000000) only [↓Zr, Zf]
    refine hD [(0, Zc (n : Nat)), (1, v), (4, .slice none 0 0), (5, out), (6, Zc (s : Nat))] _ _ ?_ (by simp (maxSteps := 2000000) only [vup, cond_true, cond_false, Nat.reduceBEq])
    clear hD
    try clear D
    refine Ze fun N15 hN15 => ?_
    simp (maxSteps := 2000000) only [↓Za, ↓Zb, ↓Zd, vup, List.map_cons, List.map_nil, cond_true, cond_false, aop, Zf, ev, sput, Zg, Nat.reduceBEq, Yy, List.nil_append, List.append_nil]
    refine (rcorner_call hvG hval hs1 hs').mono ?_
    rintro r G' ⟨hEr, x, ok, rfl, hres⟩
    simp (maxSteps := 2000000) only [Ui, Uj]
    refine hN15 [(0, Zc (n : Nat)), (1, v), (4, .slice none 0 0), (5, out), (6, Zc (s : Nat)), (7, x), (8, .bool ok)] _ _ ?_ (by simp (maxSteps := 2000000) only [vup, cond_true, cond_false, Nat.reduceBEq])
    clear hN15
    try clear N15
    have hE2 := hEp.trans (hEG.trans hEr)
    have hcs2 := hcs.ext (hEG.trans hEr)
    refine Ze fun N16 hN16 => ?_
    simp (maxSteps := 2000000) only [↓Za, ↓Zb, ↓Zd, vup, cond_true, cond_false, aop, Zf, ev, sput, Zg, Nat.reduceBEq]
    refine hN16 [(0, Zc (n : Nat)), (1, v), (4, .slice none 0 0), (5, out), (6, Zc (s : Nat)), (7, x), (8, .bool ok), (30, .bool ok)] _ _ ?_ (by simp (maxSteps := 2000000) only [vup, cond_true, cond_false, Nat.reduceBEq])
    clear hN16
    try clear N16
    cases hc : Wq n l s with
    | none =>
      rw [hc] at hres hcsucc
      obtain ⟨rfl, rfl⟩ := hres
      refine Yf rfl ?_
      refine Zi ?_
      simp (maxSteps := 2000000) only [↓Zr, Zf, Zp]
      exact goOn _ out G' (by rw [hcsucc]; simpa using hcs2) hE2 hbo (by simp (maxSteps := 2000000) only [vup, cond_true, cond_false, Nat.reduceBEq])
    | some b =>
      rw [hc] at hres hcsucc
      obtain ⟨rfl, ⟨bl, rfl, hbl⟩, hfr⟩ := hres
      refine Yu rfl ?_
      obtain ⟨us, hou, heach⟩ := hcs2
      have hlen3 := heach.len
      have hcl := cornersTo_len n l (s - 1)
      refine Zi ?_
      simp (maxSteps := 2000000) only [↓Za, ↓Zb, ↓Zd, vup, List.map_cons, List.map_nil, cond_true, cond_false, aop, Zf, Zp, ev, sput, Zg, Zk, Nat.reduceBEq, litV el_94 zero_47 Um]
      refine OwnV.app (us := [.slice (some ⟨bl, 0, none⟩) b.length b.length]) (hou.ext (Ext.app _ _ _)) app_94_94 (.inr ⟨G'.length, 0, none, 1, [.slice (some ⟨bl, 0, none⟩) b.length b.length], 47, false, rfl, Nat.le_refl _, by simp [view, Blk.view], rfl⟩) (fun w hw => ?_) (by simp; omega) ?_
      · rcases List.mem_append.1 hw with h1 | h1
        · obtain ⟨b, bl, rfl, _⟩ := heach.mem w h1
          exact ⟨rfl, rfl⟩
        · rw [List.mem_singleton.1 h1]; exact ⟨rfl, rfl⟩
      · intro out' G3 ho3 hE3 hb3
        obtain ⟨hEn, hbn⟩ := oExt (H' := G') hE2 hbo _ hE3 hb3
        have keep : ∀ bl c, G'[bl]? = some (Blk.cells c 26 false) → G3[bl]? = some (Blk.cells c 26 false) := fun bl c hbl => by
          have hlt := Yg hbl
          rw [hE3.2 bl (by rw [List.length_append]; omega) (fun hc => ?_), List.getElem?_append_left hlt, hbl]
          obtain ⟨c', hc'⟩ := hou.blk hc
          rw [hbl] at hc'
          exact absurd (Blk.cells.inj (Option.some.inj hc')).2.1 (by decide)
        refine goOn _ out' G3 ⟨us ++ [.slice (some ⟨bl, 0, none⟩) b.length b.length], ho3, ?_⟩ hEn hbn (by simp (maxSteps := 2000000) only [vup, cond_true, cond_false, Nat.reduceBEq])
        rw [hcsucc]
        exact Each.app (heach.imp fun w b ⟨bl, q1, q2⟩ => ⟨bl, q1, keep bl _ q2⟩) ⟨⟨bl, rfl, keep _ _ hbl⟩, trivial⟩
  · have hss := Vx hin hs
    subst hss
    refine Zl fun X hX => ?_
    refine Ze fun N17 hN17 => ?_
    simp (maxSteps := 2000000) only [↓Za, ↓Zb, ↓Zd, vup, cond_true, cond_false, aop, Zf, ev, sput, Zg, Yb, Ye, Nat.reduceBEq, Int.natCast_nonneg, hsh, hin]
    refine hN17 [(0, Zc (n : Nat)), (1, v), (4, .slice none 0 0), (5, out), (6, Zc (2 ^ n : Nat)), (12, .bool false)] _ _ ?_ (by simp (maxSteps := 2000000) only [vup, cond_true, cond_false, Nat.reduceBEq])
    clear hN17
    try clear N17
    refine Yf rfl ?_
    refine Zi ?_
    simp (maxSteps := 2000000) only [↓Ym, Zf]
    refine hQ2 _ _ _ (hQ _ _ _ ?_)
    simp (maxSteps := 2000000) only [Zf, Zp, Zs, if_true]
    refine hZ [(0, Zc (n : Nat)), (1, v), (4, .slice none 0 0), (5, out), (12, .bool false)] _ _ ?_ (by simp (maxSteps := 2000000) only [vup, cond_true, cond_false, Nat.reduceBEq])
    clear hZ
    try clear Z
    refine Zi ?_
    simp (maxSteps := 2000000) only [↓Za, ↓Zu, ↓Zx, ↓Zb, ↓Zd, vup, cond_true, cond_false, aop, Zf, ev, sput, Zg, Nat.reduceBEq, Zs, Wc, tup]
    exact ⟨hEp, hcs⟩

theorem s27_callW [Tabs Try.prog] {args : List Value} {h : Zh} {Q : Value → Zh → Prop} (hsz : args.length ≤ 10) (hk : AWS Try.prog 10 s27 (Zs Try.prog [.tmp 4] Q) (Zt 0 args) h) : ACall Try.prog 27 args h Q :=
  Ys Try.func27 rfl (enters_of Try.func27 (by kernel_rfl) rfl) rfl rfl (by decide) s27_strip s27_ok hsz hk
theorem rsound_call [Tabs prog] {h : Zh} {n : Nat} {v : Value} {l : List (Int × Int)} (hv : PairSl h v l) (hval : Xg n l = true) : Xp prog 27 [Zc (n : Nat), v] h (.bool (!(Xq n l).isEmpty)) := by
  refine ACall.forget (Low.bool _) ?_
  refine s27_callW (by simp) ?_
  refine Zi ?_
  simp (maxSteps := 2000000) only [s27, ↓Za, ↓Zu, ↓Zx, ↓Zb, ↓Zd, vup, List.map_cons, List.map_nil, cond_true, cond_false, aop, Zf, Zt, ev, sput, Zg, Yb, Ye, Zk, Nat.reduceBEq, Nat.reduceAdd, Zs, Wc, tup, tyf, Yy, List.nil_append, List.append_nil]
  refine (rcorners_call hv hval).mono ?_
  rintro r h1 ⟨hE, ws, ho, he⟩
  have hl := he.len
  have e : decide (((ws.length : Nat) : Int) > 0) = !(Xq n l).isEmpty := by
    rw [hl]
    cases Xq n l <;> simp
  simp (maxSteps := 2000000) only [vup, ho.val.len, e]
  exact hE
end Go.Proofs.Try.Am
