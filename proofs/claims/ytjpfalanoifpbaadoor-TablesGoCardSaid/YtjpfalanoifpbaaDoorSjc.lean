/- Texts of this claim, merged by a program (wip/tools/shake.py); what nothing names is left out. -/
import Derived.Lib.SmallJoins
import Derived.Lib.SliceRun
import Derived.Test.YtjpfalanoifpbaaDoorSjb
section
set_option linter.unusedVariables false
set_option linter.unusedSimpArgs false
namespace Go.Proofs.YtjpfalanoifpbaaDoor.X
open Go.RowKit Go.Proofs.YtjpfalanoifpbaaDoorW.PrintWords Go.Proofs.YtjpfalanoifpbaaDoorW.PrintLast Go.Proofs.YtjpfalanoifpbaaDoorW.PrintMore Go.Proofs.YtjpfalanoifpbaaDoor.T
theorem ri_lit (W : World) {B : Nat} (hB : B ≤ W.heap.size) (x : It) : RI B (W.alloc (.cells #[.int .i64 (x.1 : Nat), .int .i64 (x.2 : Nat)] 122)) (.slice (some ⟨W.heap.size, 0, none⟩) 1 1) [x] :=
  ⟨fun _ _ => trivial, OwnRow.lit (ps := [x]) (inner := [.int .i64 (x.1 : Nat), .int .i64 (x.2 : Nat)]) W B (Reps.snoc (ps := []) (cs := []) (Reps.none _ _) (ki_rep x) rfl) hB (by simp)⟩
theorem rs_lit (W : World) {B : Nat} {v : Value} {st : List It} (hB : B ≤ W.heap.size) (h : RI B W v st) : Kd.R KS 121 (W.alloc (.cells #[v] 121)) B (fun _ => True) (.slice (some ⟨W.heap.size, 0, none⟩) 1 1) [st] := by
  refine ⟨fun _ _ => trivial, OwnRow.lit (ps := [st]) (inner := [v]) W B (Reps.snoc (ps := []) (cs := []) (Reps.none _ _) ⟨v, rfl, ?_⟩ rfl) hB (by simp)⟩
  refine Kd.R_mono (Kd.R_below (Kd.R_bound h) (below_one _)) fun k hk => ⟨trivial, fun e => ?_⟩
  have h3 : k = W.heap.size := by simpa [Value.ownBlock] using e
  have := hk.2.2.1
  omega
theorem Tb.first {w0 w4 : World} {G : Nat} {gs v : Value} {F : Nat → Nat} {st : List It} (hG : w4.heap[G]? = some (.cells (cells8 gs (.slice none 0 0) (.slice none 0 0) F) 116 (0, 0))) (hv : RI w0.heap.size w4 v st) (hb : Below w0.heap.size w0 w4) (hGw : w0.heap.size ≤ G) :
    Tb w0 ((w4.alloc (.cells #[v] 121)).setCell ⟨G, 1, none⟩ (.slice (some ⟨w4.heap.size, 0, none⟩) 1 1)) G gs (.slice (some ⟨w4.heap.size, 0, none⟩) 1 1) (.slice none 0 0) F [st] [] [] := by
  have hba := below_one (w := w4) (.cells #[v] 121)
  have hG1 := (hba.block _ (Array.getElem?_eq_some_iff.1 hG).1).trans hG
  refine ⟨?_, Kd.R_set (rs_lit w4 hb.size hv) hG1 (by decide) 1 _, Kd.R_nil _ _ _ _ _, rfl, fun i r m h => by simp at h, fun r h => by simp at h, by simp, (hb.trans (hba.mono hb.size)).setCell (p := ⟨G, 1, none⟩) hGw _, hGw⟩
  rw [blk_set hG1]
  rfl
theorem km_read {w : World} {B : Nat} {ok : Nat → Prop} {v : Value} {rs : List Nat} (h : Kd.R KM 124 w B ok v rs) : ∃ A c, v = .slice A rs.length c ∧ ∀ (i r : Nat), rs[i]? = some r → ∃ b off, A = some ⟨b, off, none⟩ ∧ rs.length ≤ c ∧ w.cell? ⟨b, off + i, none⟩ = some (.map (some r)) := by
  obtain ⟨A, c, rfl, hc, hC⟩ := Kd.R_reads h
  refine ⟨A, c, rfl, fun i r hi => ?_⟩
  have hlt := (List.getElem?_eq_some_iff.1 hi).1
  obtain ⟨ad, rfl, hr⟩ := hC.2.2 (by omega)
  obtain ⟨cs, hs, hk, hcell⟩ := hr i _ hi
  have e : cs = [.map (some r)] := hk
  subst e
  have h0 := hcell 0 _ rfl
  rw [show i * KM.sz + 0 = i from by show i * 1 + 0 = i; omega] at h0
  have hsp : ad.spot = none := by
    have hp : rs[0]? = some (rs[0]'(by omega)) := List.getElem?_eq_getElem (by omega)
    obtain ⟨cs, hs, hk, hcell⟩ := hr 0 _ hp
    have e : cs = [.map (some _)] := hk
    subst e
    have := hcell 0 _ rfl
    rw [show ad.add (0 * KM.sz + 0) = ad by simp [Addr.add]] at this
    exact World.cell?_spot this
  have ha : ad.add i = ⟨ad.block, ad.off + i, none⟩ := by
    unfold Addr.add
    by_cases hj : i = 0
    · subst hj
      rw [if_pos rfl, ← hsp]
      simp
    · rw [if_neg hj]
  rw [ha] at h0
  exact ⟨ad.block, ad.off, by rw [← hsp], hc, h0⟩
theorem info124 : (Tryd.prog.info? 124).map (fun i => (i.zero, i.size, i.bytes)) = some (some (.map none), 1, 8) := by kernel_rfl
theorem info121 : (Tryd.prog.info? 121).map (fun i => (i.zero, i.size, i.bytes)) = some (some (.slice none 0 0), 1, 24) := by kernel_rfl
theorem Tb.keptG {w0 w w1 : World} {G : Nat} {gs vS vG : Value} {F : Nat → Nat} {out : List (List It)} {rs : List Nat} {ms : List GoL} (h : Tb w0 w G gs vS vG F out rs ms) (hg : w.grownBy w1 vG.ownBlock) : w1.heap[G]? = some (.cells (cells8 gs vS vG F) 116 (0, 0)) := by
  obtain ⟨i1, ho1⟩ := Kd.R_own h.go
  refine (hg.block G h.lt fun e => ?_).trans h.blk
  obtain ⟨cs, hc⟩ := own_typed ho1 G e.symm
  rw [h.blk] at hc
  injection hc with hc
  injection hc with _ hc
  exact absurd hc (by decide)
theorem Tb.keptS {w0 w w1 : World} {G : Nat} {gs vS vG : Value} {F : Nat → Nat} {out : List (List It)} {rs : List Nat} {ms : List GoL} (h : Tb w0 w G gs vS vG F out rs ms) (hg : w.grownBy w1 vS.ownBlock) {g : Nat} {cs : Array Value} {t : TypeId} {fr : Nat × Nat} (hb : w.heap[g]? = some (.cells cs t fr)) (ht : t ≠ 121) : w1.heap[g]? = some (.cells cs t fr) := by
  obtain ⟨i1, ho1⟩ := Kd.R_own h.st
  refine (hg.block g (Array.getElem?_eq_some_iff.1 hb).1 fun e => ?_).trans hb
  obtain ⟨cs2, hc⟩ := own_typed ho1 g e.symm
  rw [hb] at hc
  injection hc with hc
  injection hc with _ hc
  exact ht hc
def letC : Array Value := #[.int .u8 65, .int .u8 66, .int .u8 67, .int .u8 68, .int .u8 69, .int .u8 97, .int .u8 98, .int .u8 99, .int .u8 100]
theorem letC_at {w : World} {H : Nat} (h : w.heap[H]? = some (.cells letC 5 (9, 10))) {k : Nat} (hk : k < 9) : w.cell? ⟨H, k, none⟩ = some (.int .u8 (lets[k]'hk)) := by
  rw [cell_of_row w H k letC 5 (9, 10) h]
  match k, hk with
  | 0, _ => rfl
  | 1, _ => rfl
  | 2, _ => rfl
  | 3, _ => rfl
  | 4, _ => rfl
  | 5, _ => rfl
  | 6, _ => rfl
  | 7, _ => rfl
  | 8, _ => rfl
theorem Tb.rs_lt {w0 w : World} {G : Nat} {gs vS vG : Value} {F : Nat → Nat} {out : List (List It)} {rs : List Nat} {ms : List GoL} (h : Tb w0 w G gs vS vG F out rs ms) {r : Nat} (hr : r ∈ rs) : r < w.heap.size := by
  obtain ⟨i, hi⟩ := List.getElem?_of_mem hr
  have hlt := (List.getElem?_eq_some_iff.1 hi).1
  obtain ⟨m, hm⟩ : ∃ m, ms[i]? = some m := ⟨_, List.getElem?_eq_getElem (by rw [← h.ln]; exact hlt)⟩
  exact (h.mp i r m hi hm).lt
theorem isM_new {w : World} {r : Nat} (h : w.heap[r]? = some (.map #[] 0)) : IsM (Value.int .u8) natV w r [] := ⟨#[], 0, h, rfl, Go.MapKept.stamped_empty 0⟩
theorem goA_start {L : Nat → Int} {R : Nat → ByteArray} {n : Nat} {out : List (List It)} {ms : List GoL} {x : Nat} {st : List It} (h : GoA L R n out ms (fun _ => lets)) (hx : ms.length = x) (hst : out[x]? = some st) : GoA L R n out (ms ++ [[]]) (fun i => if i = x then lets.take 0 else lets) := fun i s m h1 h2 => by
  show GoM L R n out s (if i = x then lets.take 0 else lets) m
  by_cases e : i = x
  · subst e
    rw [if_pos rfl]
    rw [← hx, List.getElem?_append_right (Nat.le_refl _)] at h2
    simp at h2
    subst h2
    exact GoM.start out s
  · rw [if_neg e]
    have hi : i < ms.length := by
      have := (List.getElem?_eq_some_iff.1 h2).1
      simp at this
      omega
    rw [List.getElem?_append_left hi] at h2
    exact h i s m h1 h2
theorem letC_conv (G : Nat) (W : World) (u : Value) : (convert 74 74 (.slice (some ⟨W.heap.size, 0, none⟩) 9 9)).run Tryd.prog ((W.setCell ⟨G, 2, none⟩ u).alloc (.cells #[.int .u8 65, .int .u8 66, .int .u8 67, .int .u8 68, .int .u8 69, .int .u8 97, .int .u8 98, .int .u8 99, .int .u8 100] 5)) = .ok (.slice (some ⟨W.heap.size, 0, none⟩) 9 9) ((W.setCell ⟨G, 2, none⟩ u).alloc (.cells #[.int .u8 65, .int .u8 66, .int .u8 67, .int .u8 68, .int .u8 69, .int .u8 97, .int .u8 98, .int .u8 99, .int .u8 100] 5 (9, 10))) :=
  Go.Joins.run_convert_bytes_const_at (P := Tryd.prog) (W.setCell ⟨G, 2, none⟩ u) 74 5 letC 9 9 W.heap.size (by simp [World.setCell]) Tryd.underlying74 Tryd.underlying5
theorem Lv.kept {W wr w1 : World} {H : Nat} {v : Value} {l : List It} (h : Lv W wr H v l) (hg : wr.grownBy w1 v.ownBlock) : w1.heap[H]? = some (.cells #[v] 121 (0, 0)) := by
  obtain ⟨i1, ho1⟩ := Kd.R_own h.row
  refine (hg.block H h.lt fun e => ?_).trans h.blk
  obtain ⟨cs, hc⟩ := own_typed ho1 H e.symm
  rw [h.blk] at hc
  injection hc with hc
  injection hc with _ hc
  exact absurd hc (by decide)
theorem ki_up {w : World} {B : Nat} {ok : Nat → Prop} (a b : Nat) : KI.M w B ok (a, b + 1) [.int .i64 (a : Nat), .int .i64 ((b : Int) + 1)] := ki_rep (a, b + 1)
theorem ri_ir {B : Nat} {w : World} {A : Option Addr} {m c : Nat} {l : List It} (h : RI B w (.slice A m c) l) : Ir w A l.length c l := by
  obtain ⟨A', c', e, hI⟩ := ki_read h
  injection e with e1 e2 e3
  subst e1 e3
  exact hI
theorem state_len {L : Nat → Int} {R : Nat → ByteArray} {n : Nat} (h4 : R4 R n) (hn : n ≤ 8) {s : List It} (h : Asc s ∧ ∀ x ∈ s, Fits L R n x) : s.length ≤ 45 := by
  have := list_le (n := n) (l := s) (h.1.imp fun {a b} h e => by rw [e] at h; omega) (fun x hx => ⟨(h.2 x hx).1, (h.2 x hx).lt5 h4⟩)
  omega
theorem ovr_ne {L : Nat → Int} {R : Nat → ByteArray} {n : Nat} (h4 : R4 R n) {st : List It} (hs : ∀ x ∈ st, Fits L R n x) {c : Int} (hc : c ≠ 0) (h : nxt L R n st c ≠ []) : ovr L R n st c ≠ [] := by
  obtain ⟨y, hy⟩ := List.exists_mem_of_ne_nil _ h
  have : y ∈ ovr L R n st c := (clo_mem h4 (nxt_fits hs hc)).2 (inC_of hy)
  intro e
  rw [e] at this
  cases this
theorem goA_at {L : Nat → Int} {R : Nat → ByteArray} {n : Nat} {out : List (List It)} {ms : List GoL} {x k : Nat} (h : GoA L R n out ms (fun i => if i = x then lets.take k else lets)) {i : Nat} {s : List It} {m : GoL} (h1 : out[i]? = some s) (h2 : ms[i]? = some m) : GoM L R n out s (if i = x then lets.take k else lets) m := h i s m h1 h2
theorem goA_skip {L : Nat → Int} {R : Nat → ByteArray} {n : Nat} {out : List (List It)} {ms : List GoL} {x k : Nat} {st : List It} {z : Int} (h : GoA L R n out ms (fun i => if i = x then lets.take k else lets)) (hz : lets[k]? = some z) (hst : out[x]? = some st) (hn : nxt L R n st z = []) : GoA L R n out ms (fun i => if i = x then lets.take (k + 1) else lets) := fun i s m h1 h2 => by
  show GoM L R n out s (if i = x then lets.take (k + 1) else lets) m
  have := goA_at h h1 h2
  by_cases e : i = x
  · subst e
    rw [if_pos rfl] at this ⊢
    rw [hst] at h1
    injection h1 with h1
    subst h1
    rw [take_succ_of hz]
    exact this.skip hn
  · rw [if_neg e] at this ⊢
    exact this
theorem goA_put {L : Nat → Int} {R : Nat → ByteArray} {n : Nat} {out : List (List It)} {ms : List GoL} {x k : Nat} {st : List It} {z : Int} {mx : GoL} (h : GoA L R n out ms (fun i => if i = x then lets.take k else lets)) (hz : lets[k]? = some z) (hst : out[x]? = some st) (hm : ms[x]? = some mx) (hn : nxt L R n st z ≠ []) (ho : ovr L R n st z ∈ out) : GoA L R n out (ms.set x (putL mx z (leadsTo L R n out st z))) (fun i => if i = x then lets.take (k + 1) else lets) := fun i s m h1 h2 => by
  show GoM L R n out s (if i = x then lets.take (k + 1) else lets) m
  by_cases e : i = x
  · subst e
    rw [if_pos rfl]
    rw [hst] at h1
    injection h1 with h1
    subst h1
    rw [List.getElem?_set_self (List.getElem?_eq_some_iff.1 hm).1] at h2
    injection h2 with h2
    subst h2
    rw [take_succ_of hz]
    have := goA_at h hst hm
    rw [if_pos rfl] at this
    exact this.put hn ho
  · rw [if_neg e]
    rw [List.getElem?_set_ne (Ne.symm e)] at h2
    have := goA_at h h1 h2
    rw [if_neg e] at this
    exact this
theorem leads_new {L : Nat → Int} {R : Nat → ByteArray} {n : Nat} {out : List (List It)} {st : List It} {c : Int} (h : ovr L R n st c ∉ out) : leadsTo L R n (out ++ [ovr L R n st c]) st c = out.length := by
  refine fnd_leads (by simp) fun j hj q => ?_
  rw [List.getElem?_append_left hj] at q
  exact h (List.mem_of_getElem? q)
set_option maxHeartbeats 32000000 in
set_option maxRecDepth 100000 in
theorem build_calls (A : Option Addr) (n c : Nat) (L : Nat → Int) (R : Nat → ByteArray) (w : World) (hA : Sr w A n c L R) (hg : Gr L R n) :
    Calls Tryd.prog 91 #[.slice A n c] w fun e w' => ((∃ G vS vG out rs ms, e = .returned (.tuple #[.pointer (some ⟨G, 0, none⟩), .int .i64 0]) ∧ StaI L R n out out.length ∧ Tb w w' G (.slice A n c) vS vG (nextN L R n 25) out rs ms ∧ GoA L R n out ms (fun _ => lets) ∧ ms.length = out.length) ∨ (stas L R n = none ∧ e = .returned (.tuple #[.pointer none, .int .i64 6]))) ∧ Below w.heap.size w w' := by
  have hn1 := hg.n1
  have hn8 := hg.n8
  have h4 : R4 R n := hg.sz
  obtain ⟨b, off, rfl, hnc, hP⟩ := hA.open hn1
  have HA := Lib.hid hA
  have HGR := Lib.hid hg
  have H4 := Lib.hid h4
  have HL0 := Lib.hid ((hg.ok 0 hn1).1)
  have HNX := Lib.hid (next_calls _ n c L R w hA hg)
  clear hA hg hP h4
  obtain ⟨F, hF⟩ : ∃ F, nextN L R n 25 = F := ⟨_, rfl⟩
  rw [hF] at HNX ⊢
  clear hF
  unfold agg5 at HNX
  obtain ⟨gs, hgs⟩ : ∃ gs, gs = Value.slice (some ⟨b, off, none⟩) n c := ⟨_, rfl⟩
  go_enter Tryd.func91, Tryd.ntmps91
  go_wp2_with fail
  refine HNX.out.mono ?_
  rintro e w1 ⟨rfl, hb1⟩
  have HB1 := Lib.hid hb1
  clear hb1 HNX
  go_wp2_with ((with_reducible refine gate_dst (N := 16) rfl ?_); refine box_event ?hg (N := 16) ?hd (cs := cells8 (.slice (some ⟨b, off, none⟩) n c) (.slice none 0 0) (.slice none 0 0) F) (t := 116) ?hr ?_; (case hd => rfl); (case hg => rfl); (case hr => first | (unfold cells8; go_simp; done) | (unfold cells8; go_simp; rfl)); intro G hG w2 hw2 hb2; have HGB := Lib.hid hw2; have HGE := Lib.hid hG; have HB2 := Lib.hid (below_step HB1.out hb2); clear hG hw2 hb2)
  have HGL : Hid (w.heap.size ≤ G) := Lib.hid (by rw [HGE.out]; exact HB1.out.size)
  have hGlt := (Array.getElem?_eq_some_iff.1 HGB.out).1
  have hbL := below_one (w := w2) (.cells #[.int .i64 (n : Nat), .int .i64 ((0 : Nat) : Nat)] 122)
  have HB3 := Lib.hid (HB2.out.trans (hbL.mono HB2.out.size))
  have HRI := Lib.hid (ri_lit w2 (B := w.heap.size) HB2.out.size (n, 0))
  have HGB3 := Lib.hid ((hbL.block _ hGlt).trans HGB.out)
  have HNE : Hid (G ≠ w2.heap.size) := Lib.hid (Nat.ne_of_lt hGlt)
  clear hbL hGlt HB1
  go_wp2_with fail
  refine (closure_calls _ n c L R (fun x => x = (n, 0)) w _ _ [(n, 0)] HA.out HGR.out HB3.out HRI.out (by simp) (by simp) (fun y => by simp) sta0_fits).mono ?_
  rintro e w4 ⟨v, rfl, hcl⟩
  rw [show (clo L R n fun x => x = (n, 0)) = sta0 L R n from rfl] at hcl
  obtain ⟨A4, c4, e4⟩ := Kd.R_slice hcl.row
  subst e4
  have hGB4 : w4.heap[G]? = some (.cells (cells8 (.slice (some ⟨b, off, none⟩) n c) (.slice none 0 0) (.slice none 0 0) F) 116 (0, 0)) := (hcl.gr.block G (Array.getElem?_eq_some_iff.1 HGB3.out).1 (fun e => by
    have : G = w2.heap.size := by simpa [Value.ownBlock] using e
    exact HNE.out this)).trans HGB3.out
  have HT := Lib.hid (Tb.first hGB4 hcl.row hcl.bl HGL.out)
  have HB4 := Lib.hid hcl.bl
  have hbA := below_one (w := w4) (.cells #[.slice A4 (sta0 L R n).length c4] 121)
  have hG5 := (hbA.block _ (Array.getElem?_eq_some_iff.1 hGB4).1).trans hGB4
  have g1 := blk_cell hG5 1
  have g2 := blk_frozen hG5 1
  simp only [cells8] at g1
  simp at g1
  clear hcl hGB4 hbA hG5 HGB HGB3 HRI HB3 HB2 HNE HGE
  clear HB4
  have HSI := Lib.hid (StaI.start (L := L) (R := R) (n := n) H4.out)
  have HGA : Hid (GoA L R n [sta0 L R n] [] (fun _ => lets)) := Lib.hid (fun i st m h1 h2 => by simp at h2)
  go_wp2_with fail
  clear g1 g2
  rw [← hgs] at HT
  generalize (w4.alloc (.cells #[.slice A4 (sta0 L R n).length c4] 121)).setCell ⟨G, 1, none⟩ (.slice (some ⟨w4.heap.size, 0, none⟩) 1 1) = w5 at HT ⊢
  generalize (Value.slice (some ⟨w4.heap.size, 0, none⟩) 1 1) = vS0 at HT ⊢
  go_loopw [5] (fun i wr => ∃ (x : Nat) (vS vG : Value) (out : List (List It)) (rs : List Nat) (ms : List GoL), i = .int .i64 x ∧ x ≤ 64 ∧ Hid (StaI L R n out x) ∧ Hid (Tb w wr G gs vS vG F out rs ms) ∧ Hid (GoA L R n out ms (fun _ => lets)) ∧ Hid (ms.length = x)) (fun i _ => 65 - (intOf i).toNat)
  case atStart => exact ⟨0, _, _, _, _, _, rfl, by omega, HSI, HT, HGA, Lib.hid rfl⟩
  case round =>
    clear HSI HT HGA
    obtain ⟨x, vS, vG, out, rs, ms, rfl, hx64, HSI, HT, HGA, HML⟩ := hrel
    obtain ⟨AS, cS, eS, hSt⟩ := ks_read HT.out.st
    subst eS
    have d1 := HT.out.c1
    by_cases hxl : x < out.length
    · have hxI : (x : Int) < (out.length : Int) := by omega
      obtain ⟨st, hst⟩ : ∃ st, out[x]? = some st := ⟨_, List.getElem?_eq_getElem hxl⟩
      have HST := Lib.hid hst
      have HSK := Lib.hid (HSI.out.row hst)
      obtain ⟨AG, cG, eG⟩ := Kd.R_slice HT.out.go
      subst eG
      have hol := HSI.out.le
      have hrl : rs.length ≤ 64 := by have := HT.out.ln; have := HML.out; omega
      have d2 := HT.out.c2
      have d3 := HT.out.fz 2
      have hcv := letC_conv G
      clear hst hSt
      go_wp2_with (first | ((with_reducible refine gate_op (op := .makeMap 124 none) rfl ?_); refine map_make_event rfl 124 rfl ?_; intro r wm hr hm hb; have HMR := Lib.hid hm; have HTM := Lib.hid (HT.out.later hb); have HRE := Lib.hid hr; clear hm hb hr) | (at_builtin; refine Kd.R_append KM (w0 := w) w.heap.size rfl (.tmp 40) (.tmp 42) 114 124 (.map none) 8 rfl Tryd.underlying114 info124 rfl (by decide) (by decide) (.slice AG rs.length cG) rs r [.map (some r)] (fun _ => True) (fun _ => False) rfl rfl rfl (fun _ h => h.elim) (fun _ _ => trivial) HTM.out.go HTM.out.bl HTM.out.bl.size (by omega) ?_; intro v6 w6 hv hb hg hat; have hG6 := HTM.out.keptG hg; have k1 := blk_cell hG6 2; have k2 := blk_frozen hG6 2; simp only [cells8] at k1; simp at k1; have HT6 := Lib.hid (HTM.out.setG (isM_new HMR.out) (by rw [HRE.out]; exact HT.out.bl.size) (fun q => by have := HT.out.rs_lt q; rw [HRE.out] at this; omega) hv hb hg); obtain ⟨A6, c6, e6⟩ := Kd.R_slice hv; subst e6; clear hv hb hg hat hG6))
      have hbL := below_one (w := w6.setCell ⟨G, 2, none⟩ (.slice A6 (rs ++ [r]).length c6)) (.cells letC 5 (9, 10))
      have HT7 := Lib.hid (HT6.out.later hbL)
      have HLB := Lib.hid (blk_new (w6.setCell ⟨G, 2, none⟩ (.slice A6 (rs ++ [r]).length c6)) (.cells letC 5 (9, 10)))
      have hsz : (w6.setCell ⟨G, 2, none⟩ (.slice A6 (rs ++ [r]).length c6)).heap.size = w6.heap.size := by simp [World.setCell]
      rw [hsz] at HLB
      have HGA7 := Lib.hid (goA_start HGA.out HML.out HST.out)
      have HML7 : Hid ((ms ++ [[]]).length = x + 1) := Lib.hid (by rw [List.length_append, HML.out]; rfl)
      have HRX : Hid ((rs ++ [r])[x]? = some r) := Lib.hid (by
        have e : x = rs.length := by rw [HT.out.ln, HML.out]
        rw [e, List.getElem?_append_right (Nat.le_refl _)]
        simp)
      rw [show rs.length + 1 = (rs ++ [r]).length by simp]
      unfold letC at HLB HT7
      generalize (w6.setCell ⟨G, 2, none⟩ (.slice A6 (rs ++ [r]).length c6)).alloc (.cells #[.int .u8 65, .int .u8 66, .int .u8 67, .int .u8 68, .int .u8 69, .int .u8 97, .int .u8 98, .int .u8 99, .int .u8 100] 5 (9, 10)) = w7 at HLB HT7 ⊢
      have HLB : Hid (w7.heap[w6.heap.size]? = some (.cells letC 5 (9, 10))) := HLB
      generalize w6.heap.size = HL at HLB ⊢
      clear k1 k2 d1 d2 d3 hbL hsz HT6 HT HTM HMR HRE HGA HML hcv hrl hol HSI
      generalize (rs ++ [r]) = rs7 at HT7 HRX ⊢
      generalize (ms ++ [[]]) = ms7 at HT7 HGA7 HML7
      obtain ⟨AG7, cG7, eG7, hGm⟩ := km_read HT7.out.go
      injection eG7 with z1 z2 z3
      subst z1 z3
      obtain ⟨b7, o7, e7, hrc, -⟩ := hGm x r HRX.out
      subst e7
      have hxr : x < rs7.length := (List.getElem?_eq_some_iff.1 HRX.out).1
      clear hGm z2
      go_loopw [49] (fun i wr => ∃ (k : Nat) (vS : Value) (out : List (List It)) (ms : List GoL), i = .int .i64 k ∧ k ≤ 9 ∧ Hid (StaK L R n st out x k) ∧ Hid (Tb w wr G gs vS (.slice (some ⟨b7, o7, none⟩) rs7.length c6) F out rs7 ms) ∧ Hid (GoA L R n out ms (fun i => if i = x then lets.take k else lets)) ∧ Hid (ms.length = x + 1) ∧ Hid (wr.heap[HL]? = some (.cells letC 5 (9, 10)))) (fun i _ => 9 - (intOf i).toNat)
      case atStart => exact ⟨0, _, _, _, rfl, by omega, HSK, HT7, HGA7, HML7, HLB⟩
      case round =>
        clear HSK HT7 HGA7 HML7 HLB HST
        obtain ⟨k, vS, out, ms, rfl, hk9, HSK, HT, HGA, HML, HLB⟩ := hrel
        obtain ⟨AS, cS, eS, hSt⟩ := ks_read HT.out.st
        subst eS
        by_cases hkl : k < 9
        · have hkI : (k : Int) < 9 := by omega
          have a0 := letC_at HLB.out hkl
          obtain ⟨z, hz⟩ : ∃ z, lets[k]'hkl = z := ⟨_, rfl⟩
          rw [hz] at a0
          have HZ := Lib.hid hz
          have hx65 : x < out.length := (List.getElem?_eq_some_iff.1 HSK.out.at_).1
          have hbA := below_one (w := wr) (.cells #[.slice none 0 0] 121)
          have HLV := Lib.hid (Lv.start wr)
          obtain ⟨bS, oS, eS, hnS, hcS⟩ := hSt.open (by omega)
          subst eS
          obtain ⟨A', c', s0w, hI⟩ := hcS x st HSK.out.at_
          have s0 := (hbA.cell (p := ⟨bS, oS + x, none⟩) (World.block_lt_of_cell? _ _ s0w)).trans s0w
          have d1 := (HT.out.later hbA).c1
          have HIS := Lib.hid hI
          have HAW := Lib.hid (HA.out.later HT.out.bl)
          have HFS := Lib.hid ((HSK.out.fits st (List.mem_of_getElem? HSK.out.at_)).2)
          have HAS := Lib.hid ((HSK.out.fits st (List.mem_of_getElem? HSK.out.at_)).1)
          have hxcS : x < cS := by omega
          have hsl : st.length ≤ 45 := by
            have := list_le (n := n) (l := st) (HAS.out.imp fun {a b} h e => by rw [e] at h; omega) (fun x hx => ⟨(HFS.out x hx).1, (HFS.out x hx).lt5 H4.out⟩)
            omega
          have HStW := Lib.hid hSt
          have HBS : Hid (bS < wr.heap.size) := Lib.hid (World.block_lt_of_cell? _ _ s0w)
          have HZQ : Hid (lets[k]? = some z) := Lib.hid (by rw [List.getElem?_eq_getElem hkl, HZ.out])
          clear hz hSt hcS s0w hI hbA
          obtain ⟨W, hW⟩ : ∃ W, W = wr := ⟨_, rfl⟩
          subst hW
          go_wp2_with fail
          generalize W.alloc (.cells #[.slice none 0 0] 121) = wa at HLV ⊢
          have HLV : Hid (Lv W wa W.heap.size (.slice none 0 0) (nxt L R n (st.take 0) z)) := HLV
          obtain ⟨H, hH⟩ : ∃ H, W.heap.size = H := ⟨_, rfl⟩
          rw [hH] at HLV ⊢
          have HHH := Lib.hid hH
          clear s0 d1 a0 hH
          go_loopw [61] (fun j wr => ∃ (q : Nat) (v : Value), j = .int .i64 q ∧ q ≤ st.length ∧ Hid (Lv W wr H v (nxt L R n (st.take q) z))) (fun j _ => st.length - (intOf j).toNat)
          case atStart => exact ⟨0, _, rfl, by omega, HLV⟩
          case round =>
            clear HLV
            obtain ⟨q, v, rfl, hql, HLV⟩ := hrel
            obtain ⟨A5, c5, e5⟩ := Kd.R_slice HLV.out.row
            subst e5
            by_cases hqs : q < st.length
            · have hqI : (q : Int) < (st.length : Int) := by omega
              obtain ⟨b1, o1, e1, hm1, hP1⟩ := (HIS.out.later HLV.out.bl).open (by omega)
              subst e1
              obtain ⟨⟨y1, y2⟩, hy⟩ : ∃ y, st[q]? = some y := ⟨_, List.getElem?_eq_getElem hqs⟩
              have f0 := hP1.c0 q _ hy
              have f1 := hP1.c1 q _ hy
              simp only at f0 f1
              have HFY := Lib.hid (HFS.out (y1, y2) (List.mem_of_getElem? hy))
              have HNT := Lib.hid (nxt_take (L := L) (R := R) (n := n) hy z)
              have hqc : q < c' := by omega
              have hy4 : y2 ≤ 4 := Nat.le_trans HFY.out.2 (rs_le H4.out HFY.out.1)
              clear hy hP1
              have hbB := below_one (w := wr) (.cells #[.int .i64 (y1 : Nat), .int .i64 (y2 : Nat)] 122)
              obtain ⟨i0, i1⟩ := it_new wr 122 (y1 : Nat) (y2 : Nat)
              have HLV2 := Lib.hid (HLV.out.later hbB)
              clear hbB
              go_wp2_with fail
              refine (behind_calls _ n c L R (y1, y2) _ (HAW.out.later HLV2.out.bl) hn1 hn8 HFY.out H4.out HL0.out).mono ?_
              rintro e w4 ⟨rfl, hb4⟩
              have HLV4 := Lib.hid (HLV2.out.later hb4)
              have i0' := (hb4.cell (p := ⟨wr.heap.size, 0, none⟩) (World.block_lt_of_cell? _ _ i0)).trans i0
              have i1' := (hb4.cell (p := ⟨wr.heap.size, 1, none⟩) (World.block_lt_of_cell? _ _ i1)).trans i1
              clear hb4 HLV2 HLV i0 i1 f0 f1
              obtain ⟨zz, hzz⟩ : ∃ zz, bh L R n (y1, y2) = zz := ⟨_, rfl⟩
              rw [hzz] at HNT ⊢
              clear hzz
              by_cases hyz : zz = z
              · subst hyz
                rw [if_pos rfl] at HNT
                obtain ⟨l5, hl5⟩ : ∃ l5, nxt L R n (st.take q) zz = l5 := ⟨_, rfl⟩
                rw [hl5] at HNT HLV4
                have m0 := HLV4.out.c0
                have m1 := HLV4.out.fz
                have hl5l : l5.length ≤ 64 := by
                  rw [← hl5]
                  unfold nxt
                  rw [List.length_map]
                  refine Nat.le_trans (List.length_filter_le _ _) ?_
                  rw [List.length_take]
                  omega
                clear hl5
                go_wp2_with (at_builtin; refine Kd.R_append KI (w0 := W) W.heap.size rfl (.tmp 70) (.tmp 77) 121 122 (.agg #[.int .i64 0, .int .i64 0]) 16 rfl Tryd.underlying121 info122 rfl (by decide) (by decide) (.slice A5 l5.length c5) l5 (y1, y2 + 1) [.int .i64 (y1 : Nat), .int .i64 ((y2 : Int) + 1)] (fun _ => True) (fun _ => False) rfl rfl (ki_up y1 y2) (fun _ h => h.elim) (fun _ _ => trivial) HLV4.out.row HLV4.out.bl HLV4.out.bl.size (by omega) ?_; intro v6 w6 hv hb hg hat; have hG6 := HLV4.out.kept hg; have k1 := blk_cell hG6 0; have k2 := blk_frozen hG6 0; simp at k1; have HLV6 := Lib.hid (HLV4.out.set hv hb hg (by simp)); obtain ⟨A6, c6, e6⟩ := Kd.R_slice hv; subst e6; rw [show (l5 ++ [(y1, y2 + 1)]).length = l5.length + 1 by simp] at HLV6; clear hv hb hg hat hG6)
                refine ⟨⟨q + 1, _, by go_num, by omega, by rw [HNT.out]; exact HLV6⟩, by simp [intOf]; omega⟩
              · rw [if_neg hyz] at HNT
                go_wp2_with fail
                refine ⟨⟨q + 1, _, by go_num, by omega, by rw [HNT.out]; exact HLV4⟩, by simp [intOf]; omega⟩
            · obtain rfl : q = st.length := by omega
              rw [List.take_length] at HLV
              have hol := HSK.out.le
              by_cases hnx : nxt L R n st z = []
              · have e := HLV.out.nl hnx
                injection e with e1 e2 e3
                subst e1 e3
                have m0 := HLV.out.c0
                have hx : ∀ W : World, (binOp .eql 121 (.slice none (nxt L R n st z).length 0) (.slice none 0 0)).run Tryd.prog W = .ok (.bool true) W := fun W => Lib.run_eql_slice_nil (P := Tryd.prog) W 121 122 none (nxt L R n st z).length 0 0 0 Tryd.underlying121
                have HSK2 := Lib.hid (HSK.out.none_ hkl (by rw [HZ.out]; exact hnx))
                have HGA2 := Lib.hid (goA_skip HGA.out HZQ.out HSK.out.at_ hnx)
                have HT2 := Lib.hid (HT.out.later HLV.out.bl)
                have HLB2 := Lib.hid ((HLV.out.bl.block _ (Array.getElem?_eq_some_iff.1 HLB.out).1).trans HLB.out)
                clear hnx e2
                generalize (nxt L R n st z).length = lnx at m0 hx ⊢
                go_wp2_with fail
                refine ⟨⟨k + 1, _, out, ms, by go_num, by omega, HSK2, HT2, HGA2, HML, HLB2⟩, by simp [intOf]; omega⟩
              · have HNX := Lib.hid hnx
                have h0 : 0 < (nxt L R n st z).length := List.length_pos_iff.2 hnx
                obtain ⟨b5, o5, e5, hm5, -⟩ := (ri_ir HLV.out.row).open h0
                subst e5
                have m0 := HLV.out.c0
                have hx := fun W : World => Lib.run_eql_slice_nil (P := Tryd.prog) W 121 122 (some ⟨b5, o5, none⟩) (nxt L R n st z).length c5 0 0 Tryd.underlying121
                have hzn : z ≠ 0 := by rw [← HZ.out]; exact lets_ne hkl
                have HON := Lib.hid (ovr_ne H4.out HFS.out hzn hnx)
                have HOK := Lib.hid (ovr_ok H4.out HFS.out hzn)
                have HCL := Lib.hid (closure_calls _ n c L R (fun y => y ∈ nxt L R n st z) W wr _ (nxt L R n st z) HAW.out HGR.out HLV.out.bl HLV.out.row h0 (nxt_nodup HAS.out z) (fun y => Iff.rfl) (nxt_fits HFS.out hzn))
                rw [show (clo L R n fun y => y ∈ nxt L R n st z) = ovr L R n st z from rfl] at HCL
                have hol45 := state_len H4.out hn8 HOK.out
                clear hnx h0 hm5 hzn
                go_wp2_with fail
                refine HCL.out.mono ?_
                rintro e w8 ⟨v8, rfl, hcl⟩
                obtain ⟨A8, c8, e8⟩ := Kd.R_slice hcl.row
                subst e8
                have hG8 := HLV.out.kept hcl.gr
                have k1 := blk_cell hG8 0
                have k2 := blk_frozen hG8 0
                simp at k1
                have HLV8 := Lib.hid (HLV.out.set hcl.row hcl.bl hcl.gr HON.out)
                have HT8 := Lib.hid (HT.out.later HLV8.out.bl)
                have d1 := HT8.out.c1
                have HLB8 := Lib.hid ((HLV8.out.bl.block _ (Array.getElem?_eq_some_iff.1 HLB.out).1).trans HLB.out)
                clear hcl hG8 HLV HCL m0 hx
                obtain ⟨ov, hov⟩ : ∃ ov, ovr L R n st z = ov := ⟨_, rfl⟩
                rw [hov] at HLV8 HT8 HOK HON hol45 d1 HLB8 ⊢
                have HOV := Lib.hid hov
                clear hov
                go_wp2_with fail
                have hle : ∀ s ∈ out, s.length ≤ 1000 := fun s hs => Nat.le_trans (state_len H4.out hn8 (HSK.out.fits s hs)) (by decide)
                refine (idxS_calls (HStW.out.later HLV8.out.bl) (by omega) hle (by omega) HLV8.out.c0 (ri_ir HLV8.out.row)).mono ?_
                rintro e w9 ⟨⟨r', rfl, hf⟩, hb9⟩
                have HLV9 := Lib.hid (HLV8.out.later hb9)
                have HT9 := Lib.hid (HT8.out.later hb9)
                have HLB9 := Lib.hid ((hb9.block _ (Array.getElem?_eq_some_iff.1 HLB8.out).1).trans HLB8.out)
                obtain ⟨mx, hmx⟩ : ∃ mx, ms[x]? = some mx := ⟨_, List.getElem?_eq_getElem (by have := HML.out; omega)⟩
                have HMX := Lib.hid hmx
                clear hb9 HLV8 HT8 HLB8 d1 hle hmx k1 k2
                have d1 := HT9.out.c1
                rcases hf with ⟨rfl, hnew⟩ | ⟨k', rfl, hk', hat, hmem, hno⟩
                · have HNEW := Lib.hid hnew
                  clear hnew
                  have d4 := HLV9.out.c0
                  have HTd := Lib.hid (HT9.out.later (Below.refl _ w9).drew)
                  have HLVd := Lib.hid (HLV9.out.later (Below.refl _ w9).drew)
                  have HLBd := Lib.hid (((Below.refl _ w9).drew.block _ (Array.getElem?_eq_some_iff.1 HLB9.out).1).trans HLB9.out)
                  have HRO : Hid (Kd.R KI 122 w9.drew w.heap.size (fun k => W.heap.size ≤ k) (.slice A8 ov.length c8) ov) := Lib.hid (Kd.R_lower (Kd.R_mono (Kd.R_bound HLVd.out.row) (fun k hk => hk.2.1)) HT.out.bl.size)
                  have HNX2 : Hid (nxt L R n st (lets[k]'hkl) ≠ []) := Lib.hid (by rw [HZ.out]; exact HNX.out)
                  have HNW2 : Hid (ovr L R n st (lets[k]'hkl) ∉ out) := Lib.hid (by rw [HZ.out, HOV.out]; exact HNEW.out)
                  clear HT9 HLV9 HLB9
                  go_wp2_with fail
                  refine start_ (n := 11) (S := fun w' => w'.cell? ⟨G, 1, none⟩ = some (.slice (some ⟨bS, oS, none⟩) out.length cS) ∧ w'.cell? ⟨H, 0, none⟩ = some (.slice A8 ov.length c8)) (ds := [7,10]) #[false, false, false, false, false, false, false, false, false, false, false] (by kernel_rfl) rfl rfl ⟨by simpa using d1, by simpa using d4⟩ (fun hHeld => ?_)
                  refine pure_ (i := 0) (N := (some 98)) (v := ?_) (a' := ?_) #[true, false, false, false, false, false, false, false, false, false, false] rfl rfl (by kernel_rfl) (fun _ _ _ h => h) (Or.inl ⟨by rfl, ?_⟩) ?_ ?_
                  rotate_left
                  · intro w'; go_simp; first | done | with_reducible rfl
                  rotate_left
                  · simp only [Act.put, List.setIfInBounds_toArray, List.set_cons_zero, List.set_cons_succ, i64_w, i32_w]; rfl
                  refine pure_ (i := 1) (N := (some 99)) (v := ?_) (a' := ?_) #[true, true, false, false, false, false, false, false, false, false, false] rfl rfl (by kernel_rfl) (fun _ _ _ h => h) (Or.inl ⟨by rfl, ?_⟩) ?_ ?_
                  rotate_left
                  · intro w'; go_simp; first | done | with_reducible rfl
                  rotate_left
                  · simp only [Act.put, List.setIfInBounds_toArray, List.set_cons_zero, List.set_cons_succ, i64_w, i32_w]; rfl
                  refine pure_ (i := 2) (N := (some 100)) (v := ?_) (a' := ?_) #[true, true, true, false, false, false, false, false, false, false, false] rfl rfl (by kernel_rfl) (fun _ _ _ h => h) (Or.inl ⟨by rfl, ?_⟩) ?_ ?_
                  rotate_left
                  · intro w'; go_simp; first | done | with_reducible rfl
                  rotate_left
                  · simp only [Act.put, List.setIfInBounds_toArray, List.set_cons_zero, List.set_cons_succ, i64_w, i32_w]; rfl
                  refine pure_ (i := 3) (N := (some 101)) (v := ?_) (a' := ?_) #[true, true, true, true, false, false, false, false, false, false, false] rfl rfl (by kernel_rfl) (fun _ _ _ h => h) (Or.inl ⟨by rfl, ?_⟩) ?_ ?_
                  rotate_left
                  · intro w'; go_simp; first | done | with_reducible rfl
                  rotate_left
                  · simp only [Act.put, List.setIfInBounds_toArray, List.set_cons_zero, List.set_cons_succ, i64_w, i32_w]; rfl
                  refine take_ (i := 4) (N := (some 102)) (v := ?_) (a' := ?_) #[true, true, true, true, true, false, false, false, false, false, false] rfl rfl (by kernel_rfl) (fun _ _ _ h => h) (Or.inl ⟨by rfl, ?_⟩) hHeld ?_ ?_
                  rotate_left
                  · rintro w' ⟨s0, s1⟩; go_simp; first | done | with_reducible rfl
                  rotate_left
                  · simp only [Act.put, List.setIfInBounds_toArray, List.set_cons_zero, List.set_cons_succ, i64_w, i32_w]; rfl
                  refine take_ (i := 5) (N := (some 103)) (v := ?_) (a' := ?_) #[true, true, true, true, true, true, false, false, false, false, false] rfl rfl (by kernel_rfl) (fun _ _ _ h => h) (Or.inl ⟨by rfl, ?_⟩) hHeld ?_ ?_
                  rotate_left
                  · rintro w' ⟨s0, s1⟩; go_simp; first | done | with_reducible rfl
                  rotate_left
                  · simp only [Act.put, List.setIfInBounds_toArray, List.set_cons_zero, List.set_cons_succ, i64_w, i32_w]; rfl
                  refine one_ (i := 6) (N := (some 104)) #[true, true, true, true, true, true, true, false, false, false, false] rfl rfl (by kernel_rfl) (by decide) (fun K hK => ?_)
                  generalize w9.drew = wd at HTd HLVd HLBd HRO hHeld ⊢
                  obtain ⟨q1, q4⟩ := hHeld
                  have hbE := below_one (w := wd) (.cells #[.slice A8 ov.length c8] 121)
                  have p1 := (hbE.cell (p := ⟨G, 1, none⟩) (World.block_lt_of_cell? _ _ q1)).trans q1
                  have p4 := (hbE.cell (p := ⟨H, 0, none⟩) (World.block_lt_of_cell? _ _ q4)).trans q4
                  clear d1 d4 q1 q4 hbE
                  refine value_step (v := .slice (some ⟨wd.heap.size, 0, none⟩) 1 1) (w1 := wd.alloc (.cells #[.slice A8 ov.length c8] 121)) (by rfl) rfl (by go_simp) ?_
                  refine hK.out _ _ ⟨p1, p4⟩ (fun hHeld => ?_)
                  clear hK K
                  refine norm_ (a' := ?_) ?_ ?_
                  rotate_left
                  · show Act.put _ (some 104) _ = _; simp only [Act.put, List.setIfInBounds_toArray, List.set_cons_zero, List.set_cons_succ, i64_w, i32_w]; rfl
                  clear p1 p4 hHeld
                  refine last_ (i := 7) (N := (some 105)) #[true, true, true, true, true, true, true, true, false, false, false] rfl rfl (by kernel_rfl) (by decide) (fun K hK => ?_)
                  refine Kd.R_append_step KS (w0 := w) w.heap.size (by rfl) (.tmp 102) (.tmp 104) 62 121 (.slice none 0 0) 24 rfl Tryd.underlying62 info121 rfl (by decide) (by decide) (.slice (some ⟨bS, oS, none⟩) out.length cS) out ov [.slice A8 ov.length c8] (fun _ => True) (fun k => W.heap.size ≤ k) rfl rfl ⟨_, rfl, HRO.out⟩ (fun k hk => ⟨trivial, fun e => by
                    have e2 : k = bS := by simpa [Value.ownBlock] using e
                    have := HBS.out
                    omega⟩) (fun _ _ => trivial) HTd.out.st HTd.out.bl HTd.out.bl.size (by omega) ?_
                  intro v1 w11 hv hb hg hat
                  have hG11 := HTd.out.keptS hg HTd.out.blk (by decide)
                  have k1 := blk_cell hG11 1
                  have k2 := blk_frozen hG11 1
                  simp only [cells8] at k1
                  simp at k1
                  have HT11 := Lib.hid (HTd.out.setS hv hb hg)
                  have hne : HL ≠ G := fun e => by
                    have h1 := HLBd.out
                    rw [e, HTd.out.blk] at h1
                    injection h1 with h1
                    injection h1 with _ h1
                    exact absurd h1 (by decide)
                  have HLB11 := Lib.hid ((Below.heap_setCell w11 ⟨G, 1, none⟩ v1 HL hne).trans (HTd.out.keptS hg HLBd.out (by decide)))
                  obtain ⟨A11, c11, e11⟩ := Kd.R_slice hv
                  subst e11
                  clear hv hb hg hat hG11 hne
                  refine hK.out _ _ ?_
                  clear hK K
                  refine norm_ (a' := ?_) ?_ ?_
                  rotate_left
                  · show Act.put _ (some 105) _ = _; simp only [Act.put, List.setIfInBounds_toArray, List.set_cons_zero, List.set_cons_succ, i64_w, i32_w]; rfl
                  refine pure_ (i := 8) (N := (some 106)) (v := ?_) (a' := ?_) #[true, true, true, true, true, true, true, true, true, false, false] rfl rfl (by kernel_rfl) (fun _ _ _ h => h) (Or.inl ⟨by rfl, ?_⟩) ?_ ?_
                  rotate_left
                  · intro w'; go_simp; first | done | with_reducible rfl
                  rotate_left
                  · simp only [Act.put, List.setIfInBounds_toArray, List.set_cons_zero, List.set_cons_succ, i64_w, i32_w]; rfl
                  refine pure_ (i := 9) (N := (some 107)) (v := ?_) (a' := ?_) #[true, true, true, true, true, true, true, true, true, true, false] rfl rfl (by kernel_rfl) (fun _ _ _ h => h) (Or.inl ⟨by rfl, ?_⟩) ?_ ?_
                  rotate_left
                  · intro w'; go_simp; first | done | with_reducible rfl
                  rotate_left
                  · simp only [Act.put, List.setIfInBounds_toArray, List.set_cons_zero, List.set_cons_succ, i64_w, i32_w]; rfl
                  refine last_ (i := 10) (N := none) #[true, true, true, true, true, true, true, true, true, true, true] rfl rfl (by kernel_rfl) (by decide) (fun K hK => ?_)
                  refine skip_step (w1 := w11.setCell ⟨G, 1, none⟩ (.slice A11 (out ++ [ov]).length c11)) (by rfl) (by go_simp) ?_
                  refine hK.out _ _ ?_
                  clear hK K
                  refine norm_ (a' := ?_) ?_ ?_
                  rotate_left
                  · show Act.put _ none _ = _; simp only [Act.put, List.setIfInBounds_toArray, List.set_cons_zero, List.set_cons_succ, i64_w, i32_w]; rfl
                  refine done_ (by kernel_rfl) ?_
                  clear k1 k2
                  generalize w11.setCell ⟨G, 1, none⟩ (.slice A11 (out ++ [ov]).length c11) = w12 at HT11 HLB11 ⊢
                  have d1 := HT11.out.c1
                  rw [show (out ++ [ov]).length = out.length + 1 by simp] at HT11 d1
                  by_cases h64 : out.length < 64
                  · have h64I : ¬ (64 : Int) < ((out.length : Int) + 1) := by omega
                    have d2 := HT11.out.c2
                    obtain ⟨AG, cG, eG, hGm⟩ := km_read HT11.out.go
                    injection eG with z1 z2 z3
                    subst z1 z3
                    obtain ⟨b8, o8, e8, -, g7⟩ := hGm x r HRX.out
                    injection e8 with e8
                    injection e8 with e8 e9
                    subst e8 e9
                    have HISM := Lib.hid (HT11.out.mp x r mx HRX.out HMX.out)
                    have HSK2 := Lib.hid (HSK.out.new H4.out hkl HNX2.out HNW2.out h64)
                    rw [HZ.out, HOV.out] at HSK2
                    have hxc6 : x < c6 := by omega
                    clear hGm z2
                    go_wp2_with ((with_reducible refine gate_op (op := .mapUpdate 124 (.tmp 120) (.tmp 121) (.tmp 122)) rfl ?_); refine map_put_event rfl 124 (.tmp 120) (.tmp 121) (.tmp 122) (.inr rfl) Tryd.underlying124 (keyOk_int Tryd.underlying5) z out.length rfl rfl rfl HISM.out ?_; intro w10 hm10 hk10 hb10; have HT10 := Lib.hid (HT11.out.put HRX.out HMX.out hm10 hk10 (hb10 _ _ HT11.out.bl (HT11.out.lo r (List.mem_of_getElem? HRX.out)))); have HLB10 := Lib.hid ((hk10.2 HL (Array.getElem?_eq_some_iff.1 HLB11.out).1 (fun e => by obtain ⟨es, clock, hbm, -⟩ := HISM.out; rw [← e, HLB11.out] at hbm; cases hbm) (by simp)).trans HLB11.out); clear hm10 hk10 hb10)
                    have hmem : ovr L R n st z ∈ out ++ [ov] := by rw [HOV.out]; simp
                    have hat : (out ++ [ov])[x]? = some st := by rw [List.getElem?_append_left hx65]; exact HSK.out.at_
                    have HGA2 := Lib.hid (goA_put (HGA.out.snoc (l := ov) (by have := HML.out; omega)) HZQ.out hat HMX.out HNX.out hmem)
                    have hld : leadsTo L R n (out ++ [ov]) st z = out.length := by
                      have := leads_new (L := L) (R := R) (n := n) (out := out) (st := st) (c := z) (by rw [HOV.out]; exact HNEW.out)
                      rwa [HOV.out] at this
                    rw [hld] at HGA2
                    refine ⟨⟨k + 1, _, out ++ [ov], _, by go_num, by omega, HSK2, HT10, HGA2, Lib.hid (by rw [List.length_set]; exact HML.out), HLB10⟩, by simp [intOf]; omega⟩
                  · have h64I : (64 : Int) < ((out.length : Int) + 1) := by omega
                    have HFU := Lib.hid (HSK.out.full hkl HNX2.out HNW2.out h64)
                    go_wp2
                    go_ret2
                    exact ⟨.inr ⟨HFU.out, rfl⟩, HT11.out.bl⟩
                · have hkI2 : ¬ (k' : Int) < 0 := by omega
                  have HLD := Lib.hid (fnd_leads (L := L) (R := R) (n := n) (st := st) (c := z) (by rw [HOV.out]; exact hat) (by rw [HOV.out]; exact hno))
                  have HMEM : Hid (ovr L R n st z ∈ out) := Lib.hid (by rw [HOV.out]; exact hmem)
                  have d2 := HT9.out.c2
                  obtain ⟨AG, cG, eG, hGm⟩ := km_read HT9.out.go
                  injection eG with z1 z2 z3
                  subst z1 z3
                  obtain ⟨b8, o8, e8, -, g7⟩ := hGm x r HRX.out
                  injection e8 with e8
                  injection e8 with e8 e9
                  subst e8 e9
                  have HISM := Lib.hid (HT9.out.mp x r mx HRX.out HMX.out)
                  have HSK2 := Lib.hid (HSK.out.old hkl (by rw [HZ.out]; exact HMEM.out))
                  clear hat hmem hno hGm z2
                  have hxc6 : x < c6 := by omega
                  go_wp2_with ((with_reducible refine gate_op (op := .mapUpdate 124 (.tmp 120) (.tmp 121) (.tmp 122)) rfl ?_); refine map_put_event rfl 124 (.tmp 120) (.tmp 121) (.tmp 122) (.inr rfl) Tryd.underlying124 (keyOk_int Tryd.underlying5) z k' rfl rfl rfl HISM.out ?_; intro w10 hm10 hk10 hb10; have HT10 := Lib.hid (HT9.out.put HRX.out HMX.out hm10 hk10 (hb10 _ _ HT9.out.bl (HT9.out.lo r (List.mem_of_getElem? HRX.out)))); have HLB10 := Lib.hid ((hk10.2 HL (Array.getElem?_eq_some_iff.1 HLB9.out).1 (fun e => by obtain ⟨es, clock, hbm, -⟩ := HISM.out; rw [← e, HLB9.out] at hbm; cases hbm) (by simp)).trans HLB9.out); clear hm10 hk10 hb10)
                  have HGA2 := Lib.hid (goA_put HGA.out HZQ.out HSK.out.at_ HMX.out HNX.out HMEM.out)
                  rw [HLD.out] at HGA2
                  refine ⟨⟨k + 1, _, out, _, by go_num, by omega, HSK2, HT10, HGA2, Lib.hid (by rw [List.length_set]; exact HML.out), HLB10⟩, by simp [intOf]; omega⟩
        · obtain rfl : k = 9 := by omega
          have HSI9 := Lib.hid HSK.out.next
          have HGA9 : Hid (GoA L R n out ms (fun _ => lets)) := Lib.hid (fun i s m h1 h2 => by
            have := HGA.out i s m h1 h2
            have e9 : lets.take 9 = lets := rfl
            rw [e9] at this
            by_cases e : i = x
            · simpa [e] using this
            · simpa [e] using this)
          have hx65 : x < out.length := (List.getElem?_eq_some_iff.1 HSK.out.at_).1
          have hol := HSK.out.le
          clear hSt
          go_wp2_with fail
          refine ⟨⟨x + 1, _, _, _, _, _, by go_num, by omega, HSI9, HT, HGA9, HML⟩, by simp [intOf]; omega⟩
    · obtain rfl : x = out.length := by have := HSI.out.ile; omega
      clear hSt
      go_wp2
      go_ret2
      refine ⟨.inl ⟨G, _, _, _, _, _, rfl, HSI.out, hgs ▸ HT.out, HGA.out, HML.out⟩, HT.out.bl⟩
end Go.Proofs.YtjpfalanoifpbaaDoor.X
end

section
set_option linter.unusedVariables false
set_option linter.unusedSimpArgs false
namespace Go.Proofs.YtjpfalanoifpbaaDoor.X
open Go.RowKit Go.Proofs.YtjpfalanoifpbaaDoorW.PrintWords Go.Proofs.YtjpfalanoifpbaaDoorW.PrintLast Go.Proofs.YtjpfalanoifpbaaDoorW.PrintMore Go.Proofs.YtjpfalanoifpbaaDoor.T
def Made (L : Nat → Int) (R : Nat → ByteArray) (n : Nat) (gs : Value) (w w' : World) (G : Nat) (out : List (List It)) : Prop :=
  ∃ vS vG rs ms, StaI L R n out out.length ∧ Tb w w' G gs vS vG (nextN L R n 25) out rs ms ∧ GoA L R n out ms (fun _ => lets) ∧ ms.length = out.length
theorem Made.later {L : Nat → Int} {R : Nat → ByteArray} {n : Nat} {gs : Value} {w w' w2 : World} {G : Nat} {out : List (List It)} (h : Made L R n gs w w' G out) (hb : Below w'.heap.size w' w2) : Made L R n gs w w2 G out := by
  obtain ⟨vS, vG, rs, ms, h1, h2, h3, h4⟩ := h
  exact ⟨vS, vG, rs, ms, h1, h2.later hb, h3, h4⟩
theorem Made.sta {L : Nat → Int} {R : Nat → ByteArray} {n : Nat} {gs : Value} {w w' : World} {G : Nat} {out : List (List It)} (h : Made L R n gs w w' G out) : StaI L R n out out.length := by
  obtain ⟨vS, vG, rs, ms, h1, h2, h3, h4⟩ := h
  exact h1
theorem build_made (A : Option Addr) (n c : Nat) (L : Nat → Int) (R : Nat → ByteArray) (w : World) (hA : Sr w A n c L R) (hg : Gr L R n) :
    Calls Tryd.prog 91 #[.slice A n c] w fun e w' => ((∃ G out, e = .returned (.tuple #[.pointer (some ⟨G, 0, none⟩), .int .i64 0]) ∧ Made L R n (.slice A n c) w w' G out) ∨ (stas L R n = none ∧ e = .returned (.tuple #[.pointer none, .int .i64 6]))) ∧ Below w.heap.size w w' := by
  refine (build_calls A n c L R w hA hg).mono ?_
  rintro e w1 ⟨h | h, hb⟩
  · obtain ⟨G, vS, vG, out, rs, ms, he, h1, h2, h3, h4⟩ := h
    exact ⟨.inl ⟨G, out, he, vS, vG, rs, ms, h1, h2, h3, h4⟩, hb⟩
  · exact ⟨.inr h, hb⟩
set_option maxHeartbeats 2000000 in
set_option maxRecDepth 100000 in
theorem read_yes (A : Option Addr) (n c : Nat) (L : Nat → Int) (R : Nat → ByteArray) (w : World) (hA : Sr w A n c L R) (hg : Gram L R n) :
    Calls Tryd.prog 84 #[.slice A n c] w fun e w' => ((∃ G out W, e = .returned (.tuple #[.pointer (some ⟨G, 0, none⟩), .int .i64 0]) ∧ Made L R n (.slice A n c) W w' G out ∧ Below w.heap.size w W) ∨ (stas L R n = none ∧ e = .returned (.tuple #[.pointer none, .int .i64 6]))) ∧ Below w.heap.size w w' := by
  have HA := Lib.hid hA
  have HG := Lib.hid hg
  have h8 := hg.1.2
  have h4 : ∀ k, k < n → (R k).size ≤ 1000 := fun k hk => Nat.le_trans (hg.2 k hk).sz (by decide)
  have HV := Lib.hid (valid_calls A n c L R w hA (by omega) h4 true (by simp [hg]))
  clear hA hg h4
  go_enter Tryd.func84, Tryd.ntmps84
  go_wp2_with fail
  refine HV.out.mono ?_
  rintro e w1 ⟨rfl, hb1⟩
  have HB := Lib.hid hb1
  clear hb1
  go_wp2_with fail
  refine (build_made A n c L R w1 (HA.out.later HB.out) HG.out.gr).mono ?_
  rintro e w2 ⟨h | ⟨hn, rfl⟩, hb2⟩
  · obtain ⟨G, out, rfl, hM⟩ := h
    have HM := Lib.hid hM
    have HB2 := Lib.hid (HB.out.trans (hb2.mono HB.out.size))
    clear hM hb2
    go_wp2
    go_ret2
    exact ⟨.inl ⟨G, out, w1, rfl, HM.out, HB.out⟩, HB2.out⟩
  · have HN := Lib.hid hn
    have HB2 := Lib.hid (HB.out.trans (hb2.mono HB.out.size))
    clear hn hb2
    go_wp2
    go_ret2
    exact ⟨.inr ⟨HN.out, rfl⟩, HB2.out⟩
set_option maxHeartbeats 2000000 in
set_option maxRecDepth 100000 in
theorem read_no (A : Option Addr) (n c : Nat) (L : Nat → Int) (R : Nat → ByteArray) (w : World) (hA : Sr w A n c L R) (hn : n ≤ 1000) (hsz : ∀ k, k < n → (R k).size ≤ 1000) (hg : ¬ Gram L R n) :
    Calls Tryd.prog 84 #[.slice A n c] w fun e w' => e = .returned (.tuple #[.pointer none, .int .i64 2]) ∧ Below w.heap.size w w' := by
  have HV := Lib.hid (valid_calls A n c L R w hA hn hsz false (by simp [hg]))
  clear hA hg hsz
  go_enter Tryd.func84, Tryd.ntmps84
  go_wp2_with fail
  refine HV.out.mono ?_
  rintro e w1 ⟨rfl, hb1⟩
  have HB := Lib.hid hb1
  clear hb1
  go_wp2
  go_ret2
  exact ⟨rfl, HB.out⟩
end Go.Proofs.YtjpfalanoifpbaaDoor.X
end

section
set_option linter.unusedVariables false
set_option linter.unusedSimpArgs false
namespace Go.Proofs.YtjpfalanoifpbaaDoor.X
open Go.RowKit Go.Proofs.YtjpfalanoifpbaaDoorW.PrintWords Go.Proofs.YtjpfalanoifpbaaDoorW.PrintLast Go.Proofs.YtjpfalanoifpbaaDoorW.PrintMore Go.Proofs.YtjpfalanoifpbaaDoor.T
theorem conv_one (l : Int) (W : World) : (convert 74 9 (.slice (some ⟨W.heap.size, 0, none⟩) 1 1)).run Tryd.prog (W.alloc (.cells #[.int .u8 l] 5)) = .ok (.string (sg l)) (W.alloc (.cells #[.int .u8 l] 5)) := by
  have := run_convert_bytes_arg (P := Tryd.prog) (W.alloc (.cells #[.int .u8 l] 5)) 74 5 Tryd.underlying74 Tryd.underlying5 W.heap.size 0 1 1 [l] rfl (fun i hi => by
    obtain rfl : i = 0 := by omega
    simp) 9 Tryd.underlying9
  rw [this]
  rfl
set_option maxHeartbeats 4000000 in
set_option maxRecDepth 100000 in
theorem rright_calls (A : Option Addr) (n c : Nat) (L : Nat → Int) (R : Nat → ByteArray) (i : Nat) (w : World) (hA : Sr w A n c L R) (hn : 1 ≤ n) (hn8 : n ≤ 8) (hi : i ≤ n) :
    Calls Tryd.prog 107 #[.slice A n c, .int .i64 (i : Nat)] w fun e w' => e = .returned (.string (rs L R n i)) ∧ Below w.heap.size w w' := by
  obtain ⟨b, off, rfl, hnc, hP⟩ := hA.open hn
  obtain ⟨X, hX⟩ : ∃ X, rs L R n i = X := ⟨_, rfl⟩
  rw [hX]
  unfold rs at hX
  by_cases hin : i = n
  · rw [if_pos hin] at hX
    subst hin
    have c0 := hP.c0 0 hn
    obtain ⟨l, hl⟩ : ∃ l, L 0 = l := ⟨_, rfl⟩
    rw [hl] at c0 hX
    have he := conv_one l
    rw [hX] at he
    simp only [Nat.zero_mul, Nat.add_zero] at c0
    have hc0 : 0 < c := by omega
    clear hX hP hA hl
    go_enter Tryd.func107, Tryd.ntmps107
    go_wp2
    go_ret
    exact ⟨rfl, below_one _⟩
  · rw [if_neg hin] at hX
    have c1 := hP.c1 i (by omega)
    rw [hX] at c1
    have hic : i < c := by omega
    have hinI : ¬ (i : Int) = (n : Int) := by omega
    clear hX hP hA
    go_enter Tryd.func107, Tryd.ntmps107
    go_wp2
    go_ret
    exact ⟨rfl, Below.refl _ _⟩
def c45 (P : It → Bool) : Array Value := Array.ofFn (n := 45) fun q => .bool (P (q.val / 5, q.val % 5))
theorem c45_at (P : It → Bool) {i d : Nat} (hi : i < 9) (hd : d < 5) : (c45 P)[i * 5 + d]? = some (.bool (P (i, d))) := by
  unfold c45
  rw [Array.getElem?_ofFn, dif_pos (by omega)]
  rw [show (i * 5 + d) / 5 = i by omega, show (i * 5 + d) % 5 = d by omega]
def onI (P : It → Bool) (y : It) : It → Bool := fun x => if x = y then true else P x
theorem c45_set (P : It → Bool) {i d : Nat} (hi : i < 9) (hd : d < 5) : (c45 P).setIfInBounds (i * 5 + d) (.bool true) = c45 (onI P (i, d)) := by
  apply Array.ext_getElem?
  intro q
  unfold c45
  rw [Array.getElem?_setIfInBounds, Array.getElem?_ofFn, Array.getElem?_ofFn]
  by_cases h : i * 5 + d = q
  · subst h
    have hs : i * 5 + d < (Array.ofFn (n := 45) fun q => Value.bool (P (q.val / 5, q.val % 5))).size := by rw [Array.size_ofFn]; omega
    rw [if_pos rfl, if_pos hs, dif_pos (by omega)]
    unfold onI
    rw [if_pos (by rw [show (i * 5 + d) / 5 = i by omega, show (i * 5 + d) % 5 = d by omega])]
  · rw [if_neg h]
    split
    · rename_i hq
      unfold onI
      rw [if_neg (fun e => h (by
        obtain ⟨e1, e2⟩ := Prod.mk.inj e
        have e1 : q / 5 = i := e1
        have e2 : q % 5 = d := e2
        omega))]
    · rfl
def T45 (w : World) (g : Nat) (P : It → Bool) : Prop := w.heap[g]? = some (.cells (c45 P) 147 (0, 0))
theorem T45.later {w w' : World} {g : Nat} {P : It → Bool} (h : T45 w g P) (hb : Below w.heap.size w w') : T45 w' g P := (hb.block _ (Array.getElem?_eq_some_iff.1 h).1).trans h
theorem T45.at {w : World} {g : Nat} {P : It → Bool} (h : T45 w g P) {i d : Nat} (hi : i < 9) (hd : d < 5) : w.cell? ⟨g, i * 5 + d, none⟩ = some (.bool (P (i, d))) := by
  rw [blk_cell h]
  exact c45_at P hi hd
theorem T45.put {w : World} {g : Nat} {P : It → Bool} (h : T45 w g P) {i d : Nat} (hi : i < 9) (hd : d < 5) : T45 (w.setCell ⟨g, i * 5 + d, none⟩ (.bool true)) g (onI P (i, d)) := by
  have := blk_set h (i * 5 + d) (.bool true)
  rw [c45_set P hi hd] at this
  exact this
theorem T45.congr {w : World} {g : Nat} {P P' : It → Bool} (h : T45 w g P) (e : ∀ i d, i < 9 → d < 5 → P (i, d) = P' (i, d)) : T45 w g P' := by
  have : c45 P = c45 P' := by
    unfold c45
    congr 1
    funext q
    rw [e _ _ (by have := q.2; omega) (by omega)]
  unfold T45 at h ⊢
  rw [← this]
  exact h
theorem zero147 : (Tryd.prog.info? 147).map (fun i => (i.zero, i.size)) = some (some (.agg (c45 fun _ => false)), 45) := by kernel_rfl
theorem t45_alloc_event {ops : Array Oper} {rest : List Oper} {o : Oper} {a : Act} {Q : Exit → Act → World → Prop} {W : World} (hgd : o.guard = none) (ho : o.op = .alloc 147)
    (h : ∀ g w1, g = W.heap.size → T45 w1 g (fun _ => false) → Below W.heap.size W w1 → wpList Tryd.prog ops Q rest (a.put o.dst (.pointer (some ⟨g, 0, none⟩))) w1) : wpList Tryd.prog ops Q (o :: rest) a W := by
  refine Kd.event_run hgd (w1 := W.alloc (.cells (c45 fun _ => false) 147)) (v := .pointer (some ⟨W.heap.size, 0, none⟩)) ?_ (h _ _ rfl (blk_new W _) (below_one _))
  unfold execOp
  simp only [ho, Instr.alloc]
  have hz := (zero_of_info zero147).1 W
  simp [hz, newVar, newRow, newObj, Result.andThen, Value.cells, Sem.run]
theorem info73 : (Tryd.prog.info? 73).map (fun i => (i.zero, i.size, i.bytes)) = some (some (.agg #[.int .i64 0, .int .i64 0]), 2, 16) := by kernel_rfl
theorem T45.grown {w w1 : World} {g B : Nat} {P : It → Bool} {ok : Nat → Prop} {v : Value} {l : List It} (h : T45 w g P) (hR : Kd.R KI 73 w B ok v l) (hg : w.grownBy w1 v.ownBlock) : T45 w1 g P := by
  obtain ⟨i1, ho1⟩ := Kd.R_own hR
  refine (hg.block g (Array.getElem?_eq_some_iff.1 h).1 fun e => ?_).trans h
  obtain ⟨cs, hc⟩ := own_typed ho1 g e.symm
  have h' : w.heap[g]? = some (.cells (c45 P) 147 (0, 0)) := h
  rw [h'] at hc
  injection hc with hc
  injection hc with _ hc
  exact absurd hc (by decide)
theorem uptoI_len (n : Nat) (P : It → Bool) (q : Nat) : (uptoI n P q).length ≤ q := by
  unfold uptoI
  refine Nat.le_trans (List.length_filter_le _ _) ?_
  simp
def hasI (l : List It) : It → Bool := fun x => decide (x ∈ l)
theorem hasI_snoc {l : List It} {q : Nat} {x : It} (h : l[q]? = some x) : onI (hasI (l.take q)) x = hasI (l.take (q + 1)) := by
  funext y
  unfold onI hasI
  rw [take_succ_of h]
  by_cases e : y = x
  · rw [if_pos e]
    simp [e]
  · rw [if_neg e]
    simp [e]
set_option maxHeartbeats 16000000 in
set_option maxRecDepth 100000 in
theorem rclosure_calls (A : Option Addr) (n c : Nat) (L : Nat → Int) (R : Nat → ByteArray) (A1 : Option Addr) (c1 : Nat) (l : List It) (w : World) (hA : Sr w A n c L R) (hg : Gr L R n) (hI : Ir w A1 l.length c1 l) (hl : l.length ≤ 1000) (hf : ∀ x ∈ l, Fits L R n x) :
    Calls Tryd.prog 85 #[.slice A n c, .slice A1 l.length c1] w fun e w' => (∃ v, e = .returned v ∧ Kd.R KI 73 w' w.heap.size (fun _ => True) v (clo L R n fun x => x ∈ l)) ∧ Below w.heap.size w w' := by
  have hn1 := hg.n1
  have hn8 := hg.n8
  have h4 : R4 R n := hg.sz
  have hne : ∀ k, k < n → L k ≠ 0 := fun k hk => by have := isP_iff.1 (hg.ok k hk).1; omega
  obtain ⟨b, off, rfl, hnc, hP⟩ := hA.open hn1
  have HA := Lib.hid hA
  have HP := Lib.hid hP
  have H4 := Lib.hid h4
  have HF := Lib.hid hf
  have HNE := Lib.hid hne
  have HI := Lib.hid hI
  clear hA hg hP h4 hne hI hf
  go_enter Tryd.func85, Tryd.ntmps85
  go_wp2_with ((with_reducible refine gate_op (op := .alloc 147) rfl ?_); refine t45_alloc_event rfl rfl ?_; intro g w0 hg0 ht0 hb0; have HT := Lib.hid ht0; have HB := Lib.hid hb0; have HG := Lib.hid hg0; clear hg0 ht0 hb0)
  have HT : Hid (T45 w0 g (hasI (l.take 0))) := Lib.hid (HT.out.congr fun i d _ _ => by simp [hasI])
  have HGB : Hid (w.heap.size ≤ g) := Lib.hid (Nat.le_of_eq HG.out.symm)
  clear HG
  go_loopw [18] (fun j wr => ∃ q : Nat, j = .int .i64 q ∧ q ≤ l.length ∧ Hid (T45 wr g (hasI (l.take q))) ∧ Hid (Below w.heap.size w wr)) (fun j _ => l.length - (intOf j).toNat)
  case atStart => exact ⟨0, rfl, by omega, HT, HB⟩
  case round =>
    clear HT HB
    obtain ⟨q, rfl, hql, HT, HB⟩ := hrel
    by_cases hqs : q < l.length
    · have hqI : (q : Int) < (l.length : Int) := by omega
      obtain ⟨bI, oI, eI, hm1, hP1⟩ := (HI.out.later HB.out).open (by omega)
      subst eI
      obtain ⟨⟨y1, y2⟩, hy⟩ : ∃ y, l[q]? = some y := ⟨_, List.getElem?_eq_getElem hqs⟩
      have f0 := hP1.c0 q _ hy
      have f1 := hP1.c1 q _ hy
      simp only at f0 f1
      have HSN := Lib.hid (hasI_snoc hy)
      have HFY := Lib.hid (HF.out (y1, y2) (List.mem_of_getElem? hy))
      have hy9 : y1 < 9 := by have := HFY.out.1; simp at this; omega
      have hy5 : y2 < 5 := HFY.out.lt5 H4.out
      have hqc : q < c1 := by omega
      have hy9I : (y1 : Int) < 9 := by omega
      have hy5I : (y2 : Int) < 5 := by omega
      clear hy hP1
      have hbA := below_one (w := wr) (.cells #[.int .i64 (y1 : Nat), .int .i64 (y2 : Nat)] 73)
      obtain ⟨i0, i1⟩ := it_new wr 73 (y1 : Nat) (y2 : Nat)
      have HT2 := Lib.hid (HT.out.later hbA)
      have HB2 := Lib.hid (HB.out.trans (hbA.mono HB.out.size))
      clear hbA
      go_wp2_with fail
      generalize wr.alloc (.cells #[.int .i64 (y1 : Nat), .int .i64 (y2 : Nat)] 73) = w2 at i0 i1 HT2 HB2 ⊢
      generalize wr.heap.size = H7 at i0 i1 ⊢
      have t0 : w2.drew.cell? ⟨g, y1 * 5 + y2, none⟩ = some (.bool (hasI (l.take q) (y1, y2))) := (HT2.out.later (Below.refl _ w2).drew).at hy9 hy5
      have t1 : w2.drew.frozen? ⟨g, y1 * 5 + y2, none⟩ = false := blk_frozen (HT2.out.later (Below.refl _ w2).drew) _
      refine start_ (n := 7) (S := fun w' => w'.cell? ⟨H7, 0, none⟩ = some (.int .i64 (y1 : Nat)) ∧ w'.cell? ⟨H7, 1, none⟩ = some (.int .i64 (y2 : Nat))) (ds := [6]) #[false, false, false, false, false, false, false] (by kernel_rfl) rfl rfl ⟨by simpa using i0, by simpa using i1⟩ (fun hHeld => ?_)
      refine pure_ (i := 0) (N := (some 22)) (v := ?_) (a' := ?_) #[true, false, false, false, false, false, false] rfl rfl (by kernel_rfl) (fun _ _ _ h => h) (Or.inl ⟨by rfl, ?_⟩) ?_ ?_
      rotate_left
      · intro w'; go_simp; first | done | with_reducible rfl
      rotate_left
      · simp only [Act.put, List.setIfInBounds_toArray, List.set_cons_zero, List.set_cons_succ, i64_w, i32_w]; rfl
      refine take_ (i := 1) (N := (some 23)) (v := ?_) (a' := ?_) #[true, true, false, false, false, false, false] rfl rfl (by kernel_rfl) (fun _ _ _ h => h) (Or.inl ⟨by rfl, ?_⟩) hHeld ?_ ?_
      rotate_left
      · rintro w' ⟨s0, s1⟩; go_simp; first | done | with_reducible rfl
      rotate_left
      · simp only [Act.put, List.setIfInBounds_toArray, List.set_cons_zero, List.set_cons_succ, i64_w, i32_w]; rfl
      refine pure_ (i := 2) (N := (some 24)) (v := ?_) (a' := ?_) #[true, true, true, false, false, false, false] rfl rfl (by kernel_rfl) (fun _ _ _ h => h) (Or.inl ⟨by rfl, ?_⟩) ?_ ?_
      rotate_left
      · intro w'; go_simp; first | done | with_reducible rfl
      rotate_left
      · simp only [Act.put, List.setIfInBounds_toArray, List.set_cons_zero, List.set_cons_succ, i64_w, i32_w]; rfl
      refine take_ (i := 3) (N := (some 25)) (v := ?_) (a' := ?_) #[true, true, true, true, false, false, false] rfl rfl (by kernel_rfl) (fun _ _ _ h => h) (Or.inl ⟨by rfl, ?_⟩) hHeld ?_ ?_
      rotate_left
      · rintro w' ⟨s0, s1⟩; go_simp; first | done | with_reducible rfl
      rotate_left
      · simp only [Act.put, List.setIfInBounds_toArray, List.set_cons_zero, List.set_cons_succ, i64_w, i32_w]; rfl
      refine pure_ (i := 4) (N := (some 26)) (v := ?_) (a' := ?_) #[true, true, true, true, true, false, false] rfl rfl (by kernel_rfl) (fun _ _ _ h => h) (Or.inl ⟨by rfl, ?_⟩) ?_ ?_
      rotate_left
      · intro w'; go_simp; first | done | with_reducible rfl
      rotate_left
      · simp only [Act.put, List.setIfInBounds_toArray, List.set_cons_zero, List.set_cons_succ, i64_w, i32_w]; rfl
      refine pure_ (i := 5) (N := (some 27)) (v := ?_) (a' := ?_) #[true, true, true, true, true, true, false] rfl rfl (by kernel_rfl) (fun _ _ _ h => h) (Or.inl ⟨by rfl, ?_⟩) ?_ ?_
      rotate_left
      · intro w'; go_simp; first | done | with_reducible rfl
      rotate_left
      · simp only [Act.put, List.setIfInBounds_toArray, List.set_cons_zero, List.set_cons_succ, i64_w, i32_w]; rfl
      refine last_ (i := 6) (N := none) #[true, true, true, true, true, true, true] rfl rfl (by kernel_rfl) (by decide) (fun K hK => ?_)
      refine skip_step (w1 := w2.drew.setCell ⟨g, y1 * 5 + y2, none⟩ (.bool true)) (by rfl) (by go_simp) ?_
      refine hK.out _ _ ?_
      clear hK K
      refine norm_ (a' := ?_) ?_ ?_
      rotate_left
      · show Act.put _ none _ = _; simp only [Act.put, List.setIfInBounds_toArray, List.set_cons_zero, List.set_cons_succ, i64_w, i32_w]; rfl
      refine done_ (by kernel_rfl) ?_
      clear i0 i1 t0 t1 hHeld f0 f1
      have HT3 := Lib.hid ((HT2.out.later (Below.refl _ w2).drew).put hy9 hy5)
      rw [HSN.out] at HT3
      have HB3 := Lib.hid ((HB2.out.drew).setCell (p := ⟨g, y1 * 5 + y2, none⟩) HGB.out (.bool true))
      generalize w2.drew.setCell ⟨g, y1 * 5 + y2, none⟩ (.bool true) = w3 at HT3 HB3 ⊢
      go_wp2_with fail
      refine ⟨⟨q + 1, by go_num, by omega, HT3, HB3⟩, by simp [intOf]; omega⟩
    · obtain rfl : q = l.length := by omega
      rw [List.take_length] at HT
      have HTI : Hid (TabI L R n (fun x => x ∈ l) (hasI l)) := Lib.hid ⟨fun y hy => by simpa [hasI] using hy, fun x hx => inC_of (by simpa [hasI] using hx)⟩
      have HTR := Lib.hid (TabR.start HTI.out)
      go_wp2_with fail
      go_loopw [29] (fun j wr => ∃ (r : Nat) (P : It → Bool), j = .int .i64 r ∧ r ≤ 45 ∧ Hid (T45 wr g P) ∧ Hid (TabR L R n (fun x => x ∈ l) P r) ∧ Hid (Below w.heap.size w wr)) (fun j _ => 45 - (intOf j).toNat)
      case atStart => exact ⟨0, _, rfl, by omega, HT, HTR, HB⟩
      case round =>
        clear HT HTR HB HTI
        obtain ⟨r, P, rfl, hr45, HT, HTR, HB⟩ := hrel
        by_cases hrl : r < 45
        · have hrI : (r : Int) < 45 := by omega
          have HTM := Lib.hid (TabM.start HTR.out.t)
          go_wp2_with fail
          go_loopw [34] (fun j wr => ∃ (i : Nat) (P' : It → Bool), j = .int .i64 i ∧ i ≤ n + 1 ∧ Hid (T45 wr g P') ∧ Hid (TabM L R n (fun x => x ∈ l) P P' i 0 0) ∧ Hid (Below w.heap.size w wr)) (fun j _ => n + 1 - (intOf j).toNat)
          case atStart => exact ⟨0, _, rfl, by omega, HT, HTM, HB⟩
          case round =>
            clear HT HTM HB
            obtain ⟨i, P', rfl, hin, HT, HTM, HB⟩ := hrel
            by_cases hi : i < n + 1
            · have hiI : (i : Int) < (n : Int) + 1 := by omega
              have hi9 : i < 9 := by omega
              have hi9I : (i : Int) < 9 := by omega
              have HRT := Lib.hid (rright_calls _ n c L R i wr (HA.out.later HB.out) hn1 hn8 (by omega))
              have hsz := rs_le (L := L) H4.out (show i ≤ n by omega)
              obtain ⟨s, hs⟩ : ∃ s, rs L R n i = s := ⟨_, rfl⟩
              rw [hs] at HRT hsz
              have HS := Lib.hid hs
              clear hs
              go_wp2_with fail
              refine HRT.out.mono ?_
              rintro e w2 ⟨rfl, hb2⟩
              have HT2 := Lib.hid (HT.out.later hb2)
              have HB2 := Lib.hid (HB.out.trans (hb2.mono HB.out.size))
              clear hb2 HT HB HRT
              go_wp2_with fail
              go_loopw [42] (fun j wr => ∃ (d : Nat) (P' : It → Bool), j = .int .i64 d ∧ d ≤ s.size ∧ Hid (T45 wr g P') ∧ Hid (TabM L R n (fun x => x ∈ l) P P' i d 0) ∧ Hid (Below w.heap.size w wr)) (fun j _ => s.size - (intOf j).toNat)
              case atStart => exact ⟨0, _, rfl, by omega, HT2, HTM, HB2⟩
              case round =>
                clear HT2 HTM HB2
                obtain ⟨d, P', rfl, hds, HT, HTM, HB⟩ := hrel
                by_cases hd : d < s.size
                · have hdI : (d : Int) < (s.size : Int) := by omega
                  have hd5 : d < 5 := by omega
                  have hd5I : (d : Int) < 5 := by omega
                  go_wp2_with fail
                  go_loopw [47] (fun j wr => ∃ (k : Nat) (P' : It → Bool), j = .int .i64 k ∧ k ≤ n ∧ Hid (T45 wr g P') ∧ Hid (TabM L R n (fun x => x ∈ l) P P' i d k) ∧ Hid (Below w.heap.size w wr)) (fun j _ => n - (intOf j).toNat)
                  case atStart => exact ⟨0, _, rfl, by omega, HT, HTM, HB⟩
                  case round =>
                    clear HT HTM HB
                    obtain ⟨k, P', rfl, hk, HT, HTM, HB⟩ := hrel
                    by_cases hkn : k < n
                    · have hkI : (k : Int) < (n : Int) := by omega
                      have hk9 : k < 9 := by omega
                      have hk9I : (k : Int) < 9 := by omega
                      have hkc : k < c := by omega
                      have g0 := (HP.out.later HB.out).c0 k hkn
                      have g1 := (HP.out.later HB.out).c1 k hkn
                      obtain ⟨lk, hlk⟩ : ∃ lk, L k = lk := ⟨_, rfl⟩
                      obtain ⟨sk, hsk⟩ : ∃ sk, R k = sk := ⟨_, rfl⟩
                      rw [hlk] at g0
                      rw [hsk] at g1
                      have HLK := Lib.hid hlk
                      have hbA := below_one (w := wr) (.cells #[.int .u8 lk, .string sk] 44)
                      obtain ⟨d0, d1⟩ := rule_new wr 44 lk sk
                      have HT2 := Lib.hid (HT.out.later hbA)
                      have HB2 := Lib.hid (HB.out.trans (hbA.mono HB.out.size))
                      have t0 := HT2.out.at hi9 hd5
                      have hbt : (((s[d]'hd).toNat : Nat) : Int) = ch s d := ch_at s d hd
                      have HBH : Hid (bh L R n (i, d) = ch s d) := Lib.hid (by unfold bh; rw [HS.out])
                      obtain ⟨z, hz⟩ : ∃ z, ch s d = z := ⟨_, rfl⟩
                      rw [hz] at hbt HBH
                      obtain ⟨pb, hpb⟩ : ∃ pb, P' (i, d) = pb := ⟨_, rfl⟩
                      rw [hpb] at t0
                      have HPB := Lib.hid hpb
                      clear hlk hsk hbA hz hpb HT HB
                      cases pb with
                      | false =>
                        go_wp2_with fail
                        go_quiet (fail)
                        have hbq := pw_below_drewN (Below.refl (wr.alloc (.cells #[.int .u8 lk, .string sk] 44)).heap.size (wr.alloc (.cells #[.int .u8 lk, .string sk] 44))) nq
                        have HT3 := Lib.hid (HT2.out.later hbq)
                        have HB3 := Lib.hid (HB2.out.trans (hbq.mono HB2.out.size))
                        clear hbq t0 d0 d1 g0 g1
                        go_wp2_with fail
                        refine ⟨⟨k + 1, P', by go_num, by omega, HT3, Lib.hid (HTM.out.skip fun q => by rw [HPB.out] at q; cases q), HB3⟩, by simp [intOf]; omega⟩
                      | true =>
                        by_cases hzl : z = lk
                        · subst hzl
                          go_wp2_with fail
                          go_quiet (fail)
                          have hbq := pw_below_drewN (Below.refl (wr.alloc (.cells #[.int .u8 z, .string sk] 44)).heap.size (wr.alloc (.cells #[.int .u8 z, .string sk] 44))) nq
                          have HT3 := Lib.hid (HT2.out.later hbq)
                          have HB3 := Lib.hid (HB2.out.trans (hbq.mono HB2.out.size))
                          have k0 := HT3.out.at hk9 (show 0 < 5 by decide)
                          have k1 := blk_frozen HT3.out (k * 5 + 0)
                          simp only [Nat.add_zero] at k0 k1
                          clear hbq t0 d0 d1 g0 g1
                          go_wp2_with fail
                          have HT4 := Lib.hid (HT3.out.put hk9 (show 0 < 5 by decide))
                          have HB4 := Lib.hid (HB3.out.setCell (p := ⟨g, k * 5 + 0, none⟩) HGB.out (.bool true))
                          refine ⟨⟨k + 1, _, by go_num, by omega, HT4, Lib.hid (HTM.out.put hkn HPB.out (by rw [HBH.out, HLK.out])), HB4⟩, by simp [intOf]; omega⟩
                        · go_wp2_with fail
                          go_quiet (fail)
                          have hbq := pw_below_drewN (Below.refl (wr.alloc (.cells #[.int .u8 lk, .string sk] 44)).heap.size (wr.alloc (.cells #[.int .u8 lk, .string sk] 44))) nq
                          have HT3 := Lib.hid (HT2.out.later hbq)
                          have HB3 := Lib.hid (HB2.out.trans (hbq.mono HB2.out.size))
                          clear hbq t0 d0 d1 g0 g1
                          go_wp2_with fail
                          refine ⟨⟨k + 1, P', by go_num, by omega, HT3, Lib.hid (HTM.out.skip fun _ q => by rw [HBH.out, HLK.out] at q; exact absurd q hzl), HB3⟩, by simp [intOf]; omega⟩
                    · obtain rfl : k = n := by omega
                      have HTC := Lib.hid HTM.out.col
                      go_wp2_with fail
                      refine ⟨⟨d + 1, P', by go_num, by omega, HT, HTC, HB⟩, by simp [intOf]; omega⟩
                · obtain rfl : d = s.size := by omega
                  have HTC := Lib.hid (TabM.row HNE.out (by rw [HS.out]; exact HTM.out))
                  go_wp2_with fail
                  refine ⟨⟨i + 1, P', by go_num, by omega, HT, HTC, HB⟩, by simp [intOf]; omega⟩
            · obtain rfl : i = n + 1 := by omega
              have HTN := Lib.hid (HTM.out.round HF.out HTR.out)
              go_wp2_with fail
              refine ⟨⟨r + 1, P', by go_num, by omega, HT, HTN, HB⟩, by simp [intOf]; omega⟩
        · have hr : r = 45 := by omega
          have hrI : ¬ (r : Int) < 45 := by omega
          have HLS := Lib.hid ((show TabR L R n (fun x => x ∈ l) P 45 from hr ▸ HTR.out).list hn8)
          clear hr
          rw [← uptoI_all] at HLS
          have HRI : Hid (Kd.R KI 73 wr w.heap.size (fun _ => True) (.slice none 0 0) (uptoI n P (0 * 5))) := Lib.hid (Kd.R_nil _ _ _ _ _)
          go_wp2_with fail
          go_loopw [75, 13] (fun j v wr => ∃ i : Nat, j = .int .i64 i ∧ i ≤ n + 1 ∧ Hid (T45 wr g P) ∧ Hid (Kd.R KI 73 wr w.heap.size (fun _ => True) v (uptoI n P (i * 5))) ∧ Hid (Below w.heap.size w wr)) (fun j _ _ => n + 1 - (intOf j).toNat)
          case atStart => exact ⟨0, rfl, by omega, HT, HRI, HB⟩
          case round =>
            clear HT HRI HB
            obtain ⟨i, rfl, hin, HT, HRI, HB⟩ := hrel
            by_cases hi : i < n + 1
            · have hiI : (i : Int) < (n : Int) + 1 := by omega
              have hi9 : i < 9 := by omega
              have hi9I : (i : Int) < 9 := by omega
              go_wp2_with fail
              go_loopw [78, 13] (fun j v wr => ∃ d : Nat, j = .int .i64 d ∧ d ≤ 5 ∧ Hid (T45 wr g P) ∧ Hid (Kd.R KI 73 wr w.heap.size (fun _ => True) v (uptoI n P (i * 5 + d))) ∧ Hid (Below w.heap.size w wr)) (fun j _ _ => 5 - (intOf j).toNat)
              case atStart => exact ⟨0, rfl, by omega, HT, HRI, HB⟩
              case round =>
                clear HT HRI HB
                obtain ⟨d, rfl, hd, HT, HRI, HB⟩ := hrel
                obtain ⟨A5, c5, e5⟩ := Kd.R_slice HRI.out
                subst e5
                by_cases hd5 : d < 5
                · have hd5I : (d : Int) < 5 := by omega
                  have t0 := HT.out.at hi9 hd5
                  have HUS := Lib.hid (uptoI_succ (n := n) P (i * 5 + d))
                  rw [show (i * 5 + d) / 5 = i by omega, show (i * 5 + d) % 5 = d by omega] at HUS
                  have hxs := uptoI_len n P (i * 5 + d)
                  obtain ⟨xs, hx⟩ : ∃ xs, uptoI n P (i * 5 + d) = xs := ⟨_, rfl⟩
                  rw [hx] at HUS HRI hxs
                  cases hpb : P (i, d) with
                  | true =>
                    rw [hpb] at t0 HUS
                    rw [if_pos rfl] at HUS
                    clear hpb
                    rw [hx]
                    clear hx
                    go_wp2_with (at_builtin; refine Kd.R_append KI (w0 := w) w.heap.size rfl (.tmp 86) (.tmp 90) 69 73 (.agg #[.int .i64 0, .int .i64 0]) 16 rfl Tryd.underlying69 info73 rfl (by decide) (by decide) (.slice A5 xs.length c5) xs (i, d) [.int .i64 (i : Nat), .int .i64 (d : Nat)] (fun _ => True) (fun _ => False) rfl rfl (ki_rep (i, d)) (fun _ h => h.elim) (fun _ _ => trivial) HRI.out HB.out HB.out.size (by omega) ?_; intro v6 w6 hv hb hg hat; have HR6 := Lib.hid hv; have HB6 := Lib.hid hb; have HT6 := Lib.hid (HT.out.grown HRI.out hg); clear hv hb hg hat)
                    refine ⟨⟨d + 1, by go_num, by omega, HT6, by rw [← Nat.add_assoc, HUS.out]; exact HR6, HB6⟩, by simp [intOf]; omega⟩
                  | false =>
                    rw [hpb] at t0 HUS
                    rw [if_neg (by decide)] at HUS
                    clear hpb
                    rw [hx]
                    clear hx
                    go_wp2_with fail
                    refine ⟨⟨d + 1, by go_num, by omega, HT, by rw [← Nat.add_assoc, HUS.out]; exact HRI, HB⟩, by simp [intOf]; omega⟩
                · obtain rfl : d = 5 := by omega
                  go_wp2_with fail
                  refine ⟨⟨i + 1, by go_num, by omega, HT, by rw [show (i + 1) * 5 = i * 5 + 5 by omega]; exact HRI, HB⟩, by simp [intOf]; omega⟩
            · obtain rfl : i = n + 1 := by omega
              rw [HLS.out] at HRI
              go_wp2
              go_ret
              exact ⟨⟨_, rfl, HRI.out⟩, HB.out⟩
end Go.Proofs.YtjpfalanoifpbaaDoor.X
end

section
set_option linter.unusedVariables false
set_option linter.unusedSimpArgs false
namespace Go.Proofs.YtjpfalanoifpbaaDoor.X
open Go.RowKit Go.Proofs.YtjpfalanoifpbaaDoorW.PrintWords Go.Proofs.YtjpfalanoifpbaaDoorW.PrintLast Go.Proofs.YtjpfalanoifpbaaDoorW.PrintMore Go.Proofs.YtjpfalanoifpbaaDoor.T
theorem nxt_len (L : Nat → Int) (R : Nat → ByteArray) (n : Nat) (st : List It) (c : Int) : (nxt L R n st c).length ≤ st.length := by
  unfold nxt
  rw [List.length_map]
  exact List.length_filter_le _ _
set_option maxHeartbeats 8000000 in
set_option maxRecDepth 100000 in
theorem over_calls (A : Option Addr) (n c : Nat) (L : Nat → Int) (R : Nat → ByteArray) (A1 : Option Addr) (c1 : Nat) (st : List It) (z : Int) (w : World) (hA : Sr w A n c L R) (hg : Gr L R n) (hI : Ir w A1 st.length c1 st) (hl : st.length ≤ 100) (hf : ∀ x ∈ st, Fits L R n x) (hz : z ≠ 0) (r : Bool) (hr : r = true ↔ nxt L R n st z ≠ []) :
    Calls Tryd.prog 86 #[.slice A n c, .slice A1 st.length c1, .int .u8 z] w fun e w' => (∃ v, e = .returned (.tuple #[v, .bool r]) ∧ Kd.R KI 73 w' w.heap.size (fun _ => True) v (ovr L R n st z)) ∧ Below w.heap.size w w' := by
  have hn1 := hg.n1
  have hn8 := hg.n8
  have HA := Lib.hid hA
  have HGR := Lib.hid hg
  have H4 : Hid (R4 R n) := Lib.hid hg.sz
  have HF := Lib.hid hf
  have HI := Lib.hid hI
  have HR := Lib.hid hr
  obtain ⟨b, off, rfl, hnc, -⟩ := hA.open hn1
  clear hA hg hI hf hr
  go_enter Tryd.func86, Tryd.ntmps86
  go_wp2_with fail
  have HRI : Hid (Kd.R KI 73 w w.heap.size (fun _ => True) (.slice none 0 0) (nxt L R n (st.take 0) z)) := Lib.hid (Kd.R_nil _ _ _ _ _)
  have HB := Lib.hid (Below.refl w.heap.size w)
  go_loopw [14, 8] (fun j v wr => ∃ q : Nat, j = .int .i64 q ∧ q ≤ st.length ∧ Hid (Kd.R KI 73 wr w.heap.size (fun _ => True) v (nxt L R n (st.take q) z)) ∧ Hid (Below w.heap.size w wr)) (fun j _ _ => st.length - (intOf j).toNat)
  case atStart => exact ⟨0, rfl, by omega, HRI, HB⟩
  case round =>
    clear HRI HB
    obtain ⟨q, rfl, hql, HRI, HB⟩ := hrel
    obtain ⟨A5, c5, e5⟩ := Kd.R_slice HRI.out
    subst e5
    by_cases hqs : q < st.length
    · have hqI : (q : Int) < (st.length : Int) := by omega
      obtain ⟨bI, oI, eI, hm1, hP1⟩ := (HI.out.later HB.out).open (by omega)
      subst eI
      obtain ⟨⟨y1, y2⟩, hy⟩ : ∃ y, st[q]? = some y := ⟨_, List.getElem?_eq_getElem hqs⟩
      have f0 := hP1.c0 q _ hy
      have f1 := hP1.c1 q _ hy
      simp only at f0 f1
      have HNT := Lib.hid (nxt_take (L := L) (R := R) (n := n) hy z)
      have HFY := Lib.hid (HF.out (y1, y2) (List.mem_of_getElem? hy))
      have hy1 : y1 ≤ n := HFY.out.1
      have hy5 : y2 < 5 := HFY.out.lt5 H4.out
      have hsz := rs_le (L := L) H4.out hy1
      have hqc : q < c1 := by omega
      have hbA := below_one (w := wr) (.cells #[.int .i64 (y1 : Nat), .int .i64 (y2 : Nat)] 73)
      obtain ⟨i0, i1⟩ := it_new wr 73 (y1 : Nat) (y2 : Nat)
      have HR2 := Lib.hid (Kd.R_below HRI.out hbA)
      have HB2 := Lib.hid (HB.out.trans (hbA.mono HB.out.size))
      clear hy hP1 hbA HRI HB
      have hlx : (nxt L R n (st.take q) z).length ≤ 100 := Nat.le_trans (nxt_len _ _ _ _ _) (by rw [List.length_take]; omega)
      obtain ⟨xs, hx⟩ : ∃ xs, nxt L R n (st.take q) z = xs := ⟨_, rfl⟩
      rw [hx] at HNT HR2 hlx ⊢
      clear hx
      go_wp2_with fail
      refine (rright_calls _ n c L R y1 _ (HA.out.later HB2.out) hn1 hn8 hy1).mono ?_
      rintro e w3 ⟨rfl, hb3⟩
      have HR3 := Lib.hid (Kd.R_below HR2.out hb3)
      have HB3 := Lib.hid (HB2.out.trans (hb3.mono HB2.out.size))
      have i0' := (hb3.cell (p := ⟨wr.heap.size, 0, none⟩) (World.block_lt_of_cell? _ _ i0)).trans i0
      have i1' := (hb3.cell (p := ⟨wr.heap.size, 1, none⟩) (World.block_lt_of_cell? _ _ i1)).trans i1
      clear hb3 HR2 HB2 i0 i1 f0 f1
      rw [show bh L R n (y1, y2) = ch (rs L R n y1) y2 from rfl] at HNT
      obtain ⟨s, hs⟩ : ∃ s, rs L R n y1 = s := ⟨_, rfl⟩
      rw [hs] at HNT hsz ⊢
      clear hs
      by_cases hd : y2 < s.size
      · have hdI : (y2 : Int) < (s.size : Int) := by omega
        have hbt : (((s[y2]'hd).toNat : Nat) : Int) = ch s y2 := ch_at s y2 hd
        obtain ⟨zz, hzz⟩ : ∃ zz, ch s y2 = zz := ⟨_, rfl⟩
        rw [hzz] at hbt HNT
        clear hzz
        by_cases hzl : zz = z
        · subst hzl
          rw [if_pos rfl] at HNT
          go_wp2_with (at_builtin; refine Kd.R_append KI (w0 := w) w.heap.size rfl (.tmp 35) (.tmp 42) 69 73 (.agg #[.int .i64 0, .int .i64 0]) 16 rfl Tryd.underlying69 info73 rfl (by decide) (by decide) (.slice A5 xs.length c5) xs (y1, y2 + 1) [.int .i64 (y1 : Nat), .int .i64 ((y2 : Int) + 1)] (fun _ => True) (fun _ => False) rfl rfl (ki_up y1 y2) (fun _ h => h.elim) (fun _ _ => trivial) HR3.out HB3.out HB3.out.size (by omega) ?_; intro v6 w6 hv hb hg hat; have HR6 := Lib.hid hv; have HB6 := Lib.hid hb; clear hv hb hg hat)
          refine ⟨⟨q + 1, by go_num, by omega, by rw [HNT.out]; exact HR6, HB6⟩, by simp [intOf]; omega⟩
        · rw [if_neg hzl] at HNT
          go_wp2_with fail
          refine ⟨⟨q + 1, by go_num, by omega, by rw [HNT.out]; exact HR3, HB3⟩, by simp [intOf]; omega⟩
      · have hdI : ¬ (y2 : Int) < (s.size : Int) := by omega
        rw [if_neg (by rw [ch_end s y2 (by omega)]; exact fun e => hz e.symm)] at HNT
        go_wp2_with fail
        refine ⟨⟨q + 1, by go_num, by omega, by rw [HNT.out]; exact HR3, HB3⟩, by simp [intOf]; omega⟩
    · obtain rfl : q = st.length := by omega
      rw [List.take_length] at HRI
      have hnl := nxt_len L R n st z
      obtain ⟨A6, c6, e6, hI6⟩ := ki_read HRI.out
      injection e6 with z1 z2 z3
      rw [← z1, ← z3] at hI6
      clear z1 z2 z3
      have HI6 := Lib.hid hI6
      have HC := Lib.hid (rclosure_calls _ n c L R A5 c5 (nxt L R n st z) wr (HA.out.later HB.out) HGR.out HI6.out (by omega) (nxt_fits HF.out hz))
      rw [show (clo L R n fun x => x ∈ nxt L R n st z) = ovr L R n st z from rfl] at HC
      rw [List.take_length]
      have hdr : decide (0 < (nxt L R n st z).length) = r := by
        cases r with
        | true => exact decide_eq_true (List.length_pos_iff.2 (HR.out.1 rfl))
        | false =>
          refine decide_eq_false fun h => ?_
          have := HR.out.2 (List.length_pos_iff.1 h)
          cases this
      clear hI6
      generalize (nxt L R n st z).length = ln at HC hdr ⊢
      go_wp2_with fail
      refine HC.out.mono ?_
      rintro e w7 ⟨⟨v, rfl, hv⟩, hb7⟩
      have HV := Lib.hid (Kd.R_lower hv HB.out.size)
      have HB7 := Lib.hid (HB.out.trans (hb7.mono HB.out.size))
      clear hv hb7
      go_wp2
      go_ret2
      exact ⟨⟨v, by rw [← hdr]; rfl, HV.out⟩, HB7.out⟩
def sameTo (x s : List It) (q : Nat) : Bool := decide (x.length = s.length ∧ ∀ j, j < q → x[j]? = s[j]?)
theorem sameTo_all {x s : List It} : sameTo x s x.length = true ↔ x = s := by
  unfold sameTo
  rw [decide_eq_true_iff]
  constructor
  · rintro ⟨h1, h2⟩
    apply List.ext_getElem?
    intro j
    by_cases hj : j < x.length
    · exact h2 j hj
    · rw [List.getElem?_eq_none (by omega), List.getElem?_eq_none (by omega)]
  · rintro rfl
    exact ⟨rfl, fun _ _ => rfl⟩
theorem sameTo_zero {x s : List It} : sameTo x s 0 = decide (x.length = s.length) := by
  unfold sameTo
  exact decide_eq_decide.2 ⟨fun h => h.1, fun h => ⟨h, fun j hj => by omega⟩⟩
theorem sameTo_succ {x s : List It} {q : Nat} {a b : It} (h1 : x[q]? = some a) (h2 : s[q]? = some b) : sameTo x s (q + 1) = (sameTo x s q && sameI a b) := by
  unfold sameTo sameI
  rw [← Bool.decide_and]
  refine decide_eq_decide.2 ⟨fun h => ⟨⟨h.1, fun j hj => h.2 j (by omega)⟩, ?_⟩, fun h => ⟨h.1.1, fun j hj => ?_⟩⟩
  · have := h.2 q (by omega)
    rw [h1, h2] at this
    injection this
  · by_cases e : j = q
    · rw [e, h1, h2, h.2]
    · exact h.1.2 j (by omega)
theorem sameTo_no {x s : List It} {q : Nat} (h : sameTo x s q = false) : sameTo x s (q + 1) = false := by
  unfold sameTo at h ⊢
  rw [decide_eq_false_iff_not] at h ⊢
  exact fun z => h ⟨z.1, fun j hj => z.2 j (by omega)⟩
set_option maxHeartbeats 8000000 in
set_option maxRecDepth 100000 in
theorem find_calls {A A2 : Option Addr} {n c c2 : Nat} {out : List (List It)} {s : List It} {w : World} (hS : StR w A n c out) (hn : n ≤ 1000) (hle : ∀ s ∈ out, s.length ≤ 1000) (h2 : Ir w A2 s.length c2 s) (hs : s.length ≤ 1000) :
    Calls Tryd.prog 87 #[.slice A n c, .slice A2 s.length c2] w fun e w' => (∃ r : Int, e = .returned (.int .i64 r) ∧ Fnd out s r) ∧ Below w.heap.size w w' := by
  have HS := Lib.hid hS
  have HL := Lib.hid hle
  have H2 := Lib.hid h2
  have HNO := Lib.hid hS.1
  clear hS hle h2
  go_enter Tryd.func87, Tryd.ntmps87
  go_wp2_with fail
  have HB := Lib.hid (Below.refl w.heap.size w)
  go_loopw [11] (fun i wr => ∃ k : Nat, k ≤ n ∧ i = .int .i64 k ∧ Hid (Below w.heap.size w wr) ∧ Hid (∀ j, j < k → out[j]? ≠ some s)) (fun i _ => n - (intOf i).toNat)
  case atStart => exact ⟨0, by omega, rfl, HB, Lib.hid (fun j hj => by omega)⟩
  case round =>
    clear HB
    obtain ⟨k, hk, rfl, HB, HN⟩ := hrel
    by_cases hkl : k < n
    · have hkI : (k : Int) < (n : Int) := by omega
      obtain ⟨b, off, rfl, hnc, hP⟩ := HS.out.open (by omega)
      obtain ⟨x, hx⟩ : ∃ x, out[k]? = some x := ⟨_, List.getElem?_eq_getElem (by have := HNO.out; omega)⟩
      obtain ⟨A', c', c0, hI⟩ := hP k x hx
      have c0' := (HB.out.cell (p := ⟨b, off + k, none⟩) (World.block_lt_of_cell? _ _ c0)).trans c0
      have HI := Lib.hid hI
      have hkc : k < c := by omega
      have HSS := Lib.hid hx
      have hxl := HL.out x (List.mem_of_getElem? hx)
      have HZ := Lib.hid (sameTo_zero (x := x) (s := s))
      clear hx hP c0 hI
      have hlx : ((x.length : Int) == (s.length : Int)) = sameTo x s 0 := by
        rw [HZ.out]
        by_cases e : x.length = s.length
        · simp [e]
        · simp [e]
          omega
      go_wp2_with fail
      go_loopw [23, 7] (fun i f wr => ∃ q : Nat, q ≤ x.length ∧ i = .int .i64 q ∧ f = .bool (sameTo x s q) ∧ Hid (Below w.heap.size w wr)) (fun i _ _ => x.length - (intOf i).toNat)
      case atStart => exact ⟨0, by omega, rfl, by first | rfl | (rw [← hlx]; done) | (rw [HZ.out]; simp), HB⟩
      case round =>
        clear HB
        obtain ⟨q, hq, rfl, rfl, HB⟩ := hrel
        by_cases hqx : q < x.length
        · have hqI : (q : Int) < (x.length : Int) := by omega
          obtain ⟨b1, o1, e1, hm1, hP1⟩ := HI.out.open (by omega)
          subst e1
          obtain ⟨⟨p1, d1⟩, hx1⟩ : ∃ y, x[q]? = some y := ⟨_, List.getElem?_eq_getElem hqx⟩
          have hbw := HB.out
          have f0 := (hbw.cell (p := ⟨b1, o1 + q * 2, none⟩) (World.block_lt_of_cell? _ _ (hP1.c0 q _ hx1))).trans (hP1.c0 q _ hx1)
          have f1 := (hbw.cell (p := ⟨b1, o1 + q * 2 + 1, none⟩) (World.block_lt_of_cell? _ _ (hP1.c1 q _ hx1))).trans (hP1.c1 q _ hx1)
          simp only at f0 f1
          have hqc : q < c' := by omega
          have HX1 := Lib.hid hx1
          clear hx1 hP1 hbw
          cases hsm : sameTo x s q with
          | false =>
            have HNX := Lib.hid (sameTo_no hsm)
            clear hsm
            go_wp2_with fail
            go_quiet (fail)
            have hbq := pw_below_drewN (Below.refl wr.heap.size wr) nq
            have HB3 := Lib.hid (HB.out.trans (hbq.mono HB.out.size))
            clear hbq f0 f1
            generalize wr.drewN nq = w3 at HB3 ⊢
            go_wp2_with fail
            refine ⟨⟨q + 1, by omega, by go_num, by rw [HNX.out], HB3⟩, by simp [intOf]; omega⟩
          | true =>
            have hxs : x.length = s.length := by
              unfold sameTo at hsm
              exact (of_decide_eq_true hsm).1
            have HSM := Lib.hid hsm
            obtain ⟨b2, o2, e2, hm2, hP2⟩ := H2.out.open (by omega)
            subst e2
            obtain ⟨⟨p2, d2⟩, hx2⟩ : ∃ y, s[q]? = some y := ⟨_, List.getElem?_eq_getElem (by omega)⟩
            have hbw := HB.out
            have g0 := (hbw.cell (p := ⟨b2, o2 + q * 2, none⟩) (World.block_lt_of_cell? _ _ (hP2.c0 q _ hx2))).trans (hP2.c0 q _ hx2)
            have g1 := (hbw.cell (p := ⟨b2, o2 + q * 2 + 1, none⟩) (World.block_lt_of_cell? _ _ (hP2.c1 q _ hx2))).trans (hP2.c1 q _ hx2)
            simp only at g0 g1
            have hqs : q < s.length := by omega
            have hqsI : (q : Int) < (s.length : Int) := by omega
            have hqc2 : q < c2 := by omega
            have HNX := Lib.hid (sameTo_succ HX1.out hx2)
            rw [HSM.out, Bool.true_and] at HNX
            have hm73 : Tryd.prog.eqGuardType Tryd.prog.depth 73 = false := by kernel_rfl
            have he := fun w => item_eq73 p1 d1 p2 d2 w
            obtain ⟨sb, hsb⟩ : ∃ sb, sameI (p1, d1) (p2, d2) = sb := ⟨_, rfl⟩
            rw [hsb] at he HNX
            clear hx2 hP2 hbw hsm hsb hxs
            go_wp2_with fail
            go_quiet (fail)
            have hbq := pw_below_drewN (Below.refl wr.heap.size wr) nq
            have HB3 := Lib.hid (HB.out.trans (hbq.mono HB.out.size))
            clear hbq f0 f1 g0 g1 he hm73
            generalize wr.drewN nq = w3 at HB3 ⊢
            go_wp2_with fail
            refine ⟨⟨q + 1, by omega, by go_num, by rw [HNX.out], HB3⟩, by simp [intOf]; omega⟩
        · obtain rfl : q = x.length := by omega
          have hsa := sameTo_all (x := x) (s := s)
          cases hsm : sameTo x s x.length with
          | true =>
            have HE := Lib.hid (hsa.1 hsm)
            clear hsa hsm
            go_wp2
            go_ret
            exact ⟨⟨_, rfl, .inr ⟨k, rfl, by have := HNO.out; omega, by rw [HSS.out, HE.out], by rw [← HE.out]; exact List.mem_of_getElem? HSS.out, HN.out⟩⟩, HB.out⟩
          | false =>
            have HE : Hid (x ≠ s) := Lib.hid (fun z => by have := hsa.2 z; rw [hsm] at this; cases this)
            clear hsa hsm
            go_wp2_with fail
            refine ⟨⟨k + 1, by omega, by go_num, HB, Lib.hid (fun j hj => ?_)⟩, by simp [intOf]; omega⟩
            by_cases e : j = k
            · rw [e, HSS.out]
              intro z
              injection z with z
              exact HE.out z
            · exact HN.out j (by omega)
    · obtain rfl : k = n := by omega
      go_wp2
      go_ret
      refine ⟨⟨_, rfl, .inl ⟨rfl, fun q => ?_⟩⟩, HB.out⟩
      obtain ⟨j, hj⟩ := List.getElem?_of_mem q
      exact HN.out j (by have := (List.getElem?_eq_some_iff.1 hj).1; have := HNO.out; omega) hj
end Go.Proofs.YtjpfalanoifpbaaDoor.X
end

section
set_option linter.unusedVariables false
set_option linter.unusedSimpArgs false
namespace Go.Proofs.YtjpfalanoifpbaaDoor.X
open Go.RowKit Go.Proofs.YtjpfalanoifpbaaDoorW.PrintWords Go.Proofs.YtjpfalanoifpbaaDoorW.PrintLast Go.Proofs.YtjpfalanoifpbaaDoorW.PrintMore Go.Proofs.YtjpfalanoifpbaaDoor.T
abbrev KS73 : Kd (List It) := Kd.slice 73 KI
abbrev RS73 (B : Nat) (w : World) (v : Value) (out : List (List It)) : Prop := Kd.R KS73 69 w B (fun _ => True) v out
theorem ir_lit (W : World) (t : TypeId) (x : It) : Ir (W.alloc (.cells #[.int .i64 (x.1 : Nat), .int .i64 (x.2 : Nat)] t)) (some ⟨W.heap.size, 0, none⟩) [x].length 1 [x] := by
  obtain ⟨h0, h1⟩ := it_new W t (x.1 : Nat) (x.2 : Nat)
  have key : ∀ (i : Nat) y, [x][i]? = some y → i = 0 ∧ y = x := fun i y h => by
    have hi := (List.getElem?_eq_some_iff.1 h).1
    simp at hi
    subst hi
    simp at h
    exact ⟨rfl, h.symm⟩
  refine ⟨rfl, .inr ⟨_, 0, rfl, Nat.le_refl _, fun i y h => ?_, fun i y h => ?_⟩⟩
  · obtain ⟨rfl, rfl⟩ := key i y h
    simp
  · obtain ⟨rfl, rfl⟩ := key i y h
    simp
theorem rs73_lit (W : World) {B : Nat} {v : Value} {st : List It} (hB : B ≤ W.heap.size) (h : Kd.R KI 73 W B (fun _ => True) v st) : RS73 B (W.alloc (.cells #[v] 69)) (.slice (some ⟨W.heap.size, 0, none⟩) 1 1) [st] := by
  refine ⟨fun _ _ => trivial, OwnRow.lit (ps := [st]) (inner := [v]) W B (Reps.snoc (ps := []) (cs := []) (Reps.none _ _) ⟨v, rfl, ?_⟩ rfl) hB (by simp)⟩
  refine Kd.R_mono (Kd.R_below (Kd.R_bound h) (below_one _)) fun k hk => ⟨trivial, fun e => ?_⟩
  have h3 : k = W.heap.size := by simpa [Value.ownBlock] using e
  have := hk.2.2.1
  omega
theorem info69 : (Tryd.prog.info? 69).map (fun i => (i.zero, i.size, i.bytes)) = some (some (.slice none 0 0), 1, 24) := by kernel_rfl
def strC : ByteArray := ⟨#[65, 66, 67, 68, 69, 97, 98, 99, 100]⟩
theorem strC_at {k : Nat} (hk : k < 9) : ((strC[k]'(by show k < 9; exact hk)).toNat : Int) = lets[k]'hk := by
  match k, hk with
  | 0, _ => rfl
  | 1, _ => rfl
  | 2, _ => rfl
  | 3, _ => rfl
  | 4, _ => rfl
  | 5, _ => rfl
  | 6, _ => rfl
  | 7, _ => rfl
  | 8, _ => rfl
set_option maxHeartbeats 16000000 in
set_option maxRecDepth 100000 in
theorem rStates_calls (A : Option Addr) (n c : Nat) (L : Nat → Int) (R : Nat → ByteArray) (w : World) (hA : Sr w A n c L R) (hg : Gr L R n) :
    Calls Tryd.prog 45 #[.slice A n c] w fun e w' => ((∃ v out, e = .returned (.tuple #[v, .int .i64 0]) ∧ StaI L R n out out.length ∧ RS73 w.heap.size w' v out) ∨ (stas L R n = none ∧ e = .returned (.tuple #[.slice none 0 0, .int .i64 6]))) ∧ Below w.heap.size w w' := by
  have hn1 := hg.n1
  have hn8 := hg.n8
  have HA := Lib.hid hA
  have HGR := Lib.hid hg
  have H4 : Hid (R4 R n) := Lib.hid hg.sz
  obtain ⟨b, off, rfl, hnc, -⟩ := hA.open hn1
  clear hA hg
  have hbL := below_one (w := w) (.cells #[.int .i64 (n : Nat), .int .i64 ((0 : Nat) : Nat)] 73)
  have HB1 := Lib.hid hbL
  have HIL := Lib.hid (ir_lit w 73 (n, 0))
  clear hbL
  go_enter Tryd.func45, Tryd.ntmps45
  go_wp2_with fail
  refine (rclosure_calls _ n c L R _ 1 [(n, 0)] _ (HA.out.later HB1.out) HGR.out HIL.out (by simp) (fun x hx => by rw [List.mem_singleton] at hx; exact sta0_fits x hx)).mono ?_
  rintro e w2 ⟨⟨v, rfl, hv⟩, hb2⟩
  rw [show (clo L R n fun x => x ∈ [(n, 0)]) = sta0 L R n from clo_congr fun y => by simp] at hv
  have HB2 := Lib.hid (HB1.out.trans (hb2.mono HB1.out.size))
  obtain ⟨A2, c2, e2⟩ := Kd.R_slice hv
  subst e2
  have HRS := Lib.hid (rs73_lit w2 HB2.out.size (Kd.R_lower hv HB1.out.size))
  have hbM := below_one (w := w2) (.cells #[.slice A2 (sta0 L R n).length c2] 69)
  have HB3 := Lib.hid (HB2.out.trans (hbM.mono HB2.out.size))
  have HSI := Lib.hid (StaI.start (L := L) (R := R) (n := n) H4.out)
  clear hv hb2 hbM HB2 HIL HB1
  go_wp2_with fail
  generalize w2.alloc (.cells #[.slice A2 (sta0 L R n).length c2] 69) = w3 at HRS HB3 ⊢
  go_loopw [5, 4] (fun i v wr => ∃ (x : Nat) (out : List (List It)), i = .int .i64 x ∧ x ≤ 64 ∧ Hid (StaI L R n out x) ∧ Hid (RS73 w.heap.size wr v out) ∧ Hid (Below w.heap.size w wr)) (fun i _ _ => 65 - (intOf i).toNat)
  case atStart => exact ⟨0, _, rfl, by omega, HSI, HRS, HB3⟩
  case round =>
    clear HSI HRS HB3
    obtain ⟨x, out, rfl, hx64, HSI, HRS, HB⟩ := hrel
    obtain ⟨AS, cS, eS⟩ := Kd.R_slice HRS.out
    subst eS
    by_cases hxl : x < out.length
    · have hxI : (x : Int) < (out.length : Int) := by omega
      obtain ⟨st, hst⟩ : ∃ st, out[x]? = some st := ⟨_, List.getElem?_eq_getElem hxl⟩
      have HSK := Lib.hid (HSI.out.row hst)
      clear hst
      go_wp2_with fail
      go_loopw [22, 4] (fun i v wr => ∃ (k : Nat) (out : List (List It)), i = .int .i64 k ∧ k ≤ 9 ∧ Hid (StaK L R n st out x k) ∧ Hid (RS73 w.heap.size wr v out) ∧ Hid (Below w.heap.size w wr)) (fun i _ _ => 9 - (intOf i).toNat)
      case atStart => exact ⟨0, _, rfl, by omega, HSK, HRS, HB⟩
      case round =>
        clear HSK HRS HB HSI
        obtain ⟨k, out, rfl, hk9, HSK, HRS, HB⟩ := hrel
        obtain ⟨AS, cS, eS, hSt⟩ := ks_read HRS.out
        subst eS
        have hx65 : x < out.length := (List.getElem?_eq_some_iff.1 HSK.out.at_).1
        have hol := HSK.out.le
        by_cases hkl : k < 9
        · have hkI : (k : Int) < 9 := by omega
          obtain ⟨z, hz⟩ : ∃ z, lets[k]'hkl = z := ⟨_, rfl⟩
          have hbt := strC_at hkl
          rw [hz] at hbt
          unfold strC at hbt
          have HZ := Lib.hid hz
          have hzn : z ≠ 0 := by rw [← hz]; exact lets_ne hkl
          obtain ⟨bS, oS, eS, hnS, hcS⟩ := hSt.open (by omega)
          subst eS
          have HStW := Lib.hid hSt
          obtain ⟨A', c', s0, hI⟩ := hcS x st HSK.out.at_
          have hfs := HSK.out.fits st (List.mem_of_getElem? HSK.out.at_)
          have hsl := state_len H4.out hn8 hfs
          have HFS := Lib.hid hfs.2
          have HIS := Lib.hid hI
          have HOK := Lib.hid (ovr_ok H4.out hfs.2 hzn)
          have hxcS : x < cS := by omega
          have hkz : k < 9223372036854775807 := by omega
          clear hz hSt hcS hI hfs
          go_wp2_with fail
          refine start_ (n := 13) (S := fun w' => w'.cell? ⟨bS, oS + x, none⟩ = some (.slice A' st.length c') ∧ True) (ds := [7]) #[false, false, false, false, false, false, false, false, false, false, false, false, false] (by kernel_rfl) rfl rfl ⟨by simpa using s0, trivial⟩ (fun hHeld => ?_)
          refine pure_ (i := 0) (N := (some 26)) (v := ?_) (a' := ?_) #[true, false, false, false, false, false, false, false, false, false, false, false, false] rfl rfl (by kernel_rfl) (fun _ _ _ h => h) (Or.inl ⟨by rfl, ?_⟩) ?_ ?_
          rotate_left
          · intro w'; go_simp; first | done | with_reducible rfl
          rotate_left
          · simp only [Act.put, List.setIfInBounds_toArray, List.set_cons_zero, List.set_cons_succ, i64_w, i32_w]; rfl
          refine pure_ (i := 1) (N := (some 27)) (v := ?_) (a' := ?_) #[true, true, false, false, false, false, false, false, false, false, false, false, false] rfl rfl (by kernel_rfl) (fun _ _ _ h => h) (Or.inl ⟨by rfl, ?_⟩) ?_ ?_
          rotate_left
          · intro w'; go_simp; first | done | with_reducible rfl
          rotate_left
          · simp only [Act.put, List.setIfInBounds_toArray, List.set_cons_zero, List.set_cons_succ, i64_w, i32_w]; rfl
          refine pure_ (i := 2) (N := (some 28)) (v := ?_) (a' := ?_) #[true, true, true, false, false, false, false, false, false, false, false, false, false] rfl rfl (by kernel_rfl) (fun _ _ _ h => h) (Or.inl ⟨by rfl, ?_⟩) ?_ ?_
          rotate_left
          · intro w'; go_simp; first | done | with_reducible rfl
          rotate_left
          · simp only [Act.put, List.setIfInBounds_toArray, List.set_cons_zero, List.set_cons_succ, i64_w, i32_w]; rfl
          refine pure_ (i := 3) (N := (some 29)) (v := ?_) (a' := ?_) #[true, true, true, true, false, false, false, false, false, false, false, false, false] rfl rfl (by kernel_rfl) (fun _ _ _ h => h) (Or.inl ⟨by rfl, ?_⟩) ?_ ?_
          rotate_left
          · intro w'; go_simp; first | done | with_reducible rfl
          rotate_left
          · simp only [Act.put, List.setIfInBounds_toArray, List.set_cons_zero, List.set_cons_succ, i64_w, i32_w]; rfl
          refine take_ (i := 4) (N := (some 30)) (v := ?_) (a' := ?_) #[true, true, true, true, true, false, false, false, false, false, false, false, false] rfl rfl (by kernel_rfl) (fun _ _ _ h => h) (Or.inl ⟨by rfl, ?_⟩) hHeld ?_ ?_
          rotate_left
          · rintro w' ⟨s0, s1⟩; go_simp; first | done | with_reducible rfl
          rotate_left
          · simp only [Act.put, List.setIfInBounds_toArray, List.set_cons_zero, List.set_cons_succ, i64_w, i32_w]; rfl
          refine pure_ (i := 5) (N := (some 31)) (v := ?_) (a' := ?_) #[true, true, true, true, true, true, false, false, false, false, false, false, false] rfl rfl (by kernel_rfl) (fun _ _ _ h => h) (Or.inl ⟨by rfl, ?_⟩) ?_ ?_
          rotate_left
          · intro w'; go_simp; first | done | with_reducible rfl
          rotate_left
          · simp only [Act.put, List.setIfInBounds_toArray, List.set_cons_zero, List.set_cons_succ, i64_w, i32_w]; rfl
          refine pure_ (i := 6) (N := (some 32)) (v := (.int .u8 z)) (a' := ?_) #[true, true, true, true, true, true, true, false, false, false, false, false, false] rfl rfl (by kernel_rfl) (fun _ _ _ h => h) (Or.inl ⟨by rfl, ?_⟩) ?_ ?_
          · intro w'; go_simp; first | done | with_reducible rfl
          rotate_left
          · simp only [Act.put, List.setIfInBounds_toArray, List.set_cons_zero, List.set_cons_succ, i64_w, i32_w]; rfl
          refine last_ (i := 7) (N := (some 33)) #[true, true, true, true, true, true, true, true, false, false, false, false, false] rfl rfl (by kernel_rfl) (by decide) (fun K hK => ?_)
          obtain ⟨r, hr⟩ : ∃ r : Bool, r = true ↔ nxt L R n st z ≠ [] := ⟨decide (nxt L R n st z ≠ []), by simp⟩
          have HR := Lib.hid hr
          have HBD : Hid (Below w.heap.size w wr.drew) := Lib.hid HB.out.drew
          have HRD := Lib.hid (Kd.R_below HRS.out (Below.refl _ wr).drew)
          have HID := Lib.hid (HIS.out.later (Below.refl _ wr).drew)
          have HSD := Lib.hid (HStW.out.later (Below.refl _ wr).drew)
          clear hr HB HRS HIS HStW s0 hHeld
          generalize wr.drew = wd at HBD HRD HID HSD ⊢
          refine goes_ Tryd.func86 (by kernel_rfl) rfl #[.slice (some ⟨b, off, none⟩) n c, .slice A' st.length c', .int .u8 z] (by rfl) rfl rfl (by (try simp only [List.map_toArray, List.map_cons, List.map_nil]); first | done | rfl) ?_
          refine (over_calls _ n c L R A' c' st z _ (HA.out.later HBD.out) HGR.out HID.out (by omega) HFS.out hzn r HR.out).mono ?_
          rintro e w5 ⟨⟨v5, rfl, hv⟩, hb5⟩
          obtain ⟨A5, c5, e5⟩ := Kd.R_slice hv
          subst e5
          have HV := Lib.hid hv
          have HB5 := Lib.hid (HBD.out.trans (hb5.mono HBD.out.size))
          have HRS5 := Lib.hid (Kd.R_below HRD.out hb5)
          have HS5 := Lib.hid (HSD.out.later hb5)
          have HBS : Hid (∀ k, (Value.slice (some ⟨bS, oS, none⟩) out.length cS).ownBlock = some k → k < wd.heap.size) := Lib.hid (Kd.R_lt HRD.out)
          clear hv hb5
          refine ⟨_, rfl, ?_⟩
          refine hK.out _ _ ?_
          clear hK K
          refine norm_ (a' := ?_) ?_ ?_
          rotate_left
          · show Act.put _ (some 33) _ = _; simp only [Act.put, List.setIfInBounds_toArray, List.set_cons_zero, List.set_cons_succ, i64_w, i32_w]; rfl
          refine pure_ (i := 8) (N := (some 25)) (v := ?_) (a' := ?_) #[true, true, true, true, true, true, true, true, true, false, false, false, false] rfl rfl (by kernel_rfl) (fun _ _ _ h => h) (Or.inl ⟨by rfl, ?_⟩) ?_ ?_
          rotate_left
          · intro w'; go_simp; first | done | with_reducible rfl
          rotate_left
          · simp only [Act.put, List.setIfInBounds_toArray, List.set_cons_zero, List.set_cons_succ, i64_w, i32_w]; rfl
          refine pure_ (i := 9) (N := (some 34)) (v := ?_) (a' := ?_) #[true, true, true, true, true, true, true, true, true, true, false, false, false] rfl rfl (by kernel_rfl) (fun _ _ _ h => h) (Or.inl ⟨by rfl, ?_⟩) ?_ ?_
          rotate_left
          · intro w'; go_simp; first | done | with_reducible rfl
          rotate_left
          · simp only [Act.put, List.setIfInBounds_toArray, List.set_cons_zero, List.set_cons_succ, i64_w, i32_w]; rfl
          refine pure_ (i := 10) (N := (some 35)) (v := ?_) (a' := ?_) #[true, true, true, true, true, true, true, true, true, true, true, false, false] rfl rfl (by kernel_rfl) (fun _ _ _ h => h) (Or.inl ⟨by rfl, ?_⟩) ?_ ?_
          rotate_left
          · intro w'; go_simp; first | done | with_reducible rfl
          rotate_left
          · simp only [Act.put, List.setIfInBounds_toArray, List.set_cons_zero, List.set_cons_succ, i64_w, i32_w]; rfl
          refine pure_ (i := 11) (N := (some 7)) (v := ?_) (a' := ?_) #[true, true, true, true, true, true, true, true, true, true, true, true, false] rfl rfl (by kernel_rfl) (fun _ _ _ h => h) (Or.inl ⟨by rfl, ?_⟩) ?_ ?_
          rotate_left
          · intro w'; go_simp; first | done | with_reducible rfl
          rotate_left
          · simp only [Act.put, List.setIfInBounds_toArray, List.set_cons_zero, List.set_cons_succ, i64_w, i32_w]; rfl
          refine pure_ (i := 12) (N := (some 8)) (v := ?_) (a' := ?_) #[true, true, true, true, true, true, true, true, true, true, true, true, true] rfl rfl (by kernel_rfl) (fun _ _ _ h => h) (Or.inl ⟨by rfl, ?_⟩) ?_ ?_
          rotate_left
          · intro w'; go_simp; first | done | with_reducible rfl
          rotate_left
          · simp only [Act.put, List.setIfInBounds_toArray, List.set_cons_zero, List.set_cons_succ, i64_w, i32_w]; rfl
          refine done_ (by kernel_rfl) ?_
          have hol45 := state_len H4.out hn8 HOK.out
          obtain ⟨ov, hov⟩ : ∃ ov, ovr L R n st z = ov := ⟨_, rfl⟩
          rw [hov] at HV HOK hol45 ⊢
          have HOV := Lib.hid hov
          clear hov
          cases r with
          | false =>
            have hnx : nxt L R n st z = [] := Classical.byContradiction fun q => by have := HR.out.2 q; cases this
            have HSK2 := Lib.hid (HSK.out.none_ hkl (by rw [HZ.out]; exact hnx))
            have hlI : ¬ (64 : Int) < (out.length : Int) := by omega
            clear hnx
            go_wp2_with fail
            refine ⟨⟨k + 1, out, by go_num, by omega, HSK2, HRS5, HB5⟩, by simp [intOf]; omega⟩
          | true =>
            have HNX := Lib.hid (HR.out.1 rfl)
            have HNX2 : Hid (nxt L R n st (lets[k]'hkl) ≠ []) := Lib.hid (by rw [HZ.out]; exact HNX.out)
            have hle : ∀ s ∈ out, s.length ≤ 1000 := fun s hs => Nat.le_trans (state_len H4.out hn8 (HSK.out.fits s hs)) (by decide)
            obtain ⟨A9, c9, e9, hI9⟩ := ki_read HV.out
            injection e9 with z1 z2 z3
            rw [← z1, ← z3] at hI9
            clear z1 z2 z3
            have HFI := Lib.hid (find_calls HS5.out (by omega) hle hI9 (by omega))
            clear hle hI9
            go_wp2_with fail
            refine HFI.out.mono ?_
            rintro e w6 ⟨⟨r', rfl, hf⟩, hb6⟩
            have HV6 := Lib.hid (Kd.R_below HV.out hb6)
            have HB6 := Lib.hid (HB5.out.trans (hb6.mono HB5.out.size))
            have HRS6 := Lib.hid (Kd.R_below HRS5.out hb6)
            clear hb6 HV HB5 HRS5 HS5 HFI
            rcases hf with ⟨rfl, hnew⟩ | ⟨k', rfl, hk', hat, hmem, hno⟩
            · have HNEW : Hid (ovr L R n st (lets[k]'hkl) ∉ out) := Lib.hid (by rw [HZ.out, HOV.out]; exact hnew)
              have HRO : Hid (Kd.R KI 73 w6 w.heap.size (fun k => wd.heap.size ≤ k) (.slice A5 ov.length c5) ov) := Lib.hid (Kd.R_lower (Kd.R_mono (Kd.R_bound HV6.out) (fun k hk => hk.2.1)) HBD.out.size)
              clear hnew
              by_cases h64 : out.length < 64
              · have HSK2 := Lib.hid (HSK.out.new H4.out hkl HNX2.out HNEW.out h64)
                rw [HZ.out, HOV.out] at HSK2
                have h64I : ¬ (64 : Int) < ((out.length : Int) + 1) := by omega
                go_wp2_with (at_builtin; refine Kd.R_append KS73 (w0 := w) w.heap.size rfl (.tmp 43) (.tmp 45) 65 69 (.slice none 0 0) 24 rfl Tryd.underlying65 info69 rfl (by decide) (by decide) (.slice (some ⟨bS, oS, none⟩) out.length cS) out ov [.slice A5 ov.length c5] (fun _ => True) (fun k => wd.heap.size ≤ k) rfl rfl ⟨_, rfl, HRO.out⟩ (fun k hk => ⟨trivial, fun e => by have := HBS.out k e.symm; omega⟩) (fun _ _ => trivial) HRS6.out HB6.out HB6.out.size (by omega) ?_; intro v7 w7 hv hb hg hat; obtain ⟨A7, c7, e7⟩ := Kd.R_slice hv; subst e7; have HR7 := Lib.hid hv; have HB7 := Lib.hid hb; rw [show (out ++ [ov]).length = out.length + 1 by simp] at HR7 ⊢; clear hv hb hg hat)
                refine ⟨⟨k + 1, out ++ [ov], by go_num, by omega, HSK2, HR7, HB7⟩, by simp [intOf]; omega⟩
              · have HFU := Lib.hid (HSK.out.full hkl HNX2.out HNEW.out h64)
                have h64I : (64 : Int) < ((out.length : Int) + 1) := by omega
                go_wp2_with (at_builtin; refine Kd.R_append KS73 (w0 := w) w.heap.size rfl (.tmp 43) (.tmp 45) 65 69 (.slice none 0 0) 24 rfl Tryd.underlying65 info69 rfl (by decide) (by decide) (.slice (some ⟨bS, oS, none⟩) out.length cS) out ov [.slice A5 ov.length c5] (fun _ => True) (fun k => wd.heap.size ≤ k) rfl rfl ⟨_, rfl, HRO.out⟩ (fun k hk => ⟨trivial, fun e => by have := HBS.out k e.symm; omega⟩) (fun _ _ => trivial) HRS6.out HB6.out HB6.out.size (by omega) ?_; intro v7 w7 hv hb hg hat; obtain ⟨A7, c7, e7⟩ := Kd.R_slice hv; subst e7; have HB7 := Lib.hid hb; rw [show (out ++ [ov]).length = out.length + 1 by simp]; clear hv hb hg hat)
                go_ret2
                exact ⟨.inr ⟨HFU.out, rfl⟩, HB7.out⟩
            · have HSK2 := Lib.hid (HSK.out.old hkl (by rw [HZ.out, HOV.out]; exact hmem))
              have hlI : ¬ (64 : Int) < (out.length : Int) := by omega
              have hkI2 : ¬ (k' : Int) < 0 := by omega
              clear hat hmem hno
              go_wp2_with fail
              refine ⟨⟨k + 1, out, by go_num, by omega, HSK2, HRS6, HB6⟩, by simp [intOf]; omega⟩
        · obtain rfl : k = 9 := by omega
          have HSI9 := Lib.hid HSK.out.next
          clear hSt
          go_wp2_with fail
          refine ⟨⟨x + 1, out, by go_num, by omega, HSI9, HRS, HB⟩, by simp [intOf]; omega⟩
    · obtain rfl : x = out.length := by have := HSI.out.ile; omega
      go_wp2
      go_ret2
      exact ⟨.inl ⟨_, out, rfl, HSI.out, HRS.out⟩, HB.out⟩
end Go.Proofs.YtjpfalanoifpbaaDoor.X
end

section
set_option linter.unusedVariables false
set_option linter.unusedSimpArgs false
namespace Go.Proofs.YtjpfalanoifpbaaDoor.X
open Go.RowKit Go.Proofs.YtjpfalanoifpbaaDoorW.PrintWords Go.Proofs.YtjpfalanoifpbaaDoorW.PrintLast Go.Proofs.YtjpfalanoifpbaaDoorW.PrintMore Go.Proofs.YtjpfalanoifpbaaDoor.T
theorem sta_same {L : Nat → Int} {R : Nat → ByteArray} {n : Nat} {o1 o2 : List (List It)} (h1 : StaI L R n o1 o1.length) (h2 : StaI L R n o2 o2.length) : o1 = o2 := by
  have a := h1.done
  rw [h2.done] at a
  injection a with a
  exact a.symm
theorem sta_not {L : Nat → Int} {R : Nat → ByteArray} {n : Nat} {o1 : List (List It)} (h1 : StaI L R n o1 o1.length) (h2 : stas L R n = none) : False := by
  have a := h1.done
  rw [h2] at a
  cases a
theorem sta_len {L : Nat → Int} {R : Nat → ByteArray} {n : Nat} {out : List (List It)} (h4 : R4 R n) (hn : n ≤ 8) (h : StaI L R n out out.length) : ∀ s ∈ out, s.length ≤ 1000 := fun s hs => Nat.le_trans (state_len h4 hn (h.fits s hs)) (by decide)
end Go.Proofs.YtjpfalanoifpbaaDoor.X
end

section
set_option linter.unusedVariables false
set_option linter.unusedSimpArgs false
namespace Go.Proofs.YtjpfalanoifpbaaDoor.X
open Go.RowKit Go.Proofs.YtjpfalanoifpbaaDoorW.PrintWords Go.Proofs.YtjpfalanoifpbaaDoorW.PrintLast Go.Proofs.YtjpfalanoifpbaaDoorW.PrintMore Go.Proofs.YtjpfalanoifpbaaDoor.T
theorem letC_conv0 (W : World) : (convert 74 74 (.slice (some ⟨W.heap.size, 0, none⟩) 9 9)).run Tryd.prog (W.alloc (.cells #[.int .u8 65, .int .u8 66, .int .u8 67, .int .u8 68, .int .u8 69, .int .u8 97, .int .u8 98, .int .u8 99, .int .u8 100] 5)) = .ok (.slice (some ⟨W.heap.size, 0, none⟩) 9 9) (W.alloc (.cells #[.int .u8 65, .int .u8 66, .int .u8 67, .int .u8 68, .int .u8 69, .int .u8 97, .int .u8 98, .int .u8 99, .int .u8 100] 5 (9, 10))) :=
  Go.Joins.run_convert_bytes_const_at (P := Tryd.prog) W 74 5 letC 9 9 W.heap.size rfl Tryd.underlying74 Tryd.underlying5
set_option maxHeartbeats 4000000 in
set_option maxRecDepth 100000 in
theorem indexB_calls {w : World} {H : Nat} (h : w.heap[H]? = some (.cells letC 5 (9, 10))) (x : Int) (r : Bool) (hr : r = true ↔ x ∈ lets) :
    Calls Tryd.prog 108 #[.slice (some ⟨H, 0, none⟩) 9 9, .int .u8 x] w fun e w' => (∃ i : Int, e = .returned (.int .i64 i) ∧ (decide (0 ≤ i)) = r) ∧ w' = w := by
  have HH := Lib.hid h
  have HR := Lib.hid hr
  clear h hr
  go_enter Tryd.func108, Tryd.ntmps108
  go_wp2_with fail
  go_loopw [8] (fun i wr => ∃ k : Nat, k ≤ 9 ∧ i = .int .i64 k ∧ Hid (∀ j, j < k → lets[j]? ≠ some x) ∧ wr = w) (fun i _ => 9 - (intOf i).toNat)
  case atStart => exact ⟨0, by omega, rfl, Lib.hid (fun j h => by omega), rfl⟩
  case round =>
    obtain ⟨k, hk, rfl, HK, rfl⟩ := hrel
    by_cases hlt : k < 9
    · have hkI : (k : Int) < 9 := by omega
      have a0 := letC_at HH.out hlt
      have hzq : lets[k]? = some (lets[k]'hlt) := List.getElem?_eq_getElem hlt
      obtain ⟨z, hz⟩ : ∃ z, lets[k]'hlt = z := ⟨_, rfl⟩
      rw [hz] at a0 hzq
      have HZ := Lib.hid hzq
      clear hz hzq
      by_cases e : z = x
      · subst e
        have hrt : r = true := HR.out.2 (List.mem_of_getElem? HZ.out)
        have HRT := Lib.hid hrt
        clear hrt
        go_wp2
        go_ret
        exact ⟨⟨k, rfl, by rw [HRT.out]; simp⟩, rfl⟩
      · have e2 : ¬ x = z := fun q => e q.symm
        go_wp2_with fail
        refine ⟨⟨k + 1, by omega, by go_num, Lib.hid (fun j hj => ?_), by first | rfl | trivial⟩, by simp [intOf]; omega⟩
        by_cases q : j = k
        · rw [q, HZ.out]
          intro w
          injection w with w
          exact e w
        · exact HK.out j (by omega)
    · have hk9 : k = 9 := by omega
      have hkI : ¬ (k : Int) < 9 := by omega
      have hrf : r = false := by
        rw [Bool.eq_false_iff]
        intro q
        obtain ⟨j, hj⟩ := List.getElem?_of_mem (HR.out.1 q)
        have : j < 9 := (List.getElem?_eq_some_iff.1 hj).1
        exact HK.out j (by omega) hj
      have HRF := Lib.hid hrf
      clear hrf hk9
      go_wp2
      go_ret
      exact ⟨⟨-1, rfl, by rw [HRF.out]; rfl⟩, rfl⟩
set_option maxHeartbeats 1000000 in
set_option maxRecDepth 100000 in
theorem containsB_calls {w : World} {H : Nat} (h : w.heap[H]? = some (.cells letC 5 (9, 10))) (x : Int) (r : Bool) (hr : r = true ↔ x ∈ lets) :
    Calls Tryd.prog 88 #[.slice (some ⟨H, 0, none⟩) 9 9, .int .u8 x] w fun e w' => e = .returned (.bool r) ∧ w' = w := by
  have H0 := Lib.hid (indexB_calls h x r hr)
  clear h hr
  go_enter Tryd.func88, Tryd.ntmps88
  go_wp2_with fail
  refine H0.out.mono ?_
  rintro e w1 ⟨⟨i, rfl, hi⟩, rfl⟩
  have HI := Lib.hid hi
  clear hi
  go_wp2
  go_ret
  exact ⟨ret_bool HI.out, rfl⟩
def GoP (L : Nat → Int) (R : Nat → ByteArray) (n : Nat) (state letter x err : Int) : Prop :=
  (letter ∉ lets ∧ x = 0 ∧ err = 2) ∨ (letter ∈ lets ∧ ((stas L R n = none ∧ x = 0 ∧ err = 6) ∨ ∃ out, StaI L R n out out.length ∧ ((¬ (0 ≤ state ∧ state < out.length) ∧ x = 0 ∧ err = 2) ∨ ∃ (i : Nat) (st : List It), state = i ∧ out[i]? = some st ∧ ((nxt L R n st letter = [] ∧ x = 0 ∧ err = 4) ∨ (nxt L R n st letter ≠ [] ∧ ovr L R n st letter ∈ out ∧ x = leadsTo L R n out st letter ∧ err = 0)))))
set_option maxHeartbeats 8000000 in
set_option maxRecDepth 100000 in
theorem Go_yes (A : Option Addr) (n c : Nat) (L : Nat → Int) (R : Nat → ByteArray) (state letter : Int) (w : World) (hA : Sr w A n c L R) (hg : Gram L R n) :
    Calls Tryd.prog 49 #[.slice A n c, .int .i64 state, .int .u8 letter] w fun e w' => (∃ x err, e = .returned (.tuple #[.int .i64 x, .int .i64 err]) ∧ GoP L R n state letter x err) ∧ Below w.heap.size w w' := by
  have HA := Lib.hid hA
  have HG := Lib.hid hg
  obtain ⟨r, hr⟩ : ∃ r : Bool, r = true ↔ letter ∈ lets := ⟨decide (letter ∈ lets), by simp⟩
  have HR := Lib.hid hr
  have hcv := letC_conv0
  clear hA hg hr
  go_enter Tryd.func49, Tryd.ntmps49
  go_wp2_with fail
  have hbL := below_one (w := w) (.cells letC 5 (9, 10))
  have HLB := Lib.hid (blk_new w (.cells letC 5 (9, 10)))
  have HB := Lib.hid hbL
  unfold letC at HB HLB
  clear hbL hcv
  generalize w.alloc (.cells #[.int .u8 65, .int .u8 66, .int .u8 67, .int .u8 68, .int .u8 69, .int .u8 97, .int .u8 98, .int .u8 99, .int .u8 100] 5 (9, 10)) = w1 at HLB HB ⊢
  refine (containsB_calls HLB.out letter r HR.out).mono ?_
  rintro e w2 ⟨rfl, rfl⟩
  clear HLB
  cases r with
  | false =>
    have HN : Hid (letter ∉ lets) := Lib.hid (fun q => by have := HR.out.2 q; cases this)
    go_wp2
    go_ret2
    exact ⟨⟨_, _, rfl, .inl ⟨HN.out, rfl, rfl⟩⟩, HB.out⟩
  | true =>
    have HY := Lib.hid (HR.out.1 rfl)
    clear HR
    go_wp2_with fail
    refine (read_yes A n c L R w2 (HA.out.later HB.out) HG.out).mono ?_
    rintro e w3 ⟨h3, hb3⟩
    have HB3 := Lib.hid (HB.out.trans (hb3.mono HB.out.size))
    clear hb3 HB
    rcases h3 with ⟨G, out, W, rfl, hM, -⟩ | ⟨hno, rfl⟩
    · obtain ⟨vS, vG, rs, ms, hI, hT, hGA, hml⟩ := hM
      have HI := Lib.hid hI
      have HT := Lib.hid hT
      have HGA := Lib.hid hGA
      have HML := Lib.hid hml
      obtain ⟨AS, cS, eS⟩ := Kd.R_slice hT.st
      subst eS
      obtain ⟨AG, cG, eG, hGm⟩ := km_read hT.go
      subst eG
      have HGM := Lib.hid hGm
      have hrl : rs.length = out.length := by rw [hT.ln, hml]
      have d1 := hT.c1
      have d2 := hT.c2
      have hol := hI.le
      clear hI hT hGA hml hGm
      by_cases hst : 0 ≤ state ∧ state < out.length
      · obtain ⟨i, rfl⟩ := Int.eq_ofNat_of_zero_le hst.1
        have hio : i < out.length := by omega
        have hs1 : ¬ (i : Int) < 0 := by omega
        have hs2 : (i : Int) < (out.length : Int) := by omega
        obtain ⟨st, hs⟩ : ∃ st, out[i]? = some st := ⟨_, List.getElem?_eq_getElem hio⟩
        obtain ⟨r, hr⟩ : ∃ r, rs[i]? = some r := ⟨_, List.getElem?_eq_getElem (by omega)⟩
        obtain ⟨m, hm⟩ : ∃ m, ms[i]? = some m := ⟨_, List.getElem?_eq_getElem (by have := HML.out; omega)⟩
        obtain ⟨b7, o7, e7, hrc, c7⟩ := HGM.out i r hr
        subst e7
        have HST := Lib.hid hs
        have hgm := HGA.out i st m hs hm
        have HGO := Lib.hid hgm
        have hlk := run_lookup_is (P := Tryd.prog) Tryd.underlying124 (z := 0) zero3 (keyOk_int Tryd.underlying5) (HT.out.mp i r m hr hm) letter true
        rw [hgm.get, if_pos (show (true : Bool) = true from rfl)] at hlk
        have hic : i < cG := by omega
        have hirs : i < rs.length := by omega
        have hirI : (i : Int) < (rs.length : Int) := by omega
        clear hs hm hr hgm hst
        by_cases hnx : nxt L R n st letter = []
        · rw [if_neg (fun q => q.2 hnx)] at hlk
          have HNX := Lib.hid hnx
          simp only [Option.getD_none, Option.isSome_none, natV] at hlk
          clear hnx
          go_wp2
          go_ret2
          exact ⟨⟨_, _, rfl, .inr ⟨HY.out, .inr ⟨out, HI.out, .inr ⟨i, st, rfl, HST.out, .inl ⟨HNX.out, rfl, rfl⟩⟩⟩⟩⟩, HB3.out⟩
        · rw [if_pos ⟨HY.out, hnx⟩] at hlk
          have HNX := Lib.hid hnx
          have HMEM := Lib.hid (HGO.out.mem letter HY.out hnx)
          simp only [Option.getD_some, Option.isSome_some, natV] at hlk
          obtain ⟨x, hx⟩ : ∃ x, leadsTo L R n out st letter = x := ⟨_, rfl⟩
          rw [hx] at hlk
          have HX := Lib.hid hx
          clear hnx hx
          go_wp2
          go_ret2
          exact ⟨⟨_, _, rfl, .inr ⟨HY.out, .inr ⟨out, HI.out, .inr ⟨i, st, rfl, HST.out, .inr ⟨HNX.out, HMEM.out, by rw [HX.out], rfl⟩⟩⟩⟩⟩, HB3.out⟩
      · have HST := Lib.hid hst
        have hcs : state < 0 ∨ (¬ state < 0 ∧ ¬ state < (out.length : Int)) := by omega
        clear hst
        rcases hcs with hs1 | ⟨hs1, hs2⟩
        · go_wp2
          go_ret2
          exact ⟨⟨_, _, rfl, .inr ⟨HY.out, .inr ⟨out, HI.out, .inl ⟨HST.out, rfl, rfl⟩⟩⟩⟩, HB3.out⟩
        · go_wp2
          go_ret2
          exact ⟨⟨_, _, rfl, .inr ⟨HY.out, .inr ⟨out, HI.out, .inl ⟨HST.out, rfl, rfl⟩⟩⟩⟩, HB3.out⟩
    · have HNO := Lib.hid hno
      clear hno
      go_wp2
      go_ret2
      exact ⟨⟨_, _, rfl, .inr ⟨HY.out, .inl ⟨HNO.out, rfl, rfl⟩⟩⟩, HB3.out⟩
end Go.Proofs.YtjpfalanoifpbaaDoor.X
end

section
set_option linter.unusedVariables false
namespace Go.Proofs.YtjpfalanoifpbaaDoor.T
section
variable {L : Nat → Int} {R : Nat → ByteArray} {n : Nat}
structure Rch (L : Nat → Int) (R : Nat → ByteArray) (n : Nat) (out : List (List It)) : Prop where
  first : out[0]? = some (sta0 L R n)
  nd : out.Nodup
  from_ : ∀ i, 0 < i → i < out.length → ∃ j c st, j < i ∧ c ∈ lets ∧ out[j]? = some st ∧ nxt L R n st c ≠ [] ∧ out[i]? = some (ovr L R n st c)
theorem Rch.snoc {out : List (List It)} (h : Rch L R n out) {j : Nat} {st : List It} {c : Int} (hj : out[j]? = some st) (hc : c ∈ lets) (hn : nxt L R n st c ≠ []) (hno : ovr L R n st c ∉ out) : Rch L R n (out ++ [ovr L R n st c]) := by
  have hlt := (List.getElem?_eq_some_iff.1 hj).1
  refine ⟨by rw [List.getElem?_append_left (by omega)]; exact h.first, ?_, fun i hi hl => ?_⟩
  · rw [List.nodup_append]
    refine ⟨h.nd, by simp, fun a ha b hb e => ?_⟩
    rw [List.mem_singleton] at hb
    subst hb
    subst e
    exact hno ha
  · by_cases e : i = out.length
    · subst e
      exact ⟨j, c, st, hlt, hc, by rw [List.getElem?_append_left hlt]; exact hj, hn, by simp⟩
    · have hi2 : i < out.length := by
        rw [List.length_append] at hl
        simp at hl
        omega
      obtain ⟨j', c', st', h1, h2, h3, h4, h5⟩ := h.from_ i hi hi2
      exact ⟨j', c', st', h1, h2, by rw [List.getElem?_append_left (by omega)]; exact h3, h4, by rw [List.getElem?_append_left hi2]; exact h5⟩
theorem onC_spec {out o : List (List It)} {st : List It} {c : Int} (h : onC L R n out st c = some o) (h64 : out.length ≤ 64) {j : Nat} (hj : out[j]? = some st) (hc : c ∈ lets) (hr : Rch L R n out) : o.length ≤ 64 ∧ out <+: o ∧ Rch L R n o ∧ (nxt L R n st c ≠ [] → ovr L R n st c ∈ o) := by
  unfold onC at h
  split at h
  · rename_i e
    injection h with h
    subst h
    exact ⟨h64, List.prefix_refl _, hr, fun q => absurd e q⟩
  · rename_i hn
    split at h
    · rename_i hm
      injection h with h
      subst h
      exact ⟨h64, List.prefix_refl _, hr, fun _ => hm⟩
    · rename_i hm
      split at h
      · cases h
      · injection h with h
        subst h
        exact ⟨by rw [List.length_append]; simp; omega, List.prefix_append _ _, hr.snoc hj hc hn hm, fun _ => by simp⟩
theorem prefix_at {o p : List (List It)} (h : o <+: p) {j : Nat} {st : List It} (hj : o[j]? = some st) : p[j]? = some st := by
  obtain ⟨t, rfl⟩ := h
  rw [List.getElem?_append_left (List.getElem?_eq_some_iff.1 hj).1]
  exact hj
theorem prefix_mem {o p : List (List It)} (h : o <+: p) {s : List It} (hs : s ∈ o) : s ∈ p := by
  obtain ⟨t, rfl⟩ := h
  exact List.mem_append_left _ hs
theorem onL_spec {st : List It} {j : Nat} : ∀ {cs : List Int} {out o : List (List It)}, onL L R n st cs out = some o → (∀ c ∈ cs, c ∈ lets) → out.length ≤ 64 → out[j]? = some st → Rch L R n out → o.length ≤ 64 ∧ out <+: o ∧ Rch L R n o ∧ ∀ c ∈ cs, nxt L R n st c ≠ [] → ovr L R n st c ∈ o
  | [], out, o, h, _, h64, _, hr => by
    rw [onL] at h
    injection h with h
    subst h
    exact ⟨h64, List.prefix_refl _, hr, fun c hc => by cases hc⟩
  | c :: cs, out, o, h, hl, h64, hj, hr => by
    rw [onL] at h
    cases hq : onC L R n out st c with
    | none =>
      rw [hq] at h
      cases h
    | some p =>
      rw [hq] at h
      obtain ⟨a1, a2, a3, a4⟩ := onC_spec hq h64 hj (hl c (List.mem_cons_self ..)) hr
      obtain ⟨b1, b2, b3, b4⟩ := onL_spec (cs := cs) (out := p) (o := o) h (fun d hd => hl d (List.mem_cons_of_mem _ hd)) a1 (prefix_at a2 hj) a3
      refine ⟨b1, a2.trans b2, b3, fun d hd hn => ?_⟩
      rcases List.mem_cons.1 hd with e | e
      · subst e
        exact prefix_mem b2 (a4 hn)
      · exact b4 d e hn
def Done (L : Nat → Int) (R : Nat → ByteArray) (n : Nat) (out : List (List It)) (j : Nat) : Prop := ∀ st, out[j]? = some st → ∀ c ∈ lets, nxt L R n st c ≠ [] → ovr L R n st c ∈ out
theorem bld_spec : ∀ (f i : Nat) {out o : List (List It)}, bld L R n f i out = some o → 65 ≤ f + i → out.length ≤ 64 → i ≤ out.length → Rch L R n out → (∀ j, j < i → Done L R n out j) → Rch L R n o ∧ ∀ j, j < o.length → Done L R n o j
  | 0, i, out, o, h, hf, h64, hi, hr, hd => by omega
  | f + 1, i, out, o, h, hf, h64, hi, hr, hd => by
    rw [bld] at h
    split at h
    · rename_i hlt
      cases hq : onL L R n out[i] lets out with
      | none =>
        rw [hq] at h
        cases h
      | some p =>
        rw [hq] at h
        obtain ⟨a1, a2, a3, a4⟩ := onL_spec (j := i) hq (fun _ h => h) h64 (List.getElem?_eq_getElem hlt) hr
        have hlen := a2.length_le
        refine bld_spec f (i + 1) h (by omega) a1 (by omega) a3 fun j hj st hst c hc hn => ?_
        have hjo : out[j]? = some st := by
          obtain ⟨t, ht⟩ := a2
          rw [← ht, List.getElem?_append_left (by omega)] at hst
          exact hst
        by_cases e : j = i
        · subst e
          rw [List.getElem?_eq_getElem hlt] at hjo
          injection hjo with hjo
          rw [← hjo] at hn ⊢
          exact a4 c hc hn
        · exact prefix_mem a2 (hd j (by omega) st hjo c hc hn)
    · injection h with h
      subst h
      exact ⟨hr, fun j hj => hd j (by omega)⟩
theorem StaI.rch {out : List (List It)} (h : StaI L R n out out.length) : Rch L R n out ∧ ∀ j, j < out.length → Done L R n out j := by
  have := h.done
  unfold stas at this
  refine bld_spec 65 0 this (by omega) (by simp) (by omega) ⟨rfl, by simp, fun i hi hl => by simp at hl; omega⟩ fun j hj => by omega
theorem onC_ok (h4 : R4 R n) {out o : List (List It)} {st : List It} {c : Int} (h : onC L R n out st c = some o) (hc : c ≠ 0) (hst : ∀ x ∈ st, Fits L R n x) (h64 : out.length ≤ 64) (hf : ∀ s ∈ out, Asc s ∧ ∀ x ∈ s, Fits L R n x) : o.length ≤ 64 ∧ (∀ s ∈ o, Asc s ∧ ∀ x ∈ s, Fits L R n x) := by
  unfold onC at h
  split at h
  · injection h with h
    subst h
    exact ⟨h64, hf⟩
  · split at h
    · injection h with h
      subst h
      exact ⟨h64, hf⟩
    · split at h
      · cases h
      · injection h with h
        subst h
        refine ⟨by rw [List.length_append]; simp; omega, fun s hs => ?_⟩
        rcases List.mem_append.1 hs with q | q
        · exact hf s q
        · rw [List.mem_singleton] at q
          subst q
          exact ovr_ok h4 hst hc
theorem onL_ok (h4 : R4 R n) {st : List It} (hst : ∀ x ∈ st, Fits L R n x) : ∀ {cs : List Int} {out o : List (List It)}, onL L R n st cs out = some o → (∀ c ∈ cs, c ≠ 0) → out.length ≤ 64 → (∀ s ∈ out, Asc s ∧ ∀ x ∈ s, Fits L R n x) → o.length ≤ 64 ∧ (∀ s ∈ o, Asc s ∧ ∀ x ∈ s, Fits L R n x)
  | [], out, o, h, _, h64, hf => by
    rw [onL] at h
    injection h with h
    subst h
    exact ⟨h64, hf⟩
  | c :: cs, out, o, h, hl, h64, hf => by
    rw [onL] at h
    cases hq : onC L R n out st c with
    | none =>
      rw [hq] at h
      cases h
    | some p =>
      rw [hq] at h
      obtain ⟨a1, a2⟩ := onC_ok h4 hq (hl c (List.mem_cons_self ..)) hst h64 hf
      exact onL_ok h4 hst (cs := cs) (out := p) (o := o) h (fun d hd => hl d (List.mem_cons_of_mem _ hd)) a1 a2
theorem bld_ok (h4 : R4 R n) : ∀ (f i : Nat) {out o : List (List It)}, bld L R n f i out = some o → out.length ≤ 64 → (∀ s ∈ out, Asc s ∧ ∀ x ∈ s, Fits L R n x) → o.length ≤ 64 ∧ (∀ s ∈ o, Asc s ∧ ∀ x ∈ s, Fits L R n x)
  | 0, i, out, o, h, h64, hf => by
    rw [bld] at h
    injection h with h
    subst h
    exact ⟨h64, hf⟩
  | f + 1, i, out, o, h, h64, hf => by
    rw [bld] at h
    split at h
    · rename_i hlt
      cases hq : onL L R n out[i] lets out with
      | none =>
        rw [hq] at h
        cases h
      | some p =>
        rw [hq] at h
        obtain ⟨a1, a2⟩ := onL_ok h4 (hf _ (List.getElem_mem hlt)).2 hq (fun c hc => by simp [lets] at hc; omega) h64 hf
        exact bld_ok h4 f (i + 1) h a1 a2
    · injection h with h
      subst h
      exact ⟨h64, hf⟩
theorem sta_of (h4 : R4 R n) {out : List (List It)} (h : stas L R n = some out) : StaI L R n out out.length := by
  obtain ⟨a, b⟩ := bld_ok h4 65 0 (show bld L R n 65 0 [sta0 L R n] = some out from h) (by simp) (fun s hs => by rw [List.mem_singleton] at hs; subst hs; exact sta0_ok h4)
  refine ⟨a, b, ?_, Nat.le_refl _⟩
  rw [h, show 65 - out.length = (64 - out.length) + 1 by omega, bld, dif_neg (Nat.lt_irrefl _)]
theorem lets_pos {c : Int} (h : c ∈ lets) : c ≠ 0 := by
  simp [lets] at h
  omega
end
end Go.Proofs.YtjpfalanoifpbaaDoor.T
end

section
set_option linter.unusedVariables false
set_option linter.unusedSimpArgs false
namespace Go.Proofs.YtjpfalanoifpbaaDoor.X
open Go.RowKit Go.Proofs.YtjpfalanoifpbaaDoorW.PrintWords Go.Proofs.YtjpfalanoifpbaaDoorW.PrintLast Go.Proofs.YtjpfalanoifpbaaDoorW.PrintMore Go.Proofs.YtjpfalanoifpbaaDoor.T
theorem sta_cases (L : Nat → Int) (R : Nat → ByteArray) (n : Nat) (h4 : R4 R n) : stas L R n = none ∨ ∃ out, StaI L R n out out.length := by
  cases h : stas L R n with
  | none => exact .inl rfl
  | some out => exact .inr ⟨out, sta_of h4 h⟩
end Go.Proofs.YtjpfalanoifpbaaDoor.X
end

section
set_option linter.unusedVariables false
namespace Go.Proofs.YtjpfalanoifpbaaDoor.T
section
variable (L : Nat → Int) (R : Nat → ByteArray) (n : Nat)
def tkw (st : List It) : Nat → Nat
  | 0 => 0
  | k + 1 => if nxt L R n st (97 + (k : Int)) = [] then tkw st k else tkw st k ||| 2 ^ k
def aft (x : It) : Nat := if x.1 = n then 16 else nextN L R n 25 (pn (L x.1))
def cfl : List It → Nat → Bool
  | [], _ => false
  | x :: l, t => if bh L R n x = 0 then (if t &&& aft L R n x = 0 then cfl l (t ||| aft L R n x) else true) else cfl l t
def conf (st : List It) : Bool := cfl L R n st (tkw L R n st 4)
def confTo (out : List (List It)) (q : Nat) : List Nat := (List.range q).filter fun i => conf L R n (out.getD i [])
def confs (out : List (List It)) : List Nat := confTo L R n out out.length
variable {L R n}
theorem confTo_succ {out : List (List It)} {q : Nat} {st : List It} (h : out[q]? = some st) : confTo L R n out (q + 1) = if conf L R n st = true then confTo L R n out q ++ [q] else confTo L R n out q := by
  unfold confTo
  rw [List.range_succ, List.filter_append]
  have e : out.getD q [] = st := by rw [List.getD_eq_getElem?_getD, h]; rfl
  by_cases hc : conf L R n st = true
  · rw [if_pos hc]
    simp only [List.filter_cons, List.filter_nil, e, hc, if_true]
  · rw [if_neg hc]
    simp only [List.filter_cons, List.filter_nil, e, hc, if_false, List.append_nil, Bool.false_eq_true]
theorem confTo_len (out : List (List It)) (q : Nat) : (confTo L R n out q).length ≤ q := by
  unfold confTo
  refine Nat.le_trans (List.length_filter_le _ _) ?_
  simp
theorem tkw_bit (st : List It) (k : Nat) : ∀ q, (tkw L R n st q).testBit k = (decide (k < q) && !decide (nxt L R n st (97 + (k : Int)) = []))
  | 0 => by simp [tkw]
  | q + 1 => by
    rw [tkw]
    by_cases h : nxt L R n st (97 + (q : Int)) = []
    · rw [if_pos h, tkw_bit st k q]
      by_cases e : k = q
      · subst e
        simp [h]
      · have : (k < q) ↔ (k < q + 1) := by omega
        simp [this]
    · rw [if_neg h, Nat.testBit_or, tkw_bit st k q, Nat.testBit_two_pow]
      by_cases e : k = q
      · subst e
        simp [h]
      · have h1 : (k < q) ↔ (k < q + 1) := by omega
        have h2 : ¬ q = k := fun x => e x.symm
        simp [h1, h2]
theorem tkw_lt (st : List It) : ∀ q, q ≤ 4 → tkw L R n st q < 32
  | 0, _ => show (0 : Nat) < 32 by decide
  | q + 1, h => by
    rw [tkw]
    split
    · exact tkw_lt st q (by omega)
    · exact or_lt (tkw_lt st q (by omega)) (Nat.lt_of_le_of_lt (Nat.pow_le_pow_right (by decide) (show q ≤ 3 by omega)) (by decide))
theorem tkw_unique {st : List It} {a : Nat} (ha : a < 16) (h : ∀ k, k < 4 → a.testBit k = !decide (nxt L R n st (97 + (k : Int)) = [])) : a = tkw L R n st 4 := by
  apply Nat.eq_of_testBit_eq
  intro k
  rw [tkw_bit]
  by_cases hk : k < 4
  · rw [h k hk, decide_eq_true hk, Bool.true_and]
  · rw [decide_eq_false hk, Bool.false_and]
    exact Nat.testBit_lt_two_pow (Nat.lt_of_lt_of_le ha (Nat.pow_le_pow_right (n := 2) (by decide) (show 4 ≤ k by omega)))
theorem aft_lt (h : okG L R n) (hn : 0 < n) {x : It} : aft L R n x < 32 := by
  unfold aft
  split
  · decide
  · exact (next_five h hn 25).1 _
theorem cfl_drop {st : List It} {q : Nat} {x : It} (h : st[q]? = some x) (t : Nat) : cfl L R n (st.drop q) t = if bh L R n x = 0 then (if t &&& aft L R n x = 0 then cfl L R n (st.drop (q + 1)) (t ||| aft L R n x) else true) else cfl L R n (st.drop (q + 1)) t := by
  obtain ⟨hq, e⟩ := List.getElem?_eq_some_iff.1 h
  rw [List.drop_eq_getElem_cons hq, e, cfl]
theorem bh_zero (hok : okG L R n) (hp : isP (L 0) = true) {x : It} (hx : Fits L R n x) : bh L R n x = 0 ↔ (rs L R n x.1).size ≤ x.2 := by
  constructor
  · intro h
    rcases Nat.lt_or_ge x.2 (rs L R n x.1).size with q | q
    · exfalso
      unfold bh at h
      by_cases e : x.1 = n
      · have hr : rs L R n x.1 = sg (L 0) := by
          unfold rs
          rw [if_pos e]
        rw [hr] at q h
        have h0 : x.2 = 0 := by
          have := sg_size (L 0)
          omega
        rw [h0] at h
        rw [isP_iff] at hp
        have : L 0 = 65 ∨ L 0 = 66 ∨ L 0 = 67 ∨ L 0 = 68 ∨ L 0 = 69 := by omega
        rcases this with e | e | e | e | e <;> rw [e] at h <;> cases h
      · have hr : rs L R n x.1 = R x.1 := by
          unfold rs
          rw [if_neg e]
        rw [hr] at q h
        have h1 := hx.1
        rcases (hok x.1 (by omega)).2 x.2 q with a | a
        · rw [h] at a
          cases a
        · rw [h] at a
          cases a
    · exact q
  · intro h
    unfold bh
    exact ch_end _ _ h
end
end Go.Proofs.YtjpfalanoifpbaaDoor.T
end

section
set_option linter.unusedVariables false
set_option linter.unusedSimpArgs false
namespace Go.Proofs.YtjpfalanoifpbaaDoor.X
open Go.RowKit Go.Proofs.YtjpfalanoifpbaaDoorW.PrintWords Go.Proofs.YtjpfalanoifpbaaDoorW.PrintLast Go.Proofs.YtjpfalanoifpbaaDoorW.PrintMore Go.Proofs.YtjpfalanoifpbaaDoor.T
structure Mt (L : Nat → Int) (R : Nat → ByteArray) (n : Nat) (b off c : Nat) (w : World) (G : Nat) (out : List (List It)) : Prop where
  md : ∃ W, Made L R n (.slice (some ⟨b, off, none⟩) n c) W w G out
  sr : Sr w (some ⟨b, off, none⟩) n c L R
theorem Mt.later {L : Nat → Int} {R : Nat → ByteArray} {n b off c : Nat} {w w' : World} {G : Nat} {out : List (List It)} (h : Mt L R n b off c w G out) (hb : Below w.heap.size w w') : Mt L R n b off c w' G out := by
  obtain ⟨W, hM⟩ := h.md
  exact ⟨⟨W, hM.later hb⟩, h.sr.later hb⟩
theorem Mt.c0 {L : Nat → Int} {R : Nat → ByteArray} {n b off c : Nat} {w : World} {G : Nat} {out : List (List It)} (h : Mt L R n b off c w G out) : w.cell? ⟨G, 0, none⟩ = some (.slice (some ⟨b, off, none⟩) n c) := by
  obtain ⟨W, vS, vG, rs, ms, -, hT, -, -⟩ := h.md
  exact hT.c0
theorem Mt.sta {L : Nat → Int} {R : Nat → ByteArray} {n b off c : Nat} {w : World} {G : Nat} {out : List (List It)} (h : Mt L R n b off c w G out) : StaI L R n out out.length := by
  obtain ⟨W, hM⟩ := h.md
  exact hM.sta
theorem Mt.cN {L : Nat → Int} {R : Nat → ByteArray} {n b off c : Nat} {w : World} {G : Nat} {out : List (List It)} (h : Mt L R n b off c w G out) {j : Nat} (hj : j < 5) : w.cell? ⟨G, 3 + j, none⟩ = some (.int .i64 (nextN L R n 25 j : Nat)) := by
  obtain ⟨W, vS, vG, rs, ms, -, hT, -, -⟩ := h.md
  rw [blk_cell hT.blk]
  match j, hj with
  | 0, _ => rfl
  | 1, _ => rfl
  | 2, _ => rfl
  | 3, _ => rfl
  | 4, _ => rfl
theorem Mt.rows {L : Nat → Int} {R : Nat → ByteArray} {n b off c : Nat} {w : World} {G : Nat} {out : List (List It)} (h : Mt L R n b off c w G out) : ∃ AS cS, w.cell? ⟨G, 1, none⟩ = some (.slice AS out.length cS) ∧ StR w AS out.length cS out := by
  obtain ⟨W, vS, vG, rs, ms, -, hT, -, -⟩ := h.md
  obtain ⟨AS, cS, e, hS⟩ := ks_read hT.st
  have := hT.c1
  rw [e] at this
  exact ⟨AS, cS, this, hS⟩
theorem Mt.maps {L : Nat → Int} {R : Nat → ByteArray} {n b off c : Nat} {w : World} {G : Nat} {out : List (List It)} (h : Mt L R n b off c w G out) {i : Nat} {st : List It} (hi : out[i]? = some st) : ∃ bG oG cG r m, w.cell? ⟨G, 2, none⟩ = some (.slice (some ⟨bG, oG, none⟩) out.length cG) ∧ out.length ≤ cG ∧ w.cell? ⟨bG, oG + i, none⟩ = some (.map (some r)) ∧ IsM (Value.int .u8) natV w r m ∧ GoM L R n out st lets m := by
  obtain ⟨W, vS, vG, rs, ms, -, hT, hGA, hml⟩ := h.md
  obtain ⟨AG, cG, e, hGm⟩ := km_read hT.go
  have hrl : rs.length = out.length := by rw [hT.ln, hml]
  have hlt := (List.getElem?_eq_some_iff.1 hi).1
  obtain ⟨r, hr⟩ : ∃ r, rs[i]? = some r := ⟨_, List.getElem?_eq_getElem (by omega)⟩
  obtain ⟨m, hm⟩ : ∃ m, ms[i]? = some m := ⟨_, List.getElem?_eq_getElem (by omega)⟩
  obtain ⟨bG, oG, rfl, hc, hcell⟩ := hGm i r hr
  have := hT.c2
  rw [e, hrl] at this
  exact ⟨bG, oG, cG, r, m, this, by omega, hcell, hT.mp i r m hr hm, hGA i st m hi hm⟩
set_option maxHeartbeats 4000000 in
set_option maxRecDepth 100000 in
theorem after_calls {L : Nat → Int} {R : Nat → ByteArray} {n b off c : Nat} {w : World} {G : Nat} {out : List (List It)} (hM : Mt L R n b off c w G out) (hg : Gr L R n) {x : It} (hx : x.1 ≤ n) :
    Calls Tryd.prog 127 #[.pointer (some ⟨G, 0, none⟩), .agg #[.int .i64 (x.1 : Nat), .int .i64 (x.2 : Nat)]] w fun e w' => e = .returned (.int .i64 (aft L R n x : Nat)) ∧ Below w.heap.size w w' := by
  obtain ⟨y1, y2⟩ := x
  simp only at hx ⊢
  have hbA := below_one (w := w) (.cells #[.int .i64 (y1 : Nat), .int .i64 (y2 : Nat)] 122)
  obtain ⟨i0, i1⟩ := it_new w 122 (y1 : Nat) (y2 : Nat)
  have HM := Lib.hid (hM.later hbA)
  have HB := Lib.hid hbA
  obtain ⟨X, hX⟩ : ∃ X, aft L R n (y1, y2) = X := ⟨_, rfl⟩
  rw [hX]
  unfold aft at hX
  simp only at hX
  have hn1 := hg.n1
  have hn8 := hg.n8
  have hok := hg.ok
  clear hM hbA i1 hg
  go_enter Tryd.func127, Tryd.ntmps127
  go_wp2_with fail
  generalize w.alloc (.cells #[.int .i64 (y1 : Nat), .int .i64 (y2 : Nat)] 122) = w1 at i0 HM HB ⊢
  generalize w.heap.size = H at i0 ⊢
  have d0 := HM.out.c0
  by_cases hyn : y1 = n
  · rw [if_pos hyn] at hX
    subst hyn
    subst hX
    go_quiet (fail)
    have hbq := pw_below_drewN (Below.refl w1.heap.size w1) nq
    have HB2 := Lib.hid (HB.out.trans (hbq.mono HB.out.size))
    clear hbq d0 i0
    generalize w1.drewN nq = w2 at HB2 ⊢
    go_wp2
    go_ret
    exact ⟨rfl, HB2.out⟩
  · rw [if_neg hyn] at hX
    have hynl : y1 < n := by omega
    have hyI : ¬ (y1 : Int) = (n : Int) := by omega
    have hynI : (y1 : Int) < (n : Int) := by omega
    go_quiet (fail)
    have hbq := pw_below_drewN (Below.refl w1.heap.size w1) nq
    have HB2 := Lib.hid (HB.out.trans (hbq.mono HB.out.size))
    have HM2 := Lib.hid (HM.out.later hbq)
    have i0' := (hbq.cell (p := ⟨H, 0, none⟩) (World.block_lt_of_cell? _ _ i0)).trans i0
    clear hbq d0 i0
    generalize w1.drewN nq = w2 at HB2 HM2 i0' ⊢
    obtain ⟨b', off', he, hnc, hP⟩ := HM2.out.sr.open hn1
    injection he with he
    injection he with e1 e2
    subst e1 e2
    have g0 := hP.c0 y1 hynl
    have hlp := (hok y1 hynl).1
    obtain ⟨l, hl⟩ : ∃ l, L y1 = l := ⟨_, rfl⟩
    rw [hl] at g0 hlp hX
    have h5 := isP_iff.1 hlp
    obtain ⟨j, rfl⟩ : ∃ j : Nat, l = (j : Int) + 65 := ⟨(l - 65).toNat, by omega⟩
    have hj : j ≤ 4 := by omega
    have hj5 : j < 5 := by omega
    have hj5I : (j : Int) < 5 := by omega
    have e1 : IntKind.u8.wrap ((j : Int) + 65 - 65) = (j : Int) := by
      unfold IntKind.wrap
      simp [IntKind.signed, IntKind.bits]
      omega
    have hpn : pn ((j : Int) + 65) = j := by unfold pn; omega
    rw [hpn] at hX
    have gN := HM2.out.cN hj5
    rw [hX] at gN
    have d0 := HM2.out.c0
    have hyc : y1 < c := by omega
    clear hl hP hpn hX hok h5 hlp
    go_wp2_with fail
    go_quiet (fail)
    have hbq := pw_below_drewN (Below.refl w2.heap.size w2) nq
    have HB3 := Lib.hid (HB2.out.trans (hbq.mono HB2.out.size))
    clear hbq d0 i0' g0 gN
    generalize w2.drewN nq = w3 at HB3 ⊢
    go_wp2
    go_ret
    exact ⟨rfl, HB3.out⟩
structure Itm1 (w0 w : World) (r1 r : Nat) (es : Array MapEntry) (clock : Nat) (seen : Array Nat) (c0 : Nat) : Prop where
  it : w.heap[r]? = some (.mapIter (some r1) clock seen c0)
  le : clock ≤ c0
  m1 : w.heap[r1]? = some (.map es clock)
  bl : Below w0.heap.size w0 w
theorem Itm1.later {w0 w w' : World} {r1 r : Nat} {es : Array MapEntry} {clock : Nat} {seen : Array Nat} {c0 : Nat} (h : Itm1 w0 w r1 r es clock seen c0) (hb : Below w.heap.size w w') : Itm1 w0 w' r1 r es clock seen c0 :=
  ⟨(hb.block _ (Array.getElem?_eq_some_iff.1 h.it).1).trans h.it, h.le, (hb.block _ (Array.getElem?_eq_some_iff.1 h.m1).1).trans h.m1, h.bl.trans (hb.mono h.bl.size)⟩
theorem Itm1.step {w0 w w1 : World} {r1 r : Nat} {es : Array MapEntry} {clock : Nat} {seen : Array Nat} {c0 : Nat} (h : Itm1 w0 w r1 r es clock seen c0) (hr : w0.heap.size ≤ r) (hw : w1 = w ∨ w1 = w.drew) (b : Nat) : Itm1 w0 (Go.ChangeMaps.setBlock w1 r (.mapIter (some r1) clock (seen.push b) clock)) r1 r es clock (seen.push b) clock := by
  have h1 : Itm1 w0 w1 r1 r es clock seen c0 := by
    rcases hw with rfl | rfl
    · exact h
    · exact h.later (Below.refl _ _).drew
  have hne1 : r1 ≠ r := by
    rintro e
    have := h1.it
    rw [← e, h1.m1] at this
    cases this
  have ho : ∀ k, k ≠ r → (Go.ChangeMaps.setBlock w1 r (.mapIter (some r1) clock (seen.push b) clock)).heap[k]? = w1.heap[k]? := fun k hk => Array.getElem?_setIfInBounds_ne (Ne.symm hk)
  refine ⟨Array.getElem?_setIfInBounds_self_of_lt (Array.getElem?_eq_some_iff.1 h1.it).1, Nat.le_refl _, (ho _ hne1).trans h1.m1, ?_⟩
  exact h1.bl.trans ⟨rfl, rfl, rfl, by simp [Go.ChangeMaps.setBlock], fun k hk => ho k (by omega)⟩
def Wbits (es : Array MapEntry) (seen : Array Nat) (acc : Nat) : Prop := ∀ k : Nat, k < 4 → (acc.testBit k = true ↔ ∃ x ∈ es.toList, seen.contains x.born = true ∧ x.key = .int .u8 (97 + (k : Int)))
set_option maxHeartbeats 16000000 in
set_option maxRecDepth 100000 in
theorem conflict_calls {L : Nat → Int} {R : Nat → ByteArray} {n b off c : Nat} {w : World} {G : Nat} {out : List (List It)} (hM : Mt L R n b off c w G out) (hg : Gr L R n) {i : Nat} {st : List It} (hi : out[i]? = some st) :
    Calls Tryd.prog 109 #[.pointer (some ⟨G, 0, none⟩), .int .i64 (i : Nat)] w fun e w' => e = .returned (.bool (conf L R n st)) ∧ Below w.heap.size w w' := by
  have HM := Lib.hid hM
  have HGR := Lib.hid hg
  have hn1 := hg.n1
  have hn8 := hg.n8
  have hlt := (List.getElem?_eq_some_iff.1 hi).1
  have hol := hM.sta.le
  have HFS := Lib.hid ((hM.sta.fits st (List.mem_of_getElem? hi)).2)
  have hsl := state_len (L := L) (R := R) hg.sz hn8 (hM.sta.fits st (List.mem_of_getElem? hi))
  obtain ⟨bG, oG, cG, r1, m, d2, hcG, g7, hIS, hGM⟩ := hM.maps hi
  obtain ⟨es, clock, hb, hl, hst⟩ := hIS
  have hrg := run_range_map (P := Tryd.prog) w 124 5 3 r1 es clock Tryd.underlying124 hb
  have HI : Hid (Itm1 w (w.alloc (.mapIter (some r1) clock #[] clock)) r1 w.heap.size es clock #[] clock) := Lib.hid ⟨blk_new _ _, Nat.le_refl _, ((below_one (w := w) (.mapIter (some r1) clock #[] clock)).block _ (Array.getElem?_eq_some_iff.1 hb).1).trans hb, below_one _⟩
  have HEV := Lib.hid (show ∀ x ∈ es.toList, ∃ (u : Int) (v : Nat), x.key = .int .u8 u ∧ x.val = natV v ∧ u ∈ lets ∧ nxt L R n st u ≠ [] from fun x hx => by
    have h3 : (x.key, x.val) ∈ es.toList.map fun e => (e.key, e.val) := List.mem_map.2 ⟨x, hx, rfl⟩
    rw [hl] at h3
    obtain ⟨p, hp, e⟩ := List.mem_map.1 h3
    refine ⟨p.1, p.2, (congrArg Prod.fst e).symm, (congrArg Prod.snd e).symm, ?_⟩
    have h4 := hGM.get p.1
    by_cases q : p.1 ∈ lets ∧ nxt L R n st p.1 ≠ []
    · exact q
    · rw [if_neg q] at h4
      exact absurd rfl (findL_not h4 p hp))
  have HVE := Lib.hid (show ∀ u : Int, u ∈ lets → nxt L R n st u ≠ [] → ∃ x ∈ es.toList, x.key = .int .u8 u from fun u h1 h2 => by
    have h4 := hGM.get u
    rw [if_pos ⟨h1, h2⟩] at h4
    have h3 : (Value.int .u8 u, natV (leadsTo L R n out st u)) ∈ m.map fun p => (Value.int .u8 p.1, natV p.2) := List.mem_map.2 ⟨_, findL_mem h4, rfl⟩
    rw [← hl] at h3
    obtain ⟨x, hx, e⟩ := List.mem_map.1 h3
    exact ⟨x, hx, congrArg Prod.fst e⟩)
  have HST := Lib.hid hst
  have hic : i < cG := by omega
  have hitI : (i : Int) < (out.length : Int) := by omega
  obtain ⟨X, hX⟩ : ∃ X, conf L R n st = X := ⟨_, rfl⟩
  rw [hX]
  have HX : Hid (cfl L R n st (tkw L R n st 4) = X) := Lib.hid hX
  have HSTI := Lib.hid hi
  clear hb hl hst hGM hM hi hX hg
  go_enter Tryd.func109, Tryd.ntmps109
  go_wp2_with fail
  clear hrg
  generalize w.alloc (.mapIter (some r1) clock #[] clock) = w0 at HI ⊢
  obtain ⟨r, hr⟩ : ∃ r, w.heap.size = r := ⟨_, rfl⟩
  rw [hr] at HI ⊢
  go_loopw [5] (fun v wr => ∃ (seen : Array Nat) (c0 acc : Nat), v = .int .i64 acc ∧ acc < 16 ∧ Hid (Itm1 w wr r1 r es clock seen c0) ∧ Hid (Wbits es seen acc)) (fun _ wr => (leftOf es (wr.iterSeen r)).size)
  case atStart => exact ⟨#[], clock, 0, rfl, by omega, HI, Lib.hid (fun k hk => by simp)⟩
  case round =>
    clear HI
    obtain ⟨seen, c0, acc, rfl, hacc, HI, HW⟩ := hrel
    rcases run_next_at (P := Tryd.prog) wr 0 r r1 clock c0 seen es clock HI.out.it HI.out.m1 HST.out.1 HI.out.le with ⟨h0, hrun⟩ | ⟨e, he, w1, hw1, hrun⟩
    · have hnx : ∀ ty, (Instr.next (.pointer (some ⟨r, 0, none⟩)) false ty).run Tryd.prog wr = _ := fun _ => hrun
      have hat : acc = tkw L R n st 4 := tkw_unique hacc fun k hk => by
        have h1 := HW.out k hk
        by_cases q : nxt L R n st (97 + (k : Int)) = []
        · rw [decide_eq_true q]
          cases ht : acc.testBit k with
          | false => rfl
          | true =>
            obtain ⟨x, hx, _, hk2⟩ := h1.1 ht
            obtain ⟨u, v, hu, _, _, hn⟩ := HEV.out x hx
            rw [hk2] at hu
            injection hu with _ hu
            rw [← hu] at hn
            exact absurd q hn
        · rw [decide_eq_false q]
          obtain ⟨x, hx, hk2⟩ := HVE.out (97 + (k : Int)) (by simp [lets]; omega) q
          exact h1.2 ⟨x, hx, all_seen es seen h0 x hx, hk2⟩
      rw [← hat] at HX
      have HMW := Lib.hid (HM.out.later HI.out.bl)
      have HBW := Lib.hid HI.out.bl
      obtain ⟨AS, cS, d1, hSt⟩ := HMW.out.rows
      obtain ⟨bS, oS, eS, hnS, hcS⟩ := hSt.open (by omega)
      subst eS
      obtain ⟨A', c', s0, hI3⟩ := hcS i st HSTI.out
      have HI3 := Lib.hid hI3
      have hicS : i < cS := by omega
      have hacc32 : acc < 32 := by omega
      clear hrun hat hSt hcS hI3 d2 g7 HI HW HEV HVE HST HM h0
      have HX : Hid (cfl L R n (st.drop 0) acc = X) := HX
      obtain ⟨V, hV⟩ : ∃ V, V = wr := ⟨_, rfl⟩
      subst hV
      have HBV := Lib.hid (Below.refl V.heap.size V)
      go_wp2_with fail
      clear d1 s0 hnx
      go_loopw [37, 5] (fun j v wr => ∃ q acc : Nat, j = .int .i64 q ∧ v = .int .i64 acc ∧ q ≤ st.length ∧ acc < 32 ∧ Hid (cfl L R n (st.drop q) acc = X) ∧ Hid (Below V.heap.size V wr)) (fun j _ _ => st.length - (intOf j).toNat)
      case atStart => exact ⟨0, acc, rfl, rfl, by omega, hacc32, HX, HBV⟩
      case round =>
        clear HX HBV hacc32 hacc
        obtain ⟨q, acc, rfl, rfl, hql, hacc, HX, HBV⟩ := hrel
        by_cases hqs : q < st.length
        · have hqI : (q : Int) < (st.length : Int) := by omega
          obtain ⟨bI, oI, eI, hm1, hP1⟩ := (HI3.out.later HBV.out).open (by omega)
          subst eI
          obtain ⟨⟨y1, y2⟩, hy⟩ : ∃ y, st[q]? = some y := ⟨_, List.getElem?_eq_getElem hqs⟩
          have f0 := hP1.c0 q _ hy
          have f1 := hP1.c1 q _ hy
          simp only at f0 f1
          have HFY := Lib.hid (HFS.out (y1, y2) (List.mem_of_getElem? hy))
          have HCD := Lib.hid (cfl_drop (L := L) (R := R) (n := n) hy acc)
          have hy1 : y1 ≤ n := HFY.out.1
          have hqc : q < c' := by omega
          have hbA := below_one (w := wr) (.cells #[.int .i64 (y1 : Nat), .int .i64 (y2 : Nat)] 122)
          obtain ⟨i0, i1⟩ := it_new wr 122 (y1 : Nat) (y2 : Nat)
          have HB2 := Lib.hid (HBV.out.trans (hbA.mono HBV.out.size))
          have HM2 := Lib.hid (HMW.out.later HB2.out)
          have HAF := Lib.hid (aft_lt (L := L) (R := R) (n := n) (x := (y1, y2)) HGR.out.ok hn1)
          clear hy hP1 hbA HBV
          go_upto_region 10 with fail
          generalize wr.alloc (.cells #[.int .i64 (y1 : Nat), .int .i64 (y2 : Nat)] 122) = wa at i0 i1 HB2 HM2 ⊢
          generalize wr.heap.size = H8 at i0 i1 ⊢
          have d0 := HM2.out.c0
          clear f0 f1
          rw [HX.out] at HCD
          obtain ⟨a, ha⟩ : ∃ a, aft L R n (y1, y2) = a := ⟨_, rfl⟩
          obtain ⟨bz, hbz⟩ : ∃ bz, bh L R n (y1, y2) = bz := ⟨_, rfl⟩
          rw [ha, hbz] at HCD
          rw [ha] at HAF
          have HAE := Lib.hid ha
          have HBE := Lib.hid hbz
          clear ha hbz
          refine start_ (n := 7) (S := fun w' => w'.cell? ⟨G, 0, none⟩ = some (.slice (some ⟨b, off, none⟩) n c) ∧ w'.cell? ⟨H8, 0, none⟩ = some (.int .i64 (y1 : Nat)) ∧ w'.cell? ⟨H8, 1, none⟩ = some (.int .i64 (y2 : Nat))) (ds := [5]) #[false, false, false, false, false, false, false] (by kernel_rfl) rfl rfl ⟨by simpa using d0, by simpa using i0, by simpa using i1⟩ (fun hHeld => ?_)
          refine pure_ (i := 0) (N := (some 41)) (v := ?_) (a' := ?_) #[true, false, false, false, false, false, false] rfl rfl (by kernel_rfl) (fun _ _ _ h => h) (Or.inl ⟨by rfl, ?_⟩) ?_ ?_
          rotate_left
          · intro w'; go_simp; first | done | with_reducible rfl
          rotate_left
          · simp only [Act.put, List.setIfInBounds_toArray, List.set_cons_zero, List.set_cons_succ, i64_w, i32_w]; rfl
          refine pure_ (i := 1) (N := (some 42)) (v := ?_) (a' := ?_) #[true, true, false, false, false, false, false] rfl rfl (by kernel_rfl) (fun _ _ _ h => h) (Or.inl ⟨by rfl, ?_⟩) ?_ ?_
          rotate_left
          · intro w'; go_simp; first | done | with_reducible rfl
          rotate_left
          · simp only [Act.put, List.setIfInBounds_toArray, List.set_cons_zero, List.set_cons_succ, i64_w, i32_w]; rfl
          refine pure_ (i := 2) (N := (some 43)) (v := ?_) (a' := ?_) #[true, true, true, false, false, false, false] rfl rfl (by kernel_rfl) (fun _ _ _ h => h) (Or.inl ⟨by rfl, ?_⟩) ?_ ?_
          rotate_left
          · intro w'; go_simp; first | done | with_reducible rfl
          rotate_left
          · simp only [Act.put, List.setIfInBounds_toArray, List.set_cons_zero, List.set_cons_succ, i64_w, i32_w]; rfl
          refine take_ (i := 3) (N := (some 44)) (v := ?_) (a' := ?_) #[true, true, true, true, false, false, false] rfl rfl (by kernel_rfl) (fun _ _ _ h => h) (Or.inl ⟨by rfl, ?_⟩) hHeld ?_ ?_
          rotate_left
          · rintro w' ⟨s0, s1, s2⟩; go_simp; first | done | with_reducible rfl
          rotate_left
          · simp only [Act.put, List.setIfInBounds_toArray, List.set_cons_zero, List.set_cons_succ, i64_w, i32_w]; rfl
          refine take_ (i := 4) (N := (some 45)) (v := ?_) (a' := ?_) #[true, true, true, true, true, false, false] rfl rfl (by kernel_rfl) (fun _ _ _ h => h) (Or.inl ⟨by rfl, ?_⟩) hHeld ?_ ?_
          rotate_left
          · rintro w' ⟨s0, s1, s2⟩; go_simp; first | done | with_reducible rfl
          rotate_left
          · simp only [Act.put, List.setIfInBounds_toArray, List.set_cons_zero, List.set_cons_succ, i64_w, i32_w]; rfl
          refine last_ (i := 5) (N := (some 46)) #[true, true, true, true, true, true, false] rfl rfl (by kernel_rfl) (by decide) (fun K hK => ?_)
          have HMD := Lib.hid (HM2.out.later (Below.refl _ wa).drew)
          have HBD := Lib.hid HB2.out.drew
          refine goes_ Tryd.func111 (by kernel_rfl) rfl #[.slice (some ⟨b, off, none⟩) n c, .agg #[.int .i64 (y1 : Nat), .int .i64 (y2 : Nat)]] (by rfl) rfl rfl (by (try simp only [List.map_toArray, List.map_cons, List.map_nil]); first | done | rfl) ?_
          refine (behind_calls _ n c L R (y1, y2) _ HMD.out.sr hn1 hn8 HFY.out HGR.out.sz ((HGR.out.ok 0 hn1).1)).mono ?_
          rintro e w4 ⟨rfl, hb4⟩
          rw [HBE.out]
          have HM4 := Lib.hid (HMD.out.later hb4)
          have HB4 := Lib.hid (HBD.out.trans (hb4.mono HBD.out.size))
          have j0 := (hb4.cell (p := ⟨H8, 0, none⟩) (World.block_lt_of_cell? _ _ hHeld.2.1)).trans hHeld.2.1
          have j1 := (hb4.cell (p := ⟨H8, 1, none⟩) (World.block_lt_of_cell? _ _ hHeld.2.2)).trans hHeld.2.2
          clear hb4
          refine ⟨_, rfl, ?_⟩
          refine hK.out _ _ ?_
          clear hK K
          refine norm_ (a' := ?_) ?_ ?_
          rotate_left
          · show Act.put _ (some 46) _ = _; simp only [Act.put, List.setIfInBounds_toArray, List.set_cons_zero, List.set_cons_succ, i64_w, i32_w]; rfl
          by_cases hz : bz = 0
          · subst hz
            rw [if_pos rfl] at HCD
            refine pure_ (i := 6) (N := (some 47)) (v := (.bool true)) (a' := ?_) #[true, true, true, true, true, true, true] rfl rfl (by kernel_rfl) (fun _ _ _ h => h) (Or.inl ⟨by rfl, ?_⟩) ?_ ?_
            · intro w'; go_simp; first | done | with_reducible rfl
            rotate_left
            · simp only [Act.put, List.setIfInBounds_toArray, List.set_cons_zero, List.set_cons_succ, i64_w, i32_w]; rfl
            refine done_ (by kernel_rfl) ?_
            clear i0 i1 d0
            have HAC := Lib.hid (after_calls (x := (y1, y2)) HM4.out HGR.out hy1)
            rw [HAE.out] at HAC
            have han := and_nat (lt62 hacc) (lt62 HAF.out)
            have hor := or_nat (lt62 hacc) (lt62 HAF.out)
            go_wp2_with fail
            refine HAC.out.mono ?_
            rintro e w5 ⟨rfl, hb5⟩
            have HM5 := Lib.hid (HM4.out.later hb5)
            have HB5 := Lib.hid (HB4.out.trans (hb5.mono HB4.out.size))
            have k0 := (hb5.cell (p := ⟨H8, 0, none⟩) (World.block_lt_of_cell? _ _ j0)).trans j0
            have k1 := (hb5.cell (p := ⟨H8, 1, none⟩) (World.block_lt_of_cell? _ _ j1)).trans j1
            clear hb5 HM4 HB4 j0 j1 HAC
            by_cases hza : acc &&& a = 0
            · rw [if_pos hza] at HCD
              rw [hza] at han
              have HAC := Lib.hid (after_calls (x := (y1, y2)) HM5.out HGR.out hy1)
              rw [HAE.out] at HAC
              have hoa : acc ||| a < 32 := or_lt hacc HAF.out
              go_wp2_with fail
              refine HAC.out.mono ?_
              rintro e w6 ⟨rfl, hb6⟩
              have HB6 := Lib.hid (HB5.out.trans (hb6.mono HB5.out.size))
              clear hb6 HB5 HAC k0 k1
              go_wp2_with fail
              refine ⟨⟨q + 1, acc ||| a, by go_num, by first | rfl | simp, by omega, hoa, Lib.hid HCD.out.symm, HB6⟩, by simp [intOf]; omega⟩
            · rw [if_neg hza] at HCD
              have hzI : (((acc &&& a : Nat) : Int) == 0) = false := by simp [hza]
              have HBE := Lib.hid (HBW.out.trans (HB5.out.mono HBW.out.size))
              have hXT : X = true := HCD.out
              subst hXT
              go_wp2
              go_ret
              exact ⟨rfl, HBE.out⟩
          · rw [if_neg hz] at HCD
            have hzI : ((bz : Int) == 0) = false := by simp [hz]
            refine pure_ (i := 6) (N := (some 47)) (v := (.bool false)) (a' := ?_) #[true, true, true, true, true, true, true] rfl rfl (by kernel_rfl) (fun _ _ _ h => h) (Or.inl ⟨by rfl, ?_⟩) ?_ ?_
            · intro w'; go_simp; first | done | with_reducible rfl
            rotate_left
            · simp only [Act.put, List.setIfInBounds_toArray, List.set_cons_zero, List.set_cons_succ, i64_w, i32_w]; rfl
            refine done_ (by kernel_rfl) ?_
            clear i0 i1 d0 j0 j1
            go_wp2_with fail
            refine ⟨⟨q + 1, acc, by go_num, rfl, by omega, hacc, Lib.hid HCD.out.symm, HB4⟩, by simp [intOf]; omega⟩
        · obtain rfl : q = st.length := by omega
          have hXf : X = false := by
            rw [← HX.out, List.drop_length]
            rfl
          subst hXf
          have HBE := Lib.hid (HBW.out.trans (HBV.out.mono HBW.out.size))
          go_wp2
          go_ret
          exact ⟨rfl, HBE.out⟩
    · have hem := (mem_left he).1
      obtain ⟨u, v, hk, hv, hul, hun⟩ := HEV.out e hem
      have HI2 := Lib.hid (HI.out.step (by omega) hw1 e.born)
      have hen := run_entry_at (P := Tryd.prog) _ r r1 clock seen es clock e HI2.out.it HI2.out.m1 hem HST.out.2.1
      have HLS := Lib.hid (show (leftOf es (seen.push e.born)).size < (leftOf es (wr.iterSeen r)).size by rw [iter_seen HI.out.it]; exact left_shrinks es seen e he)
      have HWN : Hid (∀ acc' : Nat, (∀ k : Nat, k < 4 → acc'.testBit k = (acc.testBit k || decide (u = (k : Int) + 97))) → Wbits es (seen.push e.born) acc') := Lib.hid (fun acc' h k hk4 => by
        rw [h k hk4, Bool.or_eq_true, decide_eq_true_iff, HW.out k hk4]
        constructor
        · rintro (⟨x, hx, h1, h2⟩ | h1)
          · exact ⟨x, hx, by rw [contains_push, h1]; rfl, h2⟩
          · exact ⟨e, hem, by rw [contains_push]; simp, by rw [hk, h1, Int.add_comm]⟩
        · rintro ⟨x, hx, h1, h2⟩
          rw [contains_push] at h1
          rcases Bool.or_eq_true _ _ ▸ h1 with q | q
          · exact .inl ⟨x, hx, q, h2⟩
          · have : x = e := born_inj HST.out.2.1 hx hem (beq_iff_eq.1 q)
            rw [this, hk] at h2
            injection h2 with _ h2
            exact .inr (by omega))
      rw [hk, hv] at hrun hen
      obtain ⟨w2, hw2⟩ : ∃ w2, Go.ChangeMaps.setBlock w1 r (.mapIter (some r1) clock (seen.push e.born) clock) = w2 := ⟨_, rfl⟩
      rw [hw2] at hrun hen HI2
      have hnx : ∀ ty, (Instr.next (.pointer (some ⟨r, 0, none⟩)) false ty).run Tryd.prog wr = _ := fun _ => hrun
      generalize e.born = eb at *
      clear hrun hw2 he hk hv hem hun
      unfold natV at hen hnx
      cases hp : isP u with
      | true =>
        have h5 := isP_iff.1 hp
        have HW2 := Lib.hid (HWN.out acc (fun k hk4 => by rw [decide_eq_false (by omega), Bool.or_false]))
        clear h5
        go_wp2_with fail
        refine (isPart_calls u _).mono ?_
        rintro e w3 ⟨rfl, rfl⟩
        rw [hp]
        go_wp2_with fail
        refine ⟨⟨seen.push eb, clock, acc, rfl, hacc, HI2, HW2⟩, ?_⟩
        rw [iter_seen HI2.out.it]
        exact HLS.out
      | false =>
        have hj : ∃ j : Nat, j < 4 ∧ u = (j : Int) + 97 := by
          have h5 : ¬ (65 ≤ u ∧ u ≤ 69) := fun q => by rw [isP_iff.2 q] at hp; cases hp
          simp [lets] at hul
          exact ⟨(u - 97).toNat, by omega, by omega⟩
        obtain ⟨j, hj4, rfl⟩ := hj
        have e1 : IntKind.u8.wrap ((j : Int) + 97 - 97) = (j : Int) := by
          unfold IntKind.wrap
          simp [IntKind.signed, IntKind.bits]
          omega
        have ho := or_pow (a := acc) (j := j) (by omega) (by omega)
        have hacc2 : acc ||| 2 ^ j < 16 := Nat.or_lt_two_pow (n := 4) hacc (Nat.pow_lt_pow_right (by decide) hj4)
        have HW2 := Lib.hid (HWN.out (acc ||| 2 ^ j) (fun k hk4 => by
          rw [Nat.testBit_or, Nat.testBit_two_pow]
          congr 1
          exact decide_eq_decide.2 (by omega)))
        go_wp2_with fail
        refine (isPart_calls _ _).mono ?_
        rintro e w3 ⟨rfl, rfl⟩
        rw [hp]
        clear hp hul
        go_wp2_with fail
        refine ⟨⟨seen.push eb, clock, acc ||| 2 ^ j, by first | rfl | simp, hacc2, HI2, HW2⟩, ?_⟩
        rw [iter_seen HI2.out.it]
        exact HLS.out
end Go.Proofs.YtjpfalanoifpbaaDoor.X
end

section
set_option linter.unusedVariables false
set_option linter.unusedSimpArgs false
namespace Go.Proofs.YtjpfalanoifpbaaDoor.X
open Go.RowKit Go.Proofs.YtjpfalanoifpbaaDoorW.PrintWords Go.Proofs.YtjpfalanoifpbaaDoorW.PrintLast Go.Proofs.YtjpfalanoifpbaaDoorW.PrintMore Go.Proofs.YtjpfalanoifpbaaDoor.T
abbrev KN : Kd Nat := Kd.scalar natV (fun _ => rfl)
abbrev RN (B : Nat) (w : World) (v : Value) (l : List Nat) : Prop := Kd.R KN 3 w B (fun _ => True) v l
theorem info3 : (Tryd.prog.info? 3).map (fun i => (i.zero, i.size, i.bytes)) = some (some (.int .i64 0), 1, 8) := by kernel_rfl
set_option maxHeartbeats 8000000 in
set_option maxRecDepth 100000 in
theorem conflicts_calls {L : Nat → Int} {R : Nat → ByteArray} {n b off c : Nat} {w : World} {G : Nat} {out : List (List It)} (hM : Mt L R n b off c w G out) (hg : Gr L R n) :
    Calls Tryd.prog 89 #[.pointer (some ⟨G, 0, none⟩)] w fun e w' => (∃ v, e = .returned v ∧ RN w.heap.size w' v (confs L R n out)) ∧ Below w.heap.size w w' := by
  have HM := Lib.hid hM
  have HGR := Lib.hid hg
  obtain ⟨AS, cS, d1, -⟩ := hM.rows
  have hol := hM.sta.le
  clear hM hg
  go_enter Tryd.func89, Tryd.ntmps89
  go_wp2_with fail
  have HR : Hid (RN w.heap.size w (.slice none 0 0) (confTo L R n out 0)) := Lib.hid (Kd.R_nil _ _ _ _ _)
  have HB := Lib.hid (Below.refl w.heap.size w)
  clear d1
  go_loopw [10, 3] (fun j v wr => ∃ k : Nat, j = .int .i64 k ∧ k ≤ out.length ∧ Hid (RN w.heap.size wr v (confTo L R n out k)) ∧ Hid (Below w.heap.size w wr)) (fun j _ _ => out.length - (intOf j).toNat)
  case atStart => exact ⟨0, rfl, by omega, HR, HB⟩
  case round =>
    clear HR HB
    obtain ⟨k, rfl, hk, HR, HB⟩ := hrel
    obtain ⟨A5, c5, e5⟩ := Kd.R_slice HR.out
    subst e5
    by_cases hkl : k < out.length
    · have hkI : (k : Int) < (out.length : Int) := by omega
      obtain ⟨st, hst⟩ : ∃ st, out[k]? = some st := ⟨_, List.getElem?_eq_getElem hkl⟩
      have HCS := Lib.hid (confTo_succ (L := L) (R := R) (n := n) hst)
      have HC := Lib.hid (conflict_calls (HM.out.later HB.out) HGR.out hst)
      have hxl := confTo_len (L := L) (R := R) (n := n) out k
      obtain ⟨xs, hx⟩ : ∃ xs, confTo L R n out k = xs := ⟨_, rfl⟩
      rw [hx] at HCS HR hxl ⊢
      clear hst hx
      go_wp2_with fail
      refine HC.out.mono ?_
      rintro e w2 ⟨rfl, hb2⟩
      have HB2 := Lib.hid (HB.out.trans (hb2.mono HB.out.size))
      have HR2 := Lib.hid (Kd.R_below HR.out hb2)
      clear hb2 HB HR HC
      cases hc : conf L R n st with
      | true =>
        rw [hc, if_pos rfl] at HCS
        clear hc
        go_wp2_with (at_builtin; refine Kd.R_append KN (w0 := w) w.heap.size rfl (.tmp 16) (.tmp 18) 76 3 (.int .i64 0) 8 rfl Tryd.underlying76 info3 rfl (by decide) (by decide) (.slice A5 xs.length c5) xs k [.int .i64 (k : Nat)] (fun _ => True) (fun _ => False) rfl rfl rfl (fun _ h => h.elim) (fun _ _ => trivial) HR2.out HB2.out HB2.out.size (by omega) ?_; intro v6 w6 hv hb hg hat; have HR6 := Lib.hid hv; have HB6 := Lib.hid hb; clear hv hb hg hat)
        refine ⟨⟨k + 1, by go_num, by omega, by rw [HCS.out]; exact HR6, HB6⟩, by simp [intOf]; omega⟩
      | false =>
        rw [hc, if_neg (by decide)] at HCS
        clear hc
        go_wp2_with fail
        refine ⟨⟨k + 1, by go_num, by omega, by rw [HCS.out]; exact HR2, HB2⟩, by simp [intOf]; omega⟩
    · obtain rfl : k = out.length := by omega
      go_wp2
      go_ret
      exact ⟨⟨_, rfl, HR.out⟩, HB.out⟩
set_option maxHeartbeats 4000000 in
set_option maxRecDepth 100000 in
theorem Conflicts_yes (A : Option Addr) (n c : Nat) (L : Nat → Int) (R : Nat → ByteArray) (w : World) (hA : Sr w A n c L R) (hg : Gram L R n) :
    Calls Tryd.prog 50 #[.slice A n c] w fun e w' => ((∃ v out, e = .returned (.tuple #[v, .int .i64 0]) ∧ StaI L R n out out.length ∧ RN w.heap.size w' v (confs L R n out)) ∨ (stas L R n = none ∧ e = .returned (.tuple #[.slice none 0 0, .int .i64 6]))) ∧ Below w.heap.size w w' := by
  obtain ⟨b, off, rfl, hnc, -⟩ := hA.open hg.1.1
  have HR := Lib.hid (read_yes _ n c L R w hA hg)
  have HA := Lib.hid hA
  have HG := Lib.hid hg
  clear hA hg
  go_enter Tryd.func50, Tryd.ntmps50
  go_wp2_with fail
  refine HR.out.mono ?_
  rintro e w1 ⟨h | ⟨hn, rfl⟩, hb1⟩
  · obtain ⟨G, out, W, rfl, hM, -⟩ := h
    have HB := Lib.hid hb1
    have HM : Hid (Mt L R n b off c w1 G out) := Lib.hid ⟨⟨W, hM⟩, HA.out.later hb1⟩
    clear hb1 hM HR
    go_wp2_with fail
    refine (conflicts_calls HM.out HG.out.gr).mono ?_
    rintro e w2 ⟨⟨v, rfl, hv⟩, hb2⟩
    have HB2 := Lib.hid (HB.out.trans (hb2.mono HB.out.size))
    have HV := Lib.hid (Kd.R_lower hv HB.out.size)
    have HI := Lib.hid HM.out.sta
    clear hb2 hv HB HM
    go_wp2
    go_ret2
    exact ⟨.inl ⟨v, out, rfl, HI.out, HV.out⟩, HB2.out⟩
  · have HB := Lib.hid hb1
    have HN := Lib.hid hn
    clear hb1 hn
    go_wp2
    go_ret2
    exact ⟨.inr ⟨HN.out, rfl⟩, HB.out⟩
set_option maxHeartbeats 2000000 in
set_option maxRecDepth 100000 in
theorem Conflicts_no (A : Option Addr) (n c : Nat) (L : Nat → Int) (R : Nat → ByteArray) (w : World) (hA : Sr w A n c L R) (hn : n ≤ 1000) (hsz : ∀ k, k < n → (R k).size ≤ 1000) (hg : ¬ Gram L R n) :
    Calls Tryd.prog 50 #[.slice A n c] w fun e w' => e = .returned (.tuple #[.slice none 0 0, .int .i64 2]) ∧ Below w.heap.size w w' := by
  have HR := Lib.hid (read_no A n c L R w hA hn hsz hg)
  clear hA hg hsz
  go_enter Tryd.func50, Tryd.ntmps50
  go_wp2_with fail
  refine HR.out.mono ?_
  rintro e w1 ⟨rfl, hb1⟩
  have HB := Lib.hid hb1
  clear hb1
  go_wp2
  go_ret2
  exact ⟨rfl, HB.out⟩
set_option maxHeartbeats 4000000 in
set_option maxRecDepth 100000 in
theorem Go_no (A : Option Addr) (n c : Nat) (L : Nat → Int) (R : Nat → ByteArray) (state letter : Int) (w : World) (hA : Sr w A n c L R) (hn : n ≤ 1000) (hsz : ∀ k, k < n → (R k).size ≤ 1000) (hg : ¬ Gram L R n) :
    Calls Tryd.prog 49 #[.slice A n c, .int .i64 state, .int .u8 letter] w fun e w' => e = .returned (.tuple #[.int .i64 0, .int .i64 2]) ∧ Below w.heap.size w w' := by
  obtain ⟨r, hr⟩ : ∃ r : Bool, r = true ↔ letter ∈ lets := ⟨decide (letter ∈ lets), by simp⟩
  have HR := Lib.hid hr
  have HRD := Lib.hid (fun (w : World) (h : Sr w A n c L R) => read_no A n c L R w h hn hsz hg)
  have HA := Lib.hid hA
  have hcv := letC_conv0
  clear hA hg hr hsz
  go_enter Tryd.func49, Tryd.ntmps49
  go_wp2_with fail
  have hbL := below_one (w := w) (.cells letC 5 (9, 10))
  have HLB := Lib.hid (blk_new w (.cells letC 5 (9, 10)))
  have HB := Lib.hid hbL
  unfold letC at HB HLB
  clear hbL hcv
  generalize w.alloc (.cells #[.int .u8 65, .int .u8 66, .int .u8 67, .int .u8 68, .int .u8 69, .int .u8 97, .int .u8 98, .int .u8 99, .int .u8 100] 5 (9, 10)) = w1 at HLB HB ⊢
  refine (containsB_calls HLB.out letter r HR.out).mono ?_
  rintro e w2 ⟨rfl, rfl⟩
  clear HLB HR
  cases r with
  | false =>
    go_wp2
    go_ret2
    exact ⟨rfl, HB.out⟩
  | true =>
    go_wp2_with fail
    refine (HRD.out w2 (HA.out.later HB.out)).mono ?_
    rintro e w3 ⟨rfl, hb3⟩
    have HB3 := Lib.hid (HB.out.trans (hb3.mono HB.out.size))
    clear hb3 HB
    go_wp2
    go_ret2
    exact ⟨rfl, HB3.out⟩
end Go.Proofs.YtjpfalanoifpbaaDoor.X
end

section
set_option linter.unusedVariables false
set_option linter.unusedSimpArgs false
namespace Go.Proofs.YtjpfalanoifpbaaDoor.X
open Go.RowKit Go.Proofs.YtjpfalanoifpbaaDoorW.PrintWords Go.Proofs.YtjpfalanoifpbaaDoorW.PrintLast Go.Proofs.YtjpfalanoifpbaaDoorW.PrintMore Go.Proofs.YtjpfalanoifpbaaDoor.T
set_option maxHeartbeats 8000000 in
set_option maxRecDepth 100000 in
theorem ends_calls (A : Option Addr) (n c : Nat) (L : Nat → Int) (R : Nat → ByteArray) (x : It) (w : World) (hA : Sr w A n c L R) (hg : Gr L R n) (hx : Fits L R n x) :
    Calls Tryd.prog 90 #[.slice A n c, agg5 (nextN L R n 25), .agg #[.int .i64 (x.1 : Nat), .int .i64 (x.2 : Nat)]] w fun e w' => e = .returned (if bh L R n x = 0 then .tuple #[.int .i64 (aft L R n x : Nat), .bool true] else .tuple #[.int .i64 0, .bool false]) ∧ Below w.heap.size w w' := by
  obtain ⟨y1, y2⟩ := x
  simp only at hx ⊢
  have hn1 := hg.n1
  have hn8 := hg.n8
  have hy1 : y1 ≤ n := hx.1
  have hbz := bh_zero hg.ok ((hg.ok 0 hn1).1) hx
  have hsz := rs_le (L := L) (show R4 R n from hg.sz) hy1
  simp only at hbz
  have HBZ := Lib.hid hbz
  have HA := Lib.hid hA
  have hok := hg.ok
  obtain ⟨F, hF⟩ : ∃ F, nextN L R n 25 = F := ⟨_, rfl⟩
  have HAF : Hid (aft L R n (y1, y2) = if y1 = n then 16 else F (pn (L y1))) := Lib.hid (by rw [← hF]; rfl)
  rw [hF]
  obtain ⟨a, ha⟩ : ∃ a, aft L R n (y1, y2) = a := ⟨_, rfl⟩
  rw [ha] at HAF ⊢
  obtain ⟨RV, hRV⟩ : ∃ RV, (if bh L R n (y1, y2) = 0 then Value.tuple #[.int .i64 (a : Nat), .bool true] else .tuple #[.int .i64 0, .bool false]) = RV := ⟨_, rfl⟩
  rw [hRV]
  have HRV := Lib.hid hRV
  obtain ⟨b, off, rfl, hnc, hP⟩ := hA.open hn1
  have HP := Lib.hid hP
  clear hA hg hbz ha hF hx hP hRV
  unfold agg5
  have hbA := below_one (w := w) (.cells (cells5 F) 23)
  have hkA := blk_new w (.cells (cells5 F) 23)
  unfold cells5 at hbA hkA
  have hbB := below_one (w := w.alloc (.cells #[.int .i64 (F 0), .int .i64 (F 1), .int .i64 (F 2), .int .i64 (F 3), .int .i64 (F 4)] 23)) (.cells #[.int .i64 (y1 : Nat), .int .i64 (y2 : Nat)] 73)
  obtain ⟨i0, i1⟩ := it_new (w.alloc (.cells #[.int .i64 (F 0), .int .i64 (F 1), .int .i64 (F 2), .int .i64 (F 3), .int .i64 (F 4)] 23)) 73 (y1 : Nat) (y2 : Nat)
  have hkB := (hbB.block _ (Array.getElem?_eq_some_iff.1 hkA).1).trans hkA
  have HB := Lib.hid (hbA.trans (hbB.mono hbA.size))
  have hsw : (w.alloc (.cells #[.int .i64 (F 0), .int .i64 (F 1), .int .i64 (F 2), .int .i64 (F 3), .int .i64 (F 4)] 23)).heap.size = w.heap.size + 1 := by simp
  rw [hsw] at i0 i1
  clear hbA hbB hkA hsw
  go_enter Tryd.func90, Tryd.ntmps90
  go_wp2_with fail
  generalize (w.alloc (.cells #[.int .i64 (F 0), .int .i64 (F 1), .int .i64 (F 2), .int .i64 (F 3), .int .i64 (F 4)] 23)).alloc (.cells #[.int .i64 (y1 : Nat), .int .i64 (y2 : Nat)] 73) = w1 at i0 i1 hkB HB ⊢
  have HK1 := Lib.hid (show w1.heap[w.heap.size]? = some (.cells (cells5 F) 23 (0, 0)) from hkB)
  clear hkB
  obtain ⟨H, hH⟩ : ∃ H, w.heap.size = H := ⟨_, rfl⟩
  rw [hH] at i0 i1 HK1
  obtain ⟨s, hs⟩ : ∃ s, rs L R n y1 = s := ⟨_, rfl⟩
  rw [hs] at HBZ hsz
  have HS := Lib.hid hs
  clear hs
  rw [hH]
  refine start_ (n := 8) (S := fun w' => w'.cell? ⟨H + 1, 0, none⟩ = some (.int .i64 (y1 : Nat)) ∧ w'.cell? ⟨H + 1, 1, none⟩ = some (.int .i64 (y2 : Nat))) (ds := []) #[false, false, false, false, false, false, false, false] (by kernel_rfl) rfl rfl ⟨by simpa using i0, by simpa using i1⟩ (fun hHeld => ?_)
  refine pure_ (i := 0) (N := (some 8)) (v := ?_) (a' := ?_) #[true, false, false, false, false, false, false, false] rfl rfl (by kernel_rfl) (fun _ _ _ h => h) (Or.inl ⟨by rfl, ?_⟩) ?_ ?_
  rotate_left
  · intro w'; go_simp; first | done | with_reducible rfl
  rotate_left
  · simp only [Act.put, List.setIfInBounds_toArray, List.set_cons_zero, List.set_cons_succ, i64_w, i32_w]; rfl
  refine take_ (i := 1) (N := (some 9)) (v := ?_) (a' := ?_) #[true, true, false, false, false, false, false, false] rfl rfl (by kernel_rfl) (fun _ _ _ h => h) (Or.inl ⟨by rfl, ?_⟩) hHeld ?_ ?_
  rotate_left
  · rintro w' ⟨s0, s1⟩; go_simp; first | done | with_reducible rfl
  rotate_left
  · simp only [Act.put, List.setIfInBounds_toArray, List.set_cons_zero, List.set_cons_succ, i64_w, i32_w]; rfl
  refine pure_ (i := 2) (N := (some 10)) (v := ?_) (a' := ?_) #[true, true, true, false, false, false, false, false] rfl rfl (by kernel_rfl) (fun _ _ _ h => h) (Or.inl ⟨by rfl, ?_⟩) ?_ ?_
  rotate_left
  · intro w'; go_simp; first | done | with_reducible rfl
  rotate_left
  · simp only [Act.put, List.setIfInBounds_toArray, List.set_cons_zero, List.set_cons_succ, i64_w, i32_w]; rfl
  refine pure_ (i := 3) (N := (some 11)) (v := ?_) (a' := ?_) #[true, true, true, true, false, false, false, false] rfl rfl (by kernel_rfl) (fun _ _ _ h => h) (Or.inl ⟨by rfl, ?_⟩) ?_ ?_
  rotate_left
  · intro w'; go_simp; first | done | with_reducible rfl
  rotate_left
  · simp only [Act.put, List.setIfInBounds_toArray, List.set_cons_zero, List.set_cons_succ, i64_w, i32_w]; rfl
  refine take_ (i := 4) (N := (some 12)) (v := ?_) (a' := ?_) #[true, true, true, true, true, false, false, false] rfl rfl (by kernel_rfl) (fun _ _ _ h => h) (Or.inl ⟨by rfl, ?_⟩) hHeld ?_ ?_
  rotate_left
  · rintro w' ⟨s0, s1⟩; go_simp; first | done | with_reducible rfl
  rotate_left
  · simp only [Act.put, List.setIfInBounds_toArray, List.set_cons_zero, List.set_cons_succ, i64_w, i32_w]; rfl
  refine one_ (i := 5) (N := (some 13)) #[true, true, true, true, true, true, false, false] rfl rfl (by kernel_rfl) (by decide) (fun K hK => ?_)
  have HBD := Lib.hid HB.out.drew
  have HKD := Lib.hid (((Below.refl _ w1).drew.block _ (Array.getElem?_eq_some_iff.1 HK1.out).1).trans HK1.out)
  refine goes_ Tryd.func107 (by kernel_rfl) rfl #[.slice (some ⟨b, off, none⟩) n c, .int .i64 (y1 : Nat)] (by rfl) rfl rfl (by (try simp only [List.map_toArray, List.map_cons, List.map_nil]); first | done | rfl) ?_
  refine (rright_calls _ n c L R y1 _ (HA.out.later HBD.out) hn1 hn8 hy1).mono ?_
  rintro e w4 ⟨rfl, hb4⟩
  rw [HS.out]
  have HB4 := Lib.hid (HBD.out.trans (hb4.mono HBD.out.size))
  have HK4 := Lib.hid ((hb4.block _ (Array.getElem?_eq_some_iff.1 HKD.out).1).trans HKD.out)
  have j0 := (hb4.cell (p := ⟨H + 1, 0, none⟩) (World.block_lt_of_cell? _ _ hHeld.1)).trans hHeld.1
  have j1 := (hb4.cell (p := ⟨H + 1, 1, none⟩) (World.block_lt_of_cell? _ _ hHeld.2)).trans hHeld.2
  clear hb4
  refine ⟨_, rfl, ?_⟩
  clear hHeld
  refine hK.out _ _ ⟨j0, j1⟩ (fun hHeld => ?_)
  clear hK K
  refine norm_ (a' := ?_) ?_ ?_
  rotate_left
  · show Act.put _ (some 13) _ = _; simp only [Act.put, List.setIfInBounds_toArray, List.set_cons_zero, List.set_cons_succ, i64_w, i32_w]; rfl
  refine pure_ (i := 6) (N := (some 14)) (v := ?_) (a' := ?_) #[true, true, true, true, true, true, true, false] rfl rfl (by kernel_rfl) (fun _ _ _ h => h) (Or.inl ⟨by rfl, ?_⟩) ?_ ?_
  rotate_left
  · intro w'; go_simp; first | done | with_reducible rfl
  rotate_left
  · simp only [Act.put, List.setIfInBounds_toArray, List.set_cons_zero, List.set_cons_succ, i64_w, i32_w]; rfl
  by_cases hd : y2 < s.size
  · have hdI : (y2 : Int) < (s.size : Int) := by omega
    have hnz : ¬ bh L R n (y1, y2) = 0 := fun q => by have := HBZ.out.1 q; omega
    have hRV := HRV.out
    rw [if_neg hnz] at hRV
    subst hRV
    clear hnz
    refine pure_ (i := 7) (N := (some 15)) (v := (.bool true)) (a' := ?_) #[true, true, true, true, true, true, true, true] rfl rfl (by kernel_rfl) (fun _ _ _ h => h) (Or.inl ⟨by rfl, ?_⟩) ?_ ?_
    · intro w'; go_simp; first | done | with_reducible rfl
    rotate_left
    · simp only [Act.put, List.setIfInBounds_toArray, List.set_cons_zero, List.set_cons_succ, i64_w, i32_w]; rfl
    refine done_ (by kernel_rfl) ?_
    clear i0 i1
    go_wp2
    go_ret2
    exact ⟨rfl, HB4.out⟩
  · have hdI : ¬ (y2 : Int) < (s.size : Int) := by omega
    have hnz : bh L R n (y1, y2) = 0 := HBZ.out.2 (by omega)
    have hRV := HRV.out
    rw [if_pos hnz] at hRV
    subst hRV
    clear hnz
    refine pure_ (i := 7) (N := (some 15)) (v := .bool false) (a' := ?_) #[true, true, true, true, true, true, true, true] rfl rfl (by kernel_rfl) (fun _ _ _ h => h) (Or.inl ⟨by rfl, ?_⟩) ?_ ?_
    · intro w'; go_simp; first | done | with_reducible rfl
    rotate_left
    · simp only [Act.put, List.setIfInBounds_toArray, List.set_cons_zero, List.set_cons_succ, i64_w, i32_w]; rfl
    refine done_ (by kernel_rfl) ?_
    clear i0 i1
    by_cases hyn : y1 = n
    · have ha := HAF.out
      rw [if_pos hyn] at ha
      subst hyn
      subst ha
      go_wp2
      go_ret2
      exact ⟨rfl, by first | exact HB4.out | (rw [← hH]; exact HB4.out)⟩
    · have ha := HAF.out
      rw [if_neg hyn] at ha
      have hynl : y1 < n := by omega
      have hyI : ¬ (y1 : Int) = (n : Int) := by omega
      have hynI : (y1 : Int) < (n : Int) := by omega
      have g0 := (HP.out.later HB4.out).c0 y1 hynl
      have hlp := (hok y1 hynl).1
      obtain ⟨l, hl⟩ : ∃ l, L y1 = l := ⟨_, rfl⟩
      rw [hl] at g0 hlp ha
      have h5 := isP_iff.1 hlp
      obtain ⟨j, rfl⟩ : ∃ j : Nat, l = (j : Int) + 65 := ⟨(l - 65).toNat, by omega⟩
      have hj : j ≤ 4 := by omega
      have hj5 : j < 5 := by omega
      have hj5I : (j : Int) < 5 := by omega
      have e1 : IntKind.u8.wrap ((j : Int) + 65 - 65) = (j : Int) := by
        unfold IntKind.wrap
        simp [IntKind.signed, IntKind.bits]
        omega
      have hpn : pn ((j : Int) + 65) = j := by unfold pn; omega
      rw [hpn] at ha
      have gN := five_at HK4.out hj5
      rw [← ha] at gN
      have hyc : y1 < c := by omega
      clear hl hpn ha hok h5 hlp
      go_wp2
      go_ret2
      exact ⟨rfl, by first | exact HB4.out | (rw [← hH]; exact HB4.out)⟩
end Go.Proofs.YtjpfalanoifpbaaDoor.X
end

section
set_option linter.unusedVariables false
set_option linter.unusedSimpArgs false
namespace Go.Proofs.YtjpfalanoifpbaaDoor.X
open Go.RowKit Go.Proofs.YtjpfalanoifpbaaDoorW.PrintWords Go.Proofs.YtjpfalanoifpbaaDoorW.PrintLast Go.Proofs.YtjpfalanoifpbaaDoorW.PrintMore Go.Proofs.YtjpfalanoifpbaaDoor.T
theorem rn_kept {w w1 : World} {B g : Nat} {v : Value} {l : List Nat} {cs : Array Value} (hR : RN B w v l) (hg : w.grownBy w1 v.ownBlock) (hb : w.heap[g]? = some (.cells cs 23 (0, 0))) : w1.heap[g]? = some (.cells cs 23 (0, 0)) := by
  obtain ⟨i1, ho1⟩ := Kd.R_own hR
  refine (hg.block g (Array.getElem?_eq_some_iff.1 hb).1 fun e => ?_).trans hb
  obtain ⟨cs2, hc⟩ := own_typed ho1 g e.symm
  rw [hb] at hc
  injection hc with hc
  injection hc with _ hc
  exact absurd hc (by decide)
def CX (L : Nat → Int) (R : Nat → ByteArray) (n : Nat) (st : List It) (X : Bool) (q acc : Nat) (bd : Bool) : Prop := (bd = true → X = true) ∧ (bd = false → cfl L R n (st.drop q) acc = X)
theorem lets_word {q : Nat} (hq : q < 4) : lets[q + 5]'(by show q + 5 < 9; omega) = 97 + (q : Int) := by
  match q, hq with
  | 0, _ => rfl
  | 1, _ => rfl
  | 2, _ => rfl
  | 3, _ => rfl
set_option maxHeartbeats 16000000 in
set_option maxRecDepth 100000 in
theorem rConflicts_calls (A : Option Addr) (n c : Nat) (L : Nat → Int) (R : Nat → ByteArray) (A1 : Option Addr) (c1 : Nat) (out : List (List It)) (w : World) (hA : Sr w A n c L R) (hg : Gr L R n) (hS : StR w A1 out.length c1 out) (hso : StaI L R n out out.length) :
    Calls Tryd.prog 53 #[.slice A n c, .slice A1 out.length c1] w fun e w' => (∃ v, e = .returned v ∧ RN w.heap.size w' v (confs L R n out)) ∧ Below w.heap.size w w' := by
  have hn1 := hg.n1
  have hn8 := hg.n8
  have HA := Lib.hid hA
  have HGR := Lib.hid hg
  have HS := Lib.hid hS
  have HSO := Lib.hid hso
  have hol := hso.le
  have HNX := Lib.hid (rNext_calls A n c L R w hA hg)
  rw [next_stands hg.ok hn1] at HNX
  clear hA hg hS hso
  go_enter Tryd.func53, Tryd.ntmps53
  go_wp2_with fail
  refine HNX.out.mono ?_
  rintro e w1 ⟨rfl, hb1⟩
  have HB1 := Lib.hid hb1
  clear hb1 HNX
  obtain ⟨F, hF⟩ : ∃ F, nextN L R n 25 = F := ⟨_, rfl⟩
  rw [hF]
  have HF := Lib.hid hF
  clear hF
  unfold agg5
  go_wp2_with fail
  have hbK := below_one (w := w1) (.cells (cells5 F) 23)
  have HK := Lib.hid (blk_new w1 (.cells (cells5 F) 23))
  have HB := Lib.hid (HB1.out.trans (hbK.mono HB1.out.size))
  unfold cells5 at HB HK
  clear hbK HB1
  generalize w1.alloc (.cells #[.int .i64 (F 0), .int .i64 (F 1), .int .i64 (F 2), .int .i64 (F 3), .int .i64 (F 4)] 23) = w2 at HB HK ⊢
  have HK : Hid (w2.heap[w1.heap.size]? = some (.cells (cells5 F) 23 (0, 0))) := HK
  generalize w1.heap.size = H5 at HK ⊢
  have HR : Hid (RN w.heap.size w2 (.slice none 0 0) (confTo L R n out 0)) := Lib.hid (Kd.R_nil _ _ _ _ _)
  go_loopw [22, 6] (fun j v wr => ∃ k : Nat, j = .int .i64 k ∧ k ≤ out.length ∧ Hid (RN w.heap.size wr v (confTo L R n out k)) ∧ Hid (Below w.heap.size w wr) ∧ Hid (wr.heap[H5]? = some (.cells (cells5 F) 23 (0, 0)))) (fun j _ _ => out.length - (intOf j).toNat)
  case atStart => exact ⟨0, rfl, by omega, HR, HB, HK⟩
  case round =>
    clear HR HB HK
    obtain ⟨k, rfl, hk, HR, HB, HK⟩ := hrel
    obtain ⟨A5, c5, e5⟩ := Kd.R_slice HR.out
    subst e5
    by_cases hkl : k < out.length
    · have hkI : (k : Int) < (out.length : Int) := by omega
      obtain ⟨bS, oS, eS, hnS, hcS⟩ := (HS.out.later HB.out).open (by omega)
      subst eS
      obtain ⟨st, hst⟩ : ∃ st, out[k]? = some st := ⟨_, List.getElem?_eq_getElem hkl⟩
      obtain ⟨A', c', s0, hI⟩ := hcS k st hst
      have HI := Lib.hid hI
      have hfs := HSO.out.fits st (List.mem_of_getElem? hst)
      have HFS := Lib.hid hfs.2
      have hsl := state_len (L := L) (R := R) HGR.out.sz hn8 hfs
      have HCS := Lib.hid (confTo_succ (L := L) (R := R) (n := n) hst)
      have hxl := confTo_len (L := L) (R := R) (n := n) out k
      obtain ⟨xs, hx⟩ : ∃ xs, confTo L R n out k = xs := ⟨_, rfl⟩
      rw [hx] at HCS HR hxl ⊢
      obtain ⟨X, hX⟩ : ∃ X, conf L R n st = X := ⟨_, rfl⟩
      rw [hX] at HCS
      have HX : Hid (cfl L R n st (tkw L R n st 4) = X) := Lib.hid hX
      have hkc : k < c1 := by omega
      clear hst hx hcS hI hfs hX
      obtain ⟨V, hV⟩ : ∃ V, V = wr := ⟨_, rfl⟩
      subst hV
      have HBV := Lib.hid (Below.refl V.heap.size V)
      go_wp2_with fail
      clear s0
      go_loopw [10, 9] (fun j v wr => ∃ q : Nat, j = .int .i64 ((q + 5 : Nat) : Int) ∧ v = .int .i64 (tkw L R n st q : Nat) ∧ q ≤ 4 ∧ Hid (Below V.heap.size V wr)) (fun j _ _ => 9 - (intOf j).toNat)
      case atStart => exact ⟨0, by first | rfl | simp, by first | rfl | simp [tkw], by omega, HBV⟩
      case round =>
        clear HBV
        obtain ⟨q, rfl, rfl, hq, HBV⟩ := hrel
        by_cases hq4 : q < 4
        · have hqI : ((q + 5 : Nat) : Int) < 9 := by omega
          have hq9 : q + 5 < 9 := by omega
          have hbt := (strC_at hq9).trans (lets_word hq4)
          unfold strC at hbt
          obtain ⟨r, hr⟩ : ∃ r : Bool, r = true ↔ nxt L R n st (97 + (q : Int)) ≠ [] := ⟨decide (nxt L R n st (97 + (q : Int)) ≠ []), by simp⟩
          have HRR := Lib.hid hr
          have HO := Lib.hid (over_calls A n c L R A' c' st (97 + (q : Int)) wr (HA.out.later (HB.out.trans (HBV.out.mono HB.out.size))) HGR.out (HI.out.later HBV.out) (by omega) HFS.out (by omega) r hr)
          have hT : tkw L R n st (q + 1) = if nxt L R n st (97 + (q : Int)) = [] then tkw L R n st q else tkw L R n st q ||| 2 ^ q := rfl
          have HTQ := Lib.hid hT
          have htl := tkw_lt (L := L) (R := R) (n := n) st q (by omega)
          obtain ⟨t, ht⟩ : ∃ t, tkw L R n st q = t := ⟨_, rfl⟩
          rw [ht] at HTQ htl ⊢
          have hop := or_pow (a := t) (j := q) htl (by omega)
          obtain ⟨z, hz⟩ : ∃ z : Int, 97 + (q : Int) = z := ⟨_, rfl⟩
          rw [hz] at hbt HRR HO HTQ
          clear hr hT ht hz
          go_wp2_with fail
          refine HO.out.mono ?_
          rintro e w5 ⟨⟨v5, rfl, -⟩, hb5⟩
          have HB5 := Lib.hid (HBV.out.trans (hb5.mono HBV.out.size))
          clear hb5 HBV HO hbt
          cases r with
          | false =>
            have hnx : nxt L R n st z = [] := Classical.byContradiction fun q => by have := HRR.out.2 q; cases this
            rw [if_pos hnx] at HTQ
            clear hnx
            go_wp2_with fail
            refine ⟨⟨q + 1, by simp; omega, by rw [HTQ.out], by omega, HB5⟩, by simp [intOf]; omega⟩
          | true =>
            have hnx := HRR.out.1 rfl
            rw [if_neg hnx] at HTQ
            clear hnx
            go_wp2_with fail
            refine ⟨⟨q + 1, by simp; omega, by rw [HTQ.out], by omega, HB5⟩, by simp [intOf]; omega⟩
        · have hq4e : q = 4 := by omega
          have hqI : ¬ ((q + 5 : Nat) : Int) < 9 := by omega
          rw [hq4e]
          rw [hq4e] at hqI
          have hacc := tkw_lt (L := L) (R := R) (n := n) st 4 (by omega)
          obtain ⟨acc, ha⟩ : ∃ acc, tkw L R n st 4 = acc := ⟨_, rfl⟩
          rw [ha] at HX hacc ⊢
          have HX : Hid (cfl L R n (st.drop 0) acc = X) := HX
          have HXX : Hid (CX L R n st X 0 acc false) := Lib.hid ⟨fun h => (by cases h), fun _ => HX.out⟩
          clear ha hq4e
          go_wp2_with fail
          go_loopw [47, 9, 13] (fun j v f wr => ∃ (q acc : Nat) (bd : Bool), j = .int .i64 q ∧ v = .int .i64 acc ∧ f = .bool bd ∧ q ≤ st.length ∧ acc < 32 ∧ Hid (CX L R n st X q acc bd) ∧ Hid (Below V.heap.size V wr)) (fun j _ _ _ => st.length - (intOf j).toNat)
          case atStart => exact ⟨0, acc, false, rfl, rfl, by first | rfl | simp, by omega, hacc, HXX, HBV⟩
          case round =>
            clear HXX HBV HX hacc
            obtain ⟨q, acc, bd, rfl, rfl, rfl, hql, hacc, HXX, HBV⟩ := hrel
            by_cases hqs : q < st.length
            · have hqI : (q : Int) < (st.length : Int) := by omega
              obtain ⟨bI, oI, eI, hm1, hP1⟩ := (HI.out.later HBV.out).open (by omega)
              subst eI
              obtain ⟨⟨y1, y2⟩, hy⟩ : ∃ y, st[q]? = some y := ⟨_, List.getElem?_eq_getElem hqs⟩
              have f0 := hP1.c0 q _ hy
              have f1 := hP1.c1 q _ hy
              simp only at f0 f1
              have HFY := Lib.hid (HFS.out (y1, y2) (List.mem_of_getElem? hy))
              have hcd := cfl_drop (L := L) (R := R) (n := n) hy acc
              have haf := aft_lt (L := L) (R := R) (n := n) (x := (y1, y2)) HGR.out.ok hn1
              have hqc : q < c' := by omega
              have hbA := below_one (w := wr) (.cells #[.int .i64 (y1 : Nat), .int .i64 (y2 : Nat)] 73)
              obtain ⟨i0, i1⟩ := it_new wr 73 (y1 : Nat) (y2 : Nat)
              have HB2 := Lib.hid (HBV.out.trans (hbA.mono HBV.out.size))
              have HK2 := Lib.hid ((HB2.out.block _ (Array.getElem?_eq_some_iff.1 HK.out).1).trans HK.out)
              have HE := Lib.hid (ends_calls A n c L R (y1, y2) _ (HA.out.later (HB.out.trans (HB2.out.mono HB.out.size))) HGR.out HFY.out)
              rw [HF.out] at HE
              unfold agg5 at HE
              obtain ⟨a, hae⟩ : ∃ a, aft L R n (y1, y2) = a := ⟨_, rfl⟩
              rw [hae] at hcd haf HE
              have HCD := Lib.hid hcd
              clear hy hP1 hbA HBV hae hcd
              go_upto_region 17 with fail
              generalize wr.alloc (.cells #[.int .i64 (y1 : Nat), .int .i64 (y2 : Nat)] 73) = wa at i0 i1 HB2 HK2 HE ⊢
              generalize wr.heap.size = H8 at i0 i1 ⊢
              obtain ⟨x0, x1, x2, x3, x4⟩ := five_load HK2.out
              clear f0 f1
              go_wp2_with fail
              refine HE.out.mono ?_
              rintro e w6 ⟨rfl, hb6⟩
              have HB6 := Lib.hid (HB2.out.trans (hb6.mono HB2.out.size))
              clear hb6 HB2 HK2 HE x0 x1 x2 x3 x4 i0 i1
              by_cases hz : bh L R n (y1, y2) = 0
              · rw [if_pos hz]
                have hcd := HCD.out
                rw [if_pos hz] at hcd
                have han := and_nat (lt62 haf) (lt62 hacc)
                have hor := or_nat (lt62 hacc) (lt62 haf)
                have hoa : acc ||| a < 32 := or_lt hacc haf
                rw [Nat.and_comm] at han
                by_cases hza : acc &&& a = 0
                · rw [if_pos hza] at hcd
                  rw [hza] at han
                  have HXN : Hid (CX L R n st X (q + 1) (acc ||| a) bd) := Lib.hid ⟨HXX.out.1, fun h => hcd.symm.trans (HXX.out.2 h)⟩
                  clear hcd hz HCD
                  cases bd with
                  | true =>
                    go_wp2_with fail
                    refine ⟨⟨q + 1, acc ||| a, true, by go_num, by first | rfl | simp, by first | rfl | (simp; done) | simp [hza], by omega, hoa, HXN, HB6⟩, by simp [intOf]; omega⟩
                  | false =>
                    go_wp2_with fail
                    refine ⟨⟨q + 1, acc ||| a, false, by go_num, by first | rfl | simp, by first | rfl | (simp; done) | simp [hza], by omega, hoa, HXN, HB6⟩, by simp [intOf]; omega⟩
                · rw [if_neg hza] at hcd
                  have hzI : (((acc &&& a : Nat) : Int) == 0) = false := by simp [hza]
                  have hXt : X = true := by
                    cases bd with
                    | true => exact HXX.out.1 rfl
                    | false => exact (HXX.out.2 rfl).symm.trans hcd
                  have HXN : Hid (CX L R n st X (q + 1) (acc ||| a) true) := Lib.hid ⟨fun _ => hXt, fun h => by cases h⟩
                  clear hcd hz HCD hXt
                  cases bd with
                  | true =>
                    go_wp2_with fail
                    refine ⟨⟨q + 1, acc ||| a, true, by go_num, by first | rfl | simp, by first | rfl | (simp; done) | simp [hza], by omega, hoa, HXN, HB6⟩, by simp [intOf]; omega⟩
                  | false =>
                    go_wp2_with fail
                    refine ⟨⟨q + 1, acc ||| a, true, by go_num, by first | rfl | simp, by first | rfl | (simp; done) | simp [hza], by omega, hoa, HXN, HB6⟩, by simp [intOf]; omega⟩
              · rw [if_neg hz]
                have hcd := HCD.out
                rw [if_neg hz] at hcd
                have HXN : Hid (CX L R n st X (q + 1) acc bd) := Lib.hid ⟨HXX.out.1, fun h => hcd.symm.trans (HXX.out.2 h)⟩
                clear hcd hz HCD
                go_wp2_with fail
                refine ⟨⟨q + 1, acc, bd, by go_num, rfl, rfl, by omega, hacc, HXN, HB6⟩, by simp [intOf]; omega⟩
            · obtain rfl : q = st.length := by omega
              have hXb : X = bd := by
                cases bd with
                | true => exact HXX.out.1 rfl
                | false =>
                  rw [← HXX.out.2 rfl, List.drop_length]
                  rfl
              have HB9 := Lib.hid (HB.out.trans (HBV.out.mono HB.out.size))
              have HR9 := Lib.hid (Kd.R_below HR.out HBV.out)
              have HK9 := Lib.hid ((HBV.out.block _ (Array.getElem?_eq_some_iff.1 HK.out).1).trans HK.out)
              rw [hXb] at HCS
              clear hXb
              cases bd with
              | true =>
                rw [if_pos rfl] at HCS
                go_wp2_with (at_builtin; refine Kd.R_append KN (w0 := w) w.heap.size rfl (.tmp 71) (.tmp 73) 76 3 (.int .i64 0) 8 rfl Tryd.underlying76 info3 rfl (by decide) (by decide) (.slice A5 xs.length c5) xs k [.int .i64 (k : Nat)] (fun _ => True) (fun _ => False) rfl rfl rfl (fun _ h => h.elim) (fun _ _ => trivial) HR9.out HB9.out HB9.out.size (by omega) ?_; intro v7 w7 hv hb hg hat; have HR7 := Lib.hid hv; have HB7 := Lib.hid hb; have HK7 := Lib.hid (rn_kept HR9.out hg HK9.out); clear hv hb hg hat)
                refine ⟨⟨k + 1, by go_num, by omega, by rw [HCS.out]; exact HR7, HB7, HK7⟩, by simp [intOf]; omega⟩
              | false =>
                rw [if_neg (by decide)] at HCS
                go_wp2_with fail
                refine ⟨⟨k + 1, by go_num, by omega, by rw [HCS.out]; exact HR9, HB9, HK9⟩, by simp [intOf]; omega⟩
    · obtain rfl : k = out.length := by omega
      go_wp2
      go_ret
      exact ⟨⟨_, rfl, HR.out⟩, HB.out⟩
end Go.Proofs.YtjpfalanoifpbaaDoor.X
end

section
set_option linter.unusedVariables false
set_option linter.unusedSimpArgs false
namespace Go.Proofs.YtjpfalanoifpbaaDoor.X
open Go.RowKit Go.Proofs.YtjpfalanoifpbaaDoorW.PrintWords Go.Proofs.YtjpfalanoifpbaaDoorW.PrintLast Go.Proofs.YtjpfalanoifpbaaDoorW.PrintMore Go.Proofs.YtjpfalanoifpbaaDoor.T
set_option maxHeartbeats 4000000 in
set_option maxRecDepth 100000 in
theorem rGo_calls (A : Option Addr) (n c : Nat) (L : Nat → Int) (R : Nat → ByteArray) (A1 : Option Addr) (c1 : Nat) (out : List (List It)) (i : Nat) (z : Int) (st : List It) (w : World) (hA : Sr w A n c L R) (hg : Gr L R n) (hS : StR w A1 out.length c1 out) (hso : StaI L R n out out.length) (hi : out[i]? = some st) (hz : z ∈ lets) :
    Calls Tryd.prog 54 #[.slice A n c, .slice A1 out.length c1, .int .i64 (i : Nat), .int .u8 z] w fun e w' => ((nxt L R n st z = [] ∧ e = .returned (.tuple #[.int .i64 0, .int .i64 4])) ∨ (nxt L R n st z ≠ [] ∧ e = .returned (.tuple #[.int .i64 (leadsTo L R n out st z : Nat), .int .i64 0]))) ∧ Below w.heap.size w w' := by
  have hn8 := hg.n8
  have hol := hso.le
  have hlt := (List.getElem?_eq_some_iff.1 hi).1
  have hfs := hso.fits st (List.mem_of_getElem? hi)
  have hsl := state_len (L := L) (R := R) hg.sz hn8 hfs
  have HOK := Lib.hid (ovr_ok (L := L) (R := R) (n := n) hg.sz hfs.2 (lets_pos hz))
  have hovl := state_len (L := L) (R := R) hg.sz hn8 HOK.out
  have HLE := Lib.hid (sta_len (L := L) (R := R) (n := n) hg.sz hn8 hso)
  have HMEM := Lib.hid (fun q => hso.rch.2 i hlt st hi z hz q)
  obtain ⟨bS, oS, rfl, hnS, hcS⟩ := hS.open (by omega)
  have HS := Lib.hid hS
  obtain ⟨A', c', s0, hI⟩ := hcS i st hi
  obtain ⟨r, hr⟩ : ∃ r : Bool, r = true ↔ nxt L R n st z ≠ [] := ⟨decide (nxt L R n st z ≠ []), by simp⟩
  have HR := Lib.hid hr
  have HO := Lib.hid (over_calls A n c L R A' c' st z w hA hg hI (by omega) hfs.2 (lets_pos hz) r hr)
  have hic : i < c1 := by omega
  have hiI : (i : Int) < (out.length : Int) := by omega
  clear hA hg hS hso hi hz hcS hI hr hfs
  go_enter Tryd.func54, Tryd.ntmps54
  go_wp2_with fail
  refine HO.out.mono ?_
  rintro e w1 ⟨⟨v, rfl, hv⟩, hb1⟩
  have HB := Lib.hid hb1
  obtain ⟨A5, c5, rfl, hI5⟩ := ki_read hv
  have HS1 := Lib.hid (HS.out.later hb1)
  have HI5 := Lib.hid hI5
  clear hb1 hv hI5 HS HO s0
  obtain ⟨ov, hov⟩ : ∃ ov, ovr L R n st z = ov := ⟨_, rfl⟩
  rw [hov] at hovl HMEM HI5 HOK ⊢
  have HOV := Lib.hid hov
  clear hov
  cases r with
  | false =>
    have HN : Hid (nxt L R n st z = []) := Lib.hid (Classical.byContradiction fun q => by have := HR.out.2 q; cases this)
    go_wp2
    go_ret2
    exact ⟨.inl ⟨HN.out, rfl⟩, HB.out⟩
  | true =>
    have HN := Lib.hid (HR.out.1 rfl)
    go_wp2_with fail
    refine (find_calls HS1.out (by omega) HLE.out HI5.out (by omega)).mono ?_
    rintro e w2 ⟨⟨r', rfl, hf⟩, hb2⟩
    have HB2 := Lib.hid (HB.out.trans (hb2.mono HB.out.size))
    have hlr : r' = (leadsTo L R n out st z : Nat) := by
      rcases hf with ⟨-, hno⟩ | ⟨k', rfl, -, hat, -, hno⟩
      · exact absurd (HMEM.out HN.out) hno
      · rw [fnd_leads (L := L) (R := R) (n := n) (st := st) (c := z) (by rw [HOV.out]; exact hat) (by rw [HOV.out]; exact hno)]
    have HLR := Lib.hid hlr
    clear hlr hf hb2
    go_wp2
    go_ret2
    exact ⟨.inr ⟨HN.out, by rw [← HLR.out]; rfl⟩, HB2.out⟩
theorem lets_iff (x : Int) : x ∈ lets ↔ (isP x || isD x) = true := by
  rw [Bool.or_eq_true, isP_iff, isD_iff]
  simp [lets]
  omega
set_option maxHeartbeats 1000000 in
set_option maxRecDepth 100000 in
theorem letter_calls (x : Int) (w : World) (r : Bool) (hr : r = true ↔ x ∈ lets) : Calls Tryd.prog 51 #[.int .u8 x] w fun e w' => e = .returned (.bool r) ∧ w' = w := by
  have hrr : (isP x || isD x) = r := by
    have := lets_iff x
    cases r <;> cases h : (isP x || isD x) <;> simp_all
  have HRR := Lib.hid hrr
  clear hrr hr
  go_enter Tryd.func51, Tryd.ntmps51
  go_wp2_with fail
  refine (part_calls x w).mono ?_
  rintro e w1 ⟨rfl, rfl⟩
  cases hp : isP x with
  | true =>
    have hr : r = true := by rw [← HRR.out, hp]; rfl
    subst hr
    go_wp2
    go_ret
    exact ⟨rfl, rfl⟩
  | false =>
    have hr : isD x = r := by rw [← HRR.out, hp]; rfl
    have HR2 := Lib.hid hr
    clear hr
    go_wp2_with fail
    refine (word_calls x w1).mono ?_
    rintro e w2 ⟨rfl, rfl⟩
    rw [HR2.out]
    go_wp2
    go_ret
    exact ⟨rfl, rfl⟩
theorem rn_read {w : World} {B : Nat} {ok : Nat → Prop} {v : Value} {l : List Nat} (h : Kd.R KN 3 w B ok v l) : ∃ A c, v = .slice A l.length c ∧ ∀ (i k : Nat), l[i]? = some k → ∃ b off, A = some ⟨b, off, none⟩ ∧ l.length ≤ c ∧ w.cell? ⟨b, off + i, none⟩ = some (.int .i64 (k : Nat)) := by
  obtain ⟨A, c, rfl, hc, hC⟩ := Kd.R_reads h
  refine ⟨A, c, rfl, fun i r hi => ?_⟩
  have hlt := (List.getElem?_eq_some_iff.1 hi).1
  obtain ⟨ad, rfl, hr⟩ := hC.2.2 (by omega)
  obtain ⟨cs, hs, hk, hcell⟩ := hr i _ hi
  have e : cs = [.int .i64 (r : Nat)] := hk
  subst e
  have h0 := hcell 0 _ rfl
  rw [show i * KN.sz + 0 = i from by show i * 1 + 0 = i; omega] at h0
  have hsp : ad.spot = none := by
    have hp : l[0]? = some (l[0]'(by omega)) := List.getElem?_eq_getElem (by omega)
    obtain ⟨cs, hs, hk, hcell⟩ := hr 0 _ hp
    have e : cs = [.int .i64 _] := hk
    subst e
    have := hcell 0 _ rfl
    rw [show ad.add (0 * KN.sz + 0) = ad by simp [Addr.add]] at this
    exact World.cell?_spot this
  have ha : ad.add i = ⟨ad.block, ad.off + i, none⟩ := by
    unfold Addr.add
    by_cases hj : i = 0
    · subst hj
      rw [if_pos rfl, ← hsp]
      simp
    · rw [if_neg hj]
  rw [ha] at h0
  exact ⟨ad.block, ad.off, by rw [← hsp], hc, h0⟩
set_option maxHeartbeats 4000000 in
set_option maxRecDepth 100000 in
theorem eqN_same {B1 B2 : Nat} {v1 v2 : Value} {l : List Nat} {w : World} (h1 : RN B1 w v1 l) (h2 : RN B2 w v2 l) (hl : l.length ≤ 1000) :
    Calls Tryd.prog 52 #[v1, v2] w fun e w' => e = .returned (.bool true) ∧ Below w.heap.size w w' := by
  obtain ⟨A1, c1, rfl, hc1⟩ := rn_read h1
  obtain ⟨A2, c2, rfl, hc2⟩ := rn_read h2
  have H1 := Lib.hid hc1
  have H2 := Lib.hid hc2
  clear h1 h2 hc1 hc2
  go_enter Tryd.func52, Tryd.ntmps52
  go_wp2_with fail
  have HB := Lib.hid (Below.refl w.heap.size w)
  go_loopw [13] (fun i wr => ∃ x : Nat, x ≤ l.length ∧ i = .int .i64 x ∧ Hid (Below w.heap.size w wr)) (fun i _ => l.length - (intOf i).toNat)
  case atStart => exact ⟨0, by omega, rfl, HB⟩
  case round =>
    clear HB
    obtain ⟨x, hx, rfl, HB⟩ := hrel
    by_cases hxl : x < l.length
    · have hxI : (x : Int) < (l.length : Int) := by omega
      obtain ⟨k, hk⟩ : ∃ k, l[x]? = some k := ⟨_, List.getElem?_eq_getElem hxl⟩
      obtain ⟨b1, o1, e1, hm1, f0⟩ := H1.out x k hk
      obtain ⟨b2, o2, e2, hm2, g0⟩ := H2.out x k hk
      subst e1 e2
      have f1 := (HB.out.cell (p := ⟨b1, o1 + x, none⟩) (World.block_lt_of_cell? _ _ f0)).trans f0
      have g1 := (HB.out.cell (p := ⟨b2, o2 + x, none⟩) (World.block_lt_of_cell? _ _ g0)).trans g0
      have hx1 : x < c1 := by omega
      have hx2 : x < c2 := by omega
      clear hk f0 g0
      go_wp2_with fail
      go_quiet (fail)
      have hbq := pw_below_drewN (Below.refl wr.heap.size wr) nq
      have HB3 := Lib.hid (HB.out.trans (hbq.mono HB.out.size))
      clear hbq f1 g1
      generalize wr.drewN nq = w3 at HB3 ⊢
      go_wp2_with fail
      refine ⟨⟨x + 1, by omega, by go_num, HB3⟩, by simp [intOf]; omega⟩
    · obtain rfl : x = l.length := by omega
      go_wp2
      go_ret
      exact ⟨rfl, HB.out⟩
end Go.Proofs.YtjpfalanoifpbaaDoor.X
end

section
set_option linter.unusedVariables false
set_option linter.unusedSimpArgs false
namespace Go.Proofs.YtjpfalanoifpbaaDoor.X
open Go.RowKit Go.Proofs.YtjpfalanoifpbaaDoorW.PrintWords Go.Proofs.YtjpfalanoifpbaaDoorW.PrintLast Go.Proofs.YtjpfalanoifpbaaDoorW.PrintMore Go.Proofs.YtjpfalanoifpbaaDoor.T
set_option maxHeartbeats 16000000 in
set_option maxRecDepth 100000 in
theorem Go_law_none (A : Option Addr) (n c : Nat) (L : Nat → Int) (R : Nat → ByteArray) (state letter : Int) (w : World) (hA : Sr w A n c L R) (hn : n ≤ 9223372036854775807) (hR : ∀ k, k < n → (R k).size ≤ 9223372036854775807) (hg : Gram L R n) (hso : stas L R n = none) :
    Calls Tryd.prog 11 #[.slice A n c, .int .i64 state, .int .u8 letter] w fun e w' => e = .returned (.bool true) ∧ Below w.heap.size w w' := by
  have HO := Lib.hid (fun (w : World) (h : Sr w A n c L R) => Of_yes A n c L R w h hn hR hg)
  have HG := Lib.hid (fun (w : World) (h : Sr w A n c L R) => Grammar_calls A n c L R w h hn true (by simp [hg]))
  have HGO := Lib.hid (fun (A' : Option Addr) (c' : Nat) (w : World) h => Go_yes A' n c' L R state letter w h hg)
  have HCF := Lib.hid (fun (A' : Option Addr) (c' : Nat) (w : World) h => Conflicts_yes A' n c' L R w h hg)
  have HRS := Lib.hid (fun (w : World) (h : Sr w A n c L R) => rStates_calls A n c L R w h hg.gr)
  have HA := Lib.hid hA
  have HGR : Hid (Gr L R n) := Lib.hid hg.gr
  have HSO := Lib.hid hso
  have hn8 := hg.1.2
  clear hA hR hg hso
  go_enter Tryd.func11, Tryd.ntmps11
  go_wp2_with fail
  refine (HO.out w HA.out).mono ?_
  rintro e w1 ⟨⟨A1, c1, rfl, hS1⟩, hb1⟩
  have HB1 := Lib.hid hb1
  have HS1 := Lib.hid hS1
  clear hb1 hS1
  go_wp2_with fail
  refine (HGO.out A1 c1 w1 HS1.out).mono ?_
  rintro e w2 ⟨⟨x, err, rfl, hgp⟩, hb2⟩
  have HGP := Lib.hid hgp
  have HB2 := Lib.hid (HB1.out.trans (hb2.mono HB1.out.size))
  clear hb2 HB1 HS1 hgp HGO
  go_wp2_with fail
  refine (HO.out w2 (HA.out.later HB2.out)).mono ?_
  rintro e w3 ⟨⟨A3, c3, rfl, hS3⟩, hb3⟩
  have HB3 := Lib.hid (HB2.out.trans (hb3.mono HB2.out.size))
  have HS3 := Lib.hid hS3
  clear hb3 hS3 HB2 HO
  go_wp2_with fail
  refine (HCF.out A3 c3 w3 HS3.out).mono ?_
  rintro e w4 ⟨h4, hb4⟩
  have HB4 := Lib.hid (HB3.out.trans (hb4.mono HB3.out.size))
  clear hb4 HS3 HCF
  rcases h4 with ⟨v, out, rfl, hI, -⟩ | ⟨-, rfl⟩
  · exact absurd (sta_not hI HSO.out) id
  · go_wp2_with fail
    refine (HG.out w4 (HA.out.later HB4.out)).mono ?_
    rintro e w5 ⟨rfl, hb5⟩
    have HB5 := Lib.hid (HB4.out.trans (hb5.mono HB4.out.size))
    clear hb5 HB3 HB4 HG
    go_wp2_with fail
    refine (HRS.out w5 (HA.out.later HB5.out)).mono ?_
    rintro e w6 ⟨h6, hb6⟩
    have HB6 := Lib.hid (HB5.out.trans (hb6.mono HB5.out.size))
    clear hb6 HB5 HRS
    rcases h6 with ⟨v, out, rfl, hI, -⟩ | ⟨-, rfl⟩
    · exact absurd (sta_not hI HSO.out) id
    · rcases HGP.out with ⟨hnl, rfl, rfl⟩ | ⟨hl, ⟨-, rfl, rfl⟩ | ⟨out, hI, -⟩⟩
      · have HL := Lib.hid (fun w => letter_calls letter w false (by simp [hnl]))
        clear hnl
        go_wp2_with fail
        refine (HL.out w6).mono ?_
        rintro e w7 ⟨rfl, rfl⟩
        go_wp2_with fail
        refine (awake_calls w7).mono ?_
        rintro e w9 ⟨rfl, hb9⟩
        have HB9 := Lib.hid (HB6.out.trans (hb9.mono HB6.out.size))
        clear hb9
        go_wp2
        go_ret
        exact ⟨rfl, HB9.out⟩
      · have HL := Lib.hid (fun w => letter_calls letter w true (by simp [hl]))
        clear hl
        go_wp2_with fail
        refine (HL.out w6).mono ?_
        rintro e w7 ⟨rfl, rfl⟩
        go_wp2_with fail
        refine (awake_calls w7).mono ?_
        rintro e w9 ⟨rfl, hb9⟩
        have HB9 := Lib.hid (HB6.out.trans (hb9.mono HB6.out.size))
        clear hb9
        go_wp2
        go_ret
        exact ⟨rfl, HB9.out⟩
      · exact absurd (sta_not hI HSO.out) id
set_option maxHeartbeats 16000000 in
set_option maxRecDepth 100000 in
theorem Go_law_some (A : Option Addr) (n c : Nat) (L : Nat → Int) (R : Nat → ByteArray) (state letter : Int) (w : World) (hA : Sr w A n c L R) (hn : n ≤ 9223372036854775807) (hR : ∀ k, k < n → (R k).size ≤ 9223372036854775807) (hg : Gram L R n) (out : List (List It)) (hso : StaI L R n out out.length) :
    Calls Tryd.prog 11 #[.slice A n c, .int .i64 state, .int .u8 letter] w fun e w' => e = .returned (.bool true) ∧ Below w.heap.size w w' := by
  have HO := Lib.hid (fun (w : World) (h : Sr w A n c L R) => Of_yes A n c L R w h hn hR hg)
  have HG := Lib.hid (fun (w : World) (h : Sr w A n c L R) => Grammar_calls A n c L R w h hn true (by simp [hg]))
  have HGO := Lib.hid (fun (A' : Option Addr) (c' : Nat) (w : World) h => Go_yes A' n c' L R state letter w h hg)
  have HCF := Lib.hid (fun (A' : Option Addr) (c' : Nat) (w : World) h => Conflicts_yes A' n c' L R w h hg)
  have HRS := Lib.hid (fun (w : World) (h : Sr w A n c L R) => rStates_calls A n c L R w h hg.gr)
  have HA := Lib.hid hA
  have HGR : Hid (Gr L R n) := Lib.hid hg.gr
  have HSO := Lib.hid hso
  have hn8 := hg.1.2
  clear hA hR hg hso
  go_enter Tryd.func11, Tryd.ntmps11
  go_wp2_with fail
  refine (HO.out w HA.out).mono ?_
  rintro e w1 ⟨⟨A1, c1, rfl, hS1⟩, hb1⟩
  have HB1 := Lib.hid hb1
  have HS1 := Lib.hid hS1
  clear hb1 hS1
  go_wp2_with fail
  refine (HGO.out A1 c1 w1 HS1.out).mono ?_
  rintro e w2 ⟨⟨x, err, rfl, hgp⟩, hb2⟩
  have HGP := Lib.hid hgp
  have HB2 := Lib.hid (HB1.out.trans (hb2.mono HB1.out.size))
  clear hb2 HB1 HS1 hgp HGO
  go_wp2_with fail
  refine (HO.out w2 (HA.out.later HB2.out)).mono ?_
  rintro e w3 ⟨⟨A3, c3, rfl, hS3⟩, hb3⟩
  have HB3 := Lib.hid (HB2.out.trans (hb3.mono HB2.out.size))
  have HS3 := Lib.hid hS3
  clear hb3 hS3 HB2 HO
  go_wp2_with fail
  refine (HCF.out A3 c3 w3 HS3.out).mono ?_
  rintro e w4 ⟨h4, hb4⟩
  have HB4 := Lib.hid (HB3.out.trans (hb4.mono HB3.out.size))
  clear hb4 HS3 HCF
  rcases h4 with ⟨v4, out4, rfl, hI4, hV4⟩ | ⟨hno, -⟩
  · obtain rfl := sta_same hI4 HSO.out
    have HV4 := Lib.hid hV4
    obtain ⟨AV, cV, eV⟩ := Kd.R_slice hV4
    subst eV
    clear hI4 hV4
    have hol := HSO.out.le
    go_wp2_with fail
    refine (HG.out w4 (HA.out.later HB4.out)).mono ?_
    rintro e w5 ⟨rfl, hb5⟩
    have HB5 := Lib.hid (HB4.out.trans (hb5.mono HB4.out.size))
    have HV5 := Lib.hid (Kd.R_below HV4.out hb5)
    clear hb5 HB3 HB4 HG HV4
    go_wp2_with fail
    refine (HRS.out w5 (HA.out.later HB5.out)).mono ?_
    rintro e w6 ⟨h6, hb6⟩
    have HB6 := Lib.hid (HB5.out.trans (hb6.mono HB5.out.size))
    have HV6 := Lib.hid (Kd.R_below HV5.out hb6)
    clear hb6 HB5 HRS HV5
    rcases h6 with ⟨v6, out6, rfl, hI6, hR6⟩ | ⟨hno, -⟩
    · obtain rfl := sta_same hI6 HSO.out
      obtain ⟨AS, cS, rfl, hS6⟩ := ks_read hR6
      have HS6 := Lib.hid hS6
      clear hI6 hR6 hS6
      have hcl : (confs L R n out6).length ≤ 1000 := by
        have := confTo_len (L := L) (R := R) (n := n) out6 out6.length
        unfold confs
        omega
      go_wp2_with fail
      refine (rConflicts_calls A n c L R AS cS out6 w6 (HA.out.later HB6.out) HGR.out HS6.out HSO.out).mono ?_
      rintro e w7 ⟨⟨v7, rfl, hv7⟩, hb7⟩
      have HB7 := Lib.hid (HB6.out.trans (hb7.mono HB6.out.size))
      have HV7 := Lib.hid (Kd.R_below HV6.out hb7)
      have HS7 := Lib.hid (HS6.out.later hb7)
      have HW7 := Lib.hid hv7
      obtain ⟨AW, cW, eW⟩ := Kd.R_slice hv7
      subst eW
      clear hb7 hv7 HB6 HV6 HS6
      go_wp2_with fail
      refine (eqN_same HV7.out HW7.out hcl).mono ?_
      rintro e w8 ⟨rfl, hb8⟩
      have HB8 := Lib.hid (HB7.out.trans (hb8.mono HB7.out.size))
      have HS8 := Lib.hid (HS7.out.later hb8)
      clear hb8 HB7 HV7 HS7 HW7
      go_wp2_with fail
      refine (awake_calls w8).mono ?_
      rintro e w9 ⟨rfl, hb9⟩
      have HB9 := Lib.hid (HB8.out.trans (hb9.mono HB8.out.size))
      have HBX := Lib.hid hb9
      clear hb9
      rcases HGP.out with ⟨hnl, rfl, rfl⟩ | ⟨hl, ⟨hno, -⟩ | ⟨out7, hI7, hcs⟩⟩
      · have HL := Lib.hid (fun w => letter_calls letter w false (by simp [hnl]))
        clear hnl
        go_wp2_with fail
        refine (HL.out w9).mono ?_
        rintro e w10 ⟨rfl, rfl⟩
        go_wp2
        go_ret
        exact ⟨rfl, HB9.out⟩
      · exact absurd (sta_not HSO.out hno) id
      · obtain rfl := sta_same hI7 HSO.out
        have HL := Lib.hid (fun w => letter_calls letter w true (by simp [hl]))
        have HLL := Lib.hid hl
        clear hI7 hl
        rcases hcs with ⟨hst, rfl, rfl⟩ | ⟨i, st, rfl, hi, hcs⟩
        · have hcs : state < 0 ∨ (¬ state < 0 ∧ ¬ state < (out7.length : Int)) := by omega
          clear hst
          rcases hcs with hs1 | ⟨hs1, hs2⟩
          · go_wp2_with fail
            refine (HL.out w9).mono ?_
            rintro e w10 ⟨rfl, rfl⟩
            go_wp2
            go_ret
            exact ⟨rfl, HB9.out⟩
          · go_wp2_with fail
            refine (HL.out w9).mono ?_
            rintro e w10 ⟨rfl, rfl⟩
            go_wp2
            go_ret
            exact ⟨rfl, HB9.out⟩
        · have hlt := (List.getElem?_eq_some_iff.1 hi).1
          have hs1 : ¬ (i : Int) < 0 := by omega
          have hs2 : (i : Int) < (out7.length : Int) := by omega
          have HRG := Lib.hid (fun (w : World) (h : Sr w A n c L R) (h2 : StR w AS out7.length cS out7) => rGo_calls A n c L R AS cS out7 i letter st w h HGR.out h2 HSO.out hi HLL.out)
          have HCS := Lib.hid hcs
          clear hi hcs hlt
          go_wp2_with fail
          refine (HL.out w9).mono ?_
          rintro e w10 ⟨rfl, rfl⟩
          go_wp2_with fail
          refine (HRG.out w10 (HA.out.later HB9.out) (HS8.out.later HBX.out)).mono ?_
          rintro e w11 ⟨h11, hb11⟩
          have HB11 := Lib.hid (HB9.out.trans (hb11.mono HB9.out.size))
          clear hb11
          rcases h11 with ⟨hn1, rfl⟩ | ⟨hn1, rfl⟩
          · rcases HCS.out with ⟨-, rfl, rfl⟩ | ⟨hn2, -⟩
            · go_wp2
              go_ret
              exact ⟨rfl, HB11.out⟩
            · exact absurd hn1 hn2
          · rcases HCS.out with ⟨hn2, -⟩ | ⟨-, -, rfl, rfl⟩
            · exact absurd hn2 hn1
            · go_wp2
              go_ret
              exact ⟨rfl, HB11.out⟩
    · exact absurd (sta_not HSO.out hno) id
  · exact absurd (sta_not HSO.out hno) id
set_option maxHeartbeats 16000000 in
set_option maxRecDepth 100000 in
theorem Go_law_no (A : Option Addr) (n c : Nat) (L : Nat → Int) (R : Nat → ByteArray) (state letter : Int) (w : World) (hA : Sr w A n c L R) (hn : n ≤ 9223372036854775807) (hR : ∀ k, k < n → (R k).size ≤ 9223372036854775807) (hg : ¬ Gram L R n) :
    Calls Tryd.prog 11 #[.slice A n c, .int .i64 state, .int .u8 letter] w fun e w' => e = .returned (.bool true) ∧ Below w.heap.size w w' := by
  have HO := Lib.hid (fun (w : World) (h : Sr w A n c L R) => Of_calls A n c L R w h hn hR)
  have HG := Lib.hid (fun (w : World) (h : Sr w A n c L R) => Grammar_calls A n c L R w h hn false (by simp [hg]))
  have hng : ¬ Gram L (fun k => cut12 (R k)) (mnN n 11) := fun q => hg (cut_gram q)
  have h11 := mnN_le n 11
  have HGO := Lib.hid (fun (A' : Option Addr) (c' : Nat) (w : World) h => Go_no A' (mnN n 11) c' L (fun k => cut12 (R k)) state letter w h (by omega) (fun k _ => cut12_1000 _) hng)
  have HCF := Lib.hid (fun (A' : Option Addr) (c' : Nat) (w : World) h => Conflicts_no A' (mnN n 11) c' L (fun k => cut12 (R k)) w h (by omega) (fun k _ => cut12_1000 _) hng)
  have HA := Lib.hid hA
  clear hA hR hg hng h11
  generalize mnN n 11 = m at HO HGO HCF
  go_enter Tryd.func11, Tryd.ntmps11
  go_wp2_with fail
  refine (HO.out w HA.out).mono ?_
  rintro e w1 ⟨⟨A1, c1, rfl, hS1⟩, hb1⟩
  have HB1 := Lib.hid hb1
  have HS1 := Lib.hid hS1
  clear hb1 hS1
  go_wp2_with fail
  refine (HGO.out A1 c1 w1 HS1.out).mono ?_
  rintro e w2 ⟨rfl, hb2⟩
  have HB2 := Lib.hid (HB1.out.trans (hb2.mono HB1.out.size))
  clear hb2 HB1 HS1 HGO
  go_wp2_with fail
  refine (HO.out w2 (HA.out.later HB2.out)).mono ?_
  rintro e w3 ⟨⟨A3, c3, rfl, hS3⟩, hb3⟩
  have HB3 := Lib.hid (HB2.out.trans (hb3.mono HB2.out.size))
  have HS3 := Lib.hid hS3
  clear hb3 hS3 HB2 HO
  go_wp2_with fail
  refine (HCF.out A3 c3 w3 HS3.out).mono ?_
  rintro e w4 ⟨rfl, hb4⟩
  have HB4 := Lib.hid (HB3.out.trans (hb4.mono HB3.out.size))
  clear hb4 HS3 HCF HB3
  go_wp2_with fail
  refine (HG.out w4 (HA.out.later HB4.out)).mono ?_
  rintro e w5 ⟨rfl, hb5⟩
  have HB5 := Lib.hid (HB4.out.trans (hb5.mono HB4.out.size))
  clear hb5 HB4 HG
  go_wp2_with fail
  refine (awake_calls w5).mono ?_
  rintro e w9 ⟨rfl, hb9⟩
  have HB9 := Lib.hid (HB5.out.trans (hb9.mono HB5.out.size))
  clear hb9
  go_wp2
  go_ret
  exact ⟨rfl, HB9.out⟩
theorem TablesGo.calls (A : Option Addr) (n c : Nat) (L : Nat → Int) (R : Nat → ByteArray) (state letter : Int) (w : World) (hA : Sr w A n c L R) (hR : ∀ k, k < n → (R k).size ≤ 9223372036854775807) (hn : n ≤ 9223372036854775807) (hc : c ≤ 9223372036854775807) :
    Calls Tryd.prog 11 #[.slice A n c, .int .i64 state, .int .u8 letter] w fun e w' => e = .returned (.bool true) ∧ Below w.heap.size w w' := by
  by_cases hg : Gram L R n
  · rcases sta_cases L R n hg.gr.sz with h | ⟨out, h⟩
    · exact Go_law_none A n c L R state letter w hA hn hR hg h
    · exact Go_law_some A n c L R state letter w hA hn hR hg out h
  · exact Go_law_no A n c L R state letter w hA hn hR hg
end Go.Proofs.YtjpfalanoifpbaaDoor.X
end
