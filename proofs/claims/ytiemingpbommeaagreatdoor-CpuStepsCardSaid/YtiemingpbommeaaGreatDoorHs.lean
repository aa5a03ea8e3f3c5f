/- The document's Get and Extend answer as the program's. -/
import Derived.Test.YtiemingpbommeaaGreatDoorGc
import Derived.Test.YtiemingpbommeaaGreatDoorHg
namespace Go.Proofs.YtiemingpbommeaaGreatDoor
open Go Go.RowKit
noncomputable section
set_option linter.unusedVariables false
set_option linter.unusedSimpArgs false
set_option maxHeartbeats 4000000 in
set_option maxRecDepth 100000 in
theorem refGet_any (l : List UInt8) (w : World) (h8 : l.length ≤ 8) :
    Calls Tryz.prog 87 #[.string ⟨l.toArray⟩] w fun e w' => e = .returned (.int .u64 (getL l)) ∧ ∃ m, w' = w.drewN m := by
  have hsz : (⟨l.toArray⟩ : ByteArray).size = l.length := by simp [ByteArray.size]
  go_enter Tryz.func87, Tryz.ntmps87
  go_wp2_with fail
  go_loopw [3, 4] (fun v i wr => ∃ (k : Nat) (n : Nat), k ≤ l.length ∧ i = .int .i64 k ∧ v = .int .u64 n ∧ Hid (n = getL (l.drop k)) ∧ n < 18446744073709551616 ∧ wr = w) (fun _ i _ => (intOf i).toNat)
  case atStart => exact ⟨l.length, 0, by omega, rfl, rfl, hid (by simp [getL]), by omega, rfl⟩
  case round =>
    obtain ⟨k, n, hk, rfl, rfl, Hn, hlt, rfl⟩ := hrel
    by_cases h0 : 0 < k
    · have h56 : n < 72057594037927936 := by rw [Hn.out]; exact getL_lt56 _ (by simp; omega)
      have hk1 : k - 1 < l.length := by omega
      have Hstep := hid (show l[k - 1].toNat + 256 * n = getL (l.drop (k - 1)) from by
        rw [List.drop_eq_getElem_cons hk1, getL, Hn.out, show k - 1 + 1 = k by omega])
      have hby : (l[k - 1]).toNat < 256 := (l[k - 1]).toNat_lt
      have Hor := hid (show IntKind.u64.wrap (256 * (n : Int) + IntKind.u64.wrap ((l[k - 1]).toNat : Int)) = ((l[k - 1].toNat + 256 * n : Nat) : Int) from by
        have hw : ∀ n : Int, IntKind.u64.wrap n = n % 18446744073709551616 := fun n => by simp [IntKind.wrap, IntKind.bits, IntKind.signed]
        rw [hw, hw]; omega)
      go_wp2_with fail
      go_roundw
      case rel => exact ⟨k - 1, l[k - 1].toNat + 256 * n, by omega, by congr 1; omega, by rw [Value.int.injEq]; exact ⟨rfl, Hor.out⟩, Hstep, by omega, by trivial⟩
      case measure => simp [intOf]; omega
    · obtain rfl : k = 0 := by omega
      have Hv := hid (show (n : Int) = getL l from by rw [Hn.out]; simp)
      go_wp2_with fail
      go_ret
      exact ⟨ret_int Hv.out, 0, rfl⟩
set_option maxHeartbeats 4000000 in
set_option maxRecDepth 100000 in
theorem refExtend_any (n : Nat) (b : Int) (w : World) (hn : n < 18446744073709551616) :
    Calls Tryz.prog 53 #[.int .u64 n, .int .i64 b] w fun e w' => e = .returned (.int .u64 (extendN n b)) ∧ ∃ m, w' = w.drewN m := by
  by_cases h : 1 ≤ b ∧ b ≤ 63
  · obtain ⟨k, rfl⟩ := Int.eq_ofNat_of_zero_le (show 0 ≤ b by omega)
    have Hx := hid (show extendN n (k : Int) = extN n k from by unfold extendN; rw [if_pos h]; rfl)
    obtain ⟨r, hr⟩ : ∃ r, extendN n (k : Int) = r := ⟨_, rfl⟩
    rw [hr] at Hx ⊢
    clear hr
    obtain ⟨h1, h2⟩ := h
    go_enter Tryz.func53, Tryz.ntmps53
    go_wp2_with fail
    go_loopw [5, 6] (fun v i wr => ∃ (j p : Nat), j ≤ k ∧ i = .int .i64 j ∧ v = .int .u64 p ∧ Hid (p = 2 ^ j) ∧ wr = w) (fun _ i _ => k - (intOf i).toNat)
    case atStart => exact ⟨0, 1, by omega, rfl, rfl, hid (by simp), rfl⟩
    case round =>
      obtain ⟨j, p, hj, rfl, rfl, Hp, rfl⟩ := hrel
      by_cases hlt : j < k
      · have hp : p ≤ 4611686018427387904 := by rw [Hp.out]; exact Nat.pow_le_pow_right (n := 2) (by decide) (by omega : j ≤ 62)
        go_wp2_with fail
        go_roundw
        case rel => exact ⟨j + 1, p * 2, by omega, by go_num, by go_num, hid (by rw [Hp.out, Nat.pow_succ]), by trivial⟩
        case measure => simp [intOf]; omega
      · obtain rfl : j = k := by omega
        have hp1 : 2 ≤ p := by rw [Hp.out]; exact Nat.pow_le_pow_right (n := 2) (by decide) (by omega : 1 ≤ j)
        have hp2 : p ≤ 9223372036854775808 := by rw [Hp.out]; exact Nat.pow_le_pow_right (n := 2) (by decide) (by omega : j ≤ 63)
        have hph : 2 ^ (j - 1) = p / 2 := by rw [Hp.out, show j = j - 1 + 1 by omega, Nat.pow_succ]; simp
        have Hv : Hid (r = if n % p < p / 2 then n % p else n % p + (18446744073709551616 - p)) := hid (by rw [Hx.out, extN, ← Hp.out, hph])
        have hmod : n % p < p := Nat.mod_lt _ (by omega)
        have hmi : (n : Int) % (p : Int) = ((n % p : Nat) : Int) := by omega
        have hdi : (p : Int) / 2 = ((p / 2 : Nat) : Int) := by omega
        clear hph Hx Hp
        have hp0 : (p : Int) ≠ 0 := by omega
        by_cases hh : n % p < p / 2
        · have Hv2 : Hid ((n : Int) % (p : Int) = (r : Int)) := hid (by rw [Hv.out, if_pos hh, hmi])
          clear Hv
          generalize n % p = z at *
          generalize p / 2 = ph at *
          go_wp2_with fail
          go_ret
          exact ⟨ret_int Hv2.out, 0, rfl⟩
        · have Hv2 : Hid (IntKind.u64.wrap (((n % p : Nat) : Int) - (p : Int)) = (r : Int)) := hid (by
            have hw : ∀ n : Int, IntKind.u64.wrap n = n % 18446744073709551616 := fun n => by simp [IntKind.wrap, IntKind.bits, IntKind.signed]
            rw [Hv.out, if_neg hh, hw]; omega)
          clear Hv
          generalize n % p = z at *
          generalize p / 2 = ph at *
          go_wp2_with fail
          go_ret
          exact ⟨ret_int Hv2.out, 0, rfl⟩
  · unfold extendN
    rw [if_neg h]
    by_cases h1 : 1 ≤ b
    · go_enter Tryz.func53, Tryz.ntmps53
      go_wp2_with fail
      go_ret
      exact ⟨rfl, 0, rfl⟩
    · go_enter Tryz.func53, Tryz.ntmps53
      go_wp2_with fail
      go_ret
      exact ⟨rfl, 0, rfl⟩
end
end Go.Proofs.YtiemingpbommeaaGreatDoor

/- The document's spaces: may bytes be asked; bytes; a load, a fetch. -/
namespace Go.Proofs.YtiemingpbommeaaGreatDoor
open Go Go.RowKit
noncomputable section
set_option linter.unusedVariables false
set_option linter.unusedSimpArgs false
theorem findI_pg (M : List Pg) (y : Nat) : (findI M y = -1 ∧ pgOf M y = none) ∨ ∃ j, j < M.length ∧ findI M y = j ∧ pgOf M y = some (M.getD j ⟨0, 0, []⟩) := by
  unfold findI pgOf
  cases hf : M.findIdx? (fun g => g.a == y - y % 256) with
  | none =>
    left
    rw [List.findIdx?_eq_none_iff] at hf
    exact ⟨rfl, List.find?_eq_none.2 fun g hg => by simp [hf g hg]⟩
  | some j =>
    right
    rw [List.findIdx?_eq_some_iff_getElem] at hf
    obtain ⟨hj, hp, hno⟩ := hf
    refine ⟨j, hj, rfl, ?_⟩
    rw [List.getD_eq_getElem?_getD, List.getElem?_eq_getElem hj, Option.getD_some, List.find?_eq_some_iff_getElem]
    exact ⟨hp, j, hj, rfl, fun i hi => by simpa using hno i hi⟩
theorem bytesN_succ (M : List Pg) (x k : Nat) : bytesN M x (k + 1) = bytesN M x k ++ [byteN M (adr x k)] := by
  unfold bytesN; rw [List.range_succ, List.map_append]; rfl
theorem bytesN_length (M : List Pg) (x k : Nat) : (bytesN M x k).length = k := by simp [bytesN]
set_option maxHeartbeats 4000000 in
set_option maxRecDepth 100000 in
theorem refMay_any (B : Nat) (sl : Value) (M : List Pg) (q : Int) (x n perm e : Nat) (w : World) (hR : RL B w sl M) (hG : Good M) (hx : x < 18446744073709551616) (hn : n ≤ 65536) (hp : perm < 8) (he : e < 100) :
    Calls Tryz.prog 86 #[.agg #[sl, .int .i64 q], .int .u64 x, .int .i64 n, .int .i64 perm, .int .i64 e] w fun r w' => r = .returned (.tuple #[.int .i64 ((mayN M x n perm e).1 : Nat), .int .u64 ((mayN M x n perm e).2 : Nat)]) ∧ Below w.heap.size w w' := by
  have HR := hid hR
  obtain ⟨p, c, rfl, hml, hc⟩ := hR.parts
  have Hc := hid hc
  have HG := hid hG
  clear hR hc hG
  go_enter Tryz.func86, Tryz.ntmps86
  go_wp2_with fail
  go_loopw [12] (fun i wr => ∃ k : Nat, k ≤ n ∧ i = .int .i64 k ∧ Hid (∀ j, j < k → okAt M perm (adr x j) = true) ∧ Hid (wr.heap[w.heap.size]? = some (.cells #[.slice p M.length c, .int .i64 q] 54 (0, 0))) ∧ Below w.heap.size w wr) (fun i _ => n - (intOf i).toNat)
  case atStart => exact ⟨0, by omega, rfl, hid (fun j hj => by omega), hid (heap_alloc_new _ _), (Below.refl _ _).alloc (Nat.le_refl _) _⟩
  case round =>
    obtain ⟨k, hk, rfl, Hok, Hbox, hb⟩ := hrel
    have b0 : wr.cell? ⟨w.heap.size, 0, none⟩ = some (.slice p M.length c) := by rw [cell_of_row wr _ _ _ _ _ Hbox.out]; rfl
    have b1 : wr.cell? ⟨w.heap.size, 1, none⟩ = some (.int .i64 q) := by rw [cell_of_row wr _ _ _ _ _ Hbox.out]; rfl
    by_cases hlt : k < n
    · have hxk := adr_lt x k
      have Hxk := hid (u64wn x k)
      rcases findI_pg M (adr x k) with ⟨hf, hpn⟩ | ⟨j, hj, hf, hps⟩
      · have Hv : Hid (mayN M x n perm e = (9, adr x k)) := hid (by rw [mayN_some (e := e) hlt Hok.out (by unfold okAt; rw [hpn]), hpn]; rfl)
        have Hf := hid hf
        clear hf hpn
        go_wp2_with fail
        refine (refFind_at B _ M q (adr x k) _ wr (HR.out.below hb) HG.out (adr_lt x k) Hxk.out).mono ?_
        rw [Hf.out]
        rintro e1 w1 ⟨rfl, hb1⟩
        go_wp2_with fail
        go_ret2
        exact ⟨by rw [Hv.out, ← Hxk.out]; rfl, hb.trans (hb1.mono hb.size)⟩
      · obtain ⟨g, rfl, hgl, _, hcs⟩ := Hc.out (by omega)
        obtain ⟨_, cp, _⟩ := hcs j hj
        have hmem : M.getD j ⟨0, 0, []⟩ ∈ M := by rw [List.getD_eq_getElem?_getD, List.getElem?_eq_getElem hj, Option.getD_some]; exact List.getElem_mem hj
        have hgp : (M.getD j ⟨0, 0, []⟩).p < 8 := HG.out.per _ hmem
        have hand := and_nat _ perm hgp hp
        have hoka : okAt M perm (adr x k) = ((M.getD j ⟨0, 0, []⟩).p &&& perm == perm) := by unfold okAt; rw [hps]
        obtain ⟨z, hz⟩ : ∃ z : Nat, (M.getD j ⟨0, 0, []⟩).p &&& perm = z := ⟨_, rfl⟩
        rw [hz] at hand hoka
        have Hf := hid hf
        have Hcp := hid cp
        have Hgl := hid hgl
        by_cases hzp : z = perm
        · have Hoka : Hid (okAt M perm (adr x k) = true) := hid (by rw [hoka, hzp]; simp)
          have hand' : bits BinOp.and IntKind.i64 ((M.getD j ⟨0, 0, []⟩).p : Int) (perm : Int) = (perm : Int) := by rw [hand, hzp]
          clear hf hps hoka hz hand hzp hmem hcs cp hgl
          generalize (M.getD j ⟨0, 0, []⟩).p = gp at *
          go_wp2_with fail
          refine (refFind_at B _ M q (adr x k) _ wr (HR.out.below hb) HG.out (adr_lt x k) Hxk.out).mono ?_
          rw [Hf.out]
          rintro e1 w1 ⟨rfl, hb1⟩
          have HB1 := hid (hb.trans (hb1.mono hb.size))
          have Hbox1 := hid ((hb1.block _ (blk_lt' Hbox.out)).trans Hbox.out)
          have c1 : w1.cell? ⟨g, j * 3 + 1, none⟩ = some (.int .i64 gp) := (HB1.out.cell (p := ⟨g, j * 3 + 1, none⟩) Hgl.out).trans Hcp.out
          have b0 : w1.cell? ⟨w.heap.size, 0, none⟩ = some (.slice (some ⟨g, 0, none⟩) M.length c) := by rw [cell_of_row w1 _ _ _ _ _ Hbox1.out]; rfl
          clear hb1 b1
          go_wp2_with fail
          go_roundw
          case rel => exact ⟨k + 1, by omega, by go_num, hid (fun i hi => by
            by_cases e : i = k
            · subst e; exact Hoka.out
            · exact Hok.out i (by omega)), Hbox1, HB1.out⟩
          case measure => simp [intOf]; omega
        · have Hv : Hid (mayN M x n perm e = (e, adr x k)) := hid (by rw [mayN_some (e := e) hlt Hok.out (by rw [hoka]; simpa using hzp), hps]; rfl)
          have hne : ((z : Int) != (perm : Int)) = true := by rw [bne_iff_ne]; omega
          clear hf hps hoka hz hzp hmem hcs cp hgl
          generalize (M.getD j ⟨0, 0, []⟩).p = gp at *
          go_wp2_with fail
          refine (refFind_at B _ M q (adr x k) _ wr (HR.out.below hb) HG.out (adr_lt x k) Hxk.out).mono ?_
          rw [Hf.out]
          rintro e1 w1 ⟨rfl, hb1⟩
          have HB1 := hid (hb.trans (hb1.mono hb.size))
          have c1 : w1.cell? ⟨g, j * 3 + 1, none⟩ = some (.int .i64 gp) := (HB1.out.cell (p := ⟨g, j * 3 + 1, none⟩) Hgl.out).trans Hcp.out
          have b0 : w1.cell? ⟨w.heap.size, 0, none⟩ = some (.slice (some ⟨g, 0, none⟩) M.length c) := by rw [cell_of_row w1 _ _ _ _ _ ((hb1.block _ (blk_lt' Hbox.out)).trans Hbox.out)]; rfl
          clear hb1 b1
          go_wp2_with fail
          go_ret2
          exact ⟨by rw [Hv.out, ← Hxk.out]; rfl, HB1.out⟩
    · obtain rfl : k = n := by omega
      have Hv := hid (mayN_none (e := e) Hok.out)
      go_wp2_with fail
      go_ret2
      exact ⟨by rw [Hv.out]; rfl, hb⟩
theorem one_more (M : List Pg) (x k z : Nat) (g : Pg) (hp : pgOf M (adr x k) = some g) (hl : g.b.length = 256) (hz : adr x k % 256 = z) :
    (⟨(bytesN M x k).toArray⟩ : ByteArray) ++ (⟨g.b.toArray⟩ : ByteArray).extract z (z + 1) = ⟨(bytesN M x (k + 1)).toArray⟩ := by
  have hz2 : z < g.b.length := by omega
  have hb : byteN M (adr x k) = g.b[z] := by
    unfold byteN
    rw [hp]
    simp only [hz]
    rw [List.getD_eq_getElem?_getD, List.getElem?_eq_getElem hz2, Option.getD_some]
  have h2 : (g.b.drop z).take 1 = [g.b[z]] := by
    rw [List.drop_eq_getElem_cons hz2]
    rfl
  rw [bytesN_succ, hb, ← h2]
  apply ByteArray.ext
  apply Array.ext'
  simp only [ByteArray.data_append, ByteArray.data_extract, Array.toList_append, Array.toList_extract, List.extract_eq_take_drop, Nat.add_sub_cancel_left]
theorem infoPg : (Tryz.prog.info? 135).map (fun x => x.size) = some 3 := by kernel_rfl
theorem page_one (a b : Int) (s : ByteArray) : (#[.int .u64 a, .int .i64 b, .string s] : Array Value).all (fun x => x.oneCell') = true := by simp [Value.oneCell']
set_option maxHeartbeats 4000000 in
set_option maxRecDepth 100000 in
theorem refBytes_any (B : Nat) (sl : Value) (M : List Pg) (q : Int) (x n : Nat) (w : World) (hR : RL B w sl M) (hG : Good M) (hx : x < 18446744073709551616) (hn : n ≤ 65536) (hall : ∀ i, i < n → (pgOf M (adr x i)).isSome = true) :
    Calls Tryz.prog 88 #[.agg #[sl, .int .i64 q], .int .u64 x, .int .i64 n] w fun r w' => r = .returned (.string ⟨(bytesN M x n).toArray⟩) ∧ Below w.heap.size w w' := by
  have HR := hid hR
  obtain ⟨p, c, rfl, hml, hc⟩ := hR.parts
  have Hc := hid hc
  have HG := hid hG
  have Hall := hid hall
  clear hR hc hG hall
  go_enter Tryz.func88, Tryz.ntmps88
  go_wp2_with fail
  go_loopw [7, 8] (fun v i wr => ∃ k : Nat, k ≤ n ∧ i = .int .i64 k ∧ v = .string ⟨(bytesN M x k).toArray⟩ ∧ Hid (wr.heap[w.heap.size]? = some (.cells #[.slice p M.length c, .int .i64 q] 54 (0, 0))) ∧ Below w.heap.size w wr) (fun _ i _ => n - (intOf i).toNat)
  case atStart => exact ⟨0, by omega, rfl, rfl, hid (heap_alloc_new _ _), (Below.refl _ _).alloc (Nat.le_refl _) _⟩
  case round =>
    obtain ⟨k, hk, rfl, rfl, Hbox, hb⟩ := hrel
    by_cases hlt : k < n
    · have hxk := adr_lt x k
      have Hxk := hid (u64wn x k)
      rcases findI_pg M (adr x k) with ⟨hf, hpn⟩ | ⟨j, hj, hf, hps⟩
      · have := Hall.out k hlt
        rw [hpn] at this
        cases this
      obtain ⟨g, rfl, hgl, _, hcs⟩ := Hc.out (by omega)
      obtain ⟨ca, cp, cb⟩ := hcs j hj
      have hmem : M.getD j ⟨0, 0, []⟩ ∈ M := by rw [List.getD_eq_getElem?_getD, List.getElem?_eq_getElem hj, Option.getD_some]; exact List.getElem_mem hj
      have hlen := HG.out.len _ hmem
      have Hf := hid hf
      have Hone := hid (one_more M x k (adr x k % 256) _ hps hlen rfl)
      have hsz : ((⟨(M.getD j ⟨0, 0, []⟩).b.toArray⟩ : ByteArray)).size = 256 := by simpa [ByteArray.size] using hlen
      clear hf hps hmem hcs hlen
      generalize (M.getD j ⟨0, 0, []⟩).p = gp at *
      generalize (M.getD j ⟨0, 0, []⟩).a = ga at *
      generalize (⟨(M.getD j ⟨0, 0, []⟩).b.toArray⟩ : ByteArray) = gs at *
      obtain ⟨y, hy⟩ : ∃ y, adr x k = y := ⟨_, rfl⟩
      rw [hy] at Hxk Hf Hone hxk
      clear hy
      have Hxk2 : Hid (IntKind.u64.wrap ((x : Int) + IntKind.u64.wrap (k : Int)) = (y : Int)) := hid (by rw [show IntKind.u64.wrap (k : Int) = (k : Int) from by simp [IntKind.wrap, IntKind.bits, IntKind.signed]; omega]; exact Hxk.out)
      go_upto_region 5 with (fail)
      go_cut [9] (fun v9 wc => ∃ z, v9 = .pointer (some ⟨z, 0, none⟩) ∧ Hid (wc.heap[z]? = some (.cells #[.int .u64 ga, .int .i64 gp, .string gs] 135 (0, 0))) ∧ Hid (wc.heap[w.heap.size]? = some (.cells #[.slice (some ⟨g, 0, none⟩) M.length c, .int .i64 q] 54 (0, 0))) ∧ Hid (Below w.heap.size w wc))
      case first =>
        refine wp_region_alloc 10 9 (.cells #[.int .u64 0, .int .i64 0, .string ⟨#[]⟩] 135) (by kernel_rfl) (by kernel_rfl) _ rfl rfl (fun a w => by kernel_rfl) ?_
        simp only [List.take_succ_cons, List.take_zero, List.drop_succ_cons, List.drop_zero]
        obtain ⟨D, hD⟩ : ∃ D, wr.drew = D := ⟨_, rfl⟩
        have HBD : Hid (Below w.heap.size w D) := hid (by rw [← hD]; exact hb.drew)
        have NB : Hid (D.heap[w.heap.size]? = some (.cells #[.slice (some ⟨g, 0, none⟩) M.length c, .int .i64 q] 54 (0, 0))) := hid (by rw [← hD]; exact Hbox.out)
        rw [hD]
        clear hD
        have b0 : D.cell? ⟨w.heap.size, 0, none⟩ = some (.slice (some ⟨g, 0, none⟩) M.length c) := by rw [cell_of_row D _ _ _ _ _ NB.out]; rfl
        have b1 : D.cell? ⟨w.heap.size, 1, none⟩ = some (.int .i64 q) := by rw [cell_of_row D _ _ _ _ _ NB.out]; rfl
        have c0 : D.cell? ⟨g, j * 3, none⟩ = some (.int .u64 ga) := (HBD.out.cell (p := ⟨g, j * 3, none⟩) hgl).trans ca
        have c1 : D.cell? ⟨g, j * 3 + 1, none⟩ = some (.int .i64 gp) := (HBD.out.cell (p := ⟨g, j * 3 + 1, none⟩) hgl).trans cp
        have c2 : D.cell? ⟨g, j * 3 + 2, none⟩ = some (.string gs) := (HBD.out.cell (p := ⟨g, j * 3 + 2, none⟩) hgl).trans cb
        have l0 := blk_lt' NB.out
        have l1 : g < D.heap.size := Nat.lt_of_lt_of_le hgl HBD.out.size
        have HRD := hid (HR.out.below HBD.out)
        clear ca cp cb
        iterate 7 (refine mono_val _ rfl (fun u => by first | (go_simp; done) | (go_simp; rfl) | (go_simp; rw [if_pos (by omega)])) ?_; simp only [Act.put, List.setIfInBounds_toArray, List.set_cons_zero, List.set_cons_succ])
        refine mono_call (.int .i64 j) 85 #[.agg #[.slice (some ⟨g, 0, none⟩) M.length c, .int .i64 q], .int .u64 (IntKind.u64.wrap ((x : Int) + IntKind.u64.wrap (k : Int)))] rfl (fun u => by kernel_rfl) (fun u => ((refFind_at B _ M q y _ _ (HRD.out.below (aft_below D u)) HG.out hxk Hxk2.out).mono (by rw [Hf.out]; exact fun e w' h => h))) ?_
        (try simp only [Act.put, List.setIfInBounds_toArray, List.set_cons_zero, List.set_cons_succ])
        iterate 2 (refine mono_val _ rfl (fun u => by first | (go_simp; done) | (go_simp; rfl) | (go_simp; rw [if_pos (by omega)])) ?_; simp only [Act.put, List.setIfInBounds_toArray, List.set_cons_zero, List.set_cons_succ])
        refine mono_nil ?_
        intro G wc hB hG hbk
        simp only [Act.put, List.setIfInBounds_toArray, List.set_cons_zero, List.set_cons_succ]
        have N1 := hid ((hB.block _ (blk_lt' Hbox.out)).trans Hbox.out)
        have HB2 := hid (hb.trans (hB.mono hb.size))
        clear hB b0 b1 c0 c1 c2
        go_wp2_with (refine wpList_store_row rfl 135 (.tmp 9) (.tmp 25) rfl G #[.int .u64 ga, .int .i64 gp, .string gs] rfl rfl 135 _ hbk infoPg rfl (page_one ..) ?_)
        go_meet
        case rel => exact ⟨G, rfl, hid (setRow_heap _ _ _ _ _ _ hbk), hid ((setRow_other _ _ _ _ (by have := blk_lt' Hbox.out; omega)).trans N1.out), hid (below_setRow HB2.out (by have := hb.size; omega) _)⟩
      case rest =>
        obtain ⟨z, rfl, Hz, Hbox2, HB2⟩ := hcut
        have hzl := blk_lt' Hz.out
        have z2 : wc.cell? ⟨z, 2, none⟩ = some (.string gs) := by rw [cell_of_row wc _ _ _ _ _ Hz.out]; rfl
        have hym : (y : Int) % 256 = ((y % 256 : Nat) : Int) := by omega
        have hy2 : y % 256 ≤ 255 := by omega
        have hwx : IntKind.u64.wrap ((x : Int) + (k : Int)) = (y : Int) := Hxk.out
        generalize hym2 : y % 256 = ym at *
        have hsb : (⟨(bytesN M x k).toArray⟩ : ByteArray).size = k := by simp [ByteArray.size, bytesN_length]
        have hse : (gs.extract ym (ym + 1)).size = 1 := by simp; omega
        clear ca cp cb hb Hxk Hxk2
        go_wp2_with fail
        go_roundw
        case rel => exact ⟨k + 1, by omega, by go_num, by rw [← Hone.out], Hbox2, HB2.out⟩
        case measure => simp [intOf]; omega
    · obtain rfl : k = n := by omega
      go_wp2_with fail
      go_ret
      exact ⟨rfl, hb⟩
end
end Go.Proofs.YtiemingpbommeaaGreatDoor
