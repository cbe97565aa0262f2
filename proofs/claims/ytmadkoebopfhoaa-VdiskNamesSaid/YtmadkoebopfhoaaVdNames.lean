/-
  The law VdiskNames: its walk.
-/
import Derived.Test.YtmadkoebopfhoaaVdNamesPure
import Derived.Test.YtmadkoebopfhoaaRegionOne
import Derived.Test.YtmadkoebopfhoaaFrame
import Derived.Laws.Cover1
import Derived.Sort.Walk0
namespace Go.Proofs.Ytmadkoebopfhoaa
open Go.RowKit Go.Maps Go.MapKept Go.ChangeMaps

/-- what holds at the head of the first loop -/
structure NameRel (w wr : World) (bd bi : Nat) (l : List ByteArray) (k : Nat) (N : List ByteArray) : Prop where
  disk : DiskAt wr (bd + 1) bd (nameD N)
  once : MapAt intTy wr bi (onceF N)
  fp : Fp [] w wr
  le : k ≤ l.length
  few : N.length ≤ k
  nodup : N.Nodup
  ok : ∀ s ∈ N, nameOk s = true

/-- .. and of the second -/
structure GoneRel (w wr : World) (bd bi n : Nat) (a : Option Addr) (N ns : List ByteArray) (i : Nat) (M : List ByteArray) : Prop where
  disk : DiskAt wr (bd + 1) bd (nameD M)
  once : MapAt intTy wr bi (onceF N)
  fp : Fp [] w wr
  le : i ≤ ns.length
  left : M.Perm (ns.drop i)
  names : NamesAt wr n a ns

def NameRels (w : World) (bd bi : Nat) (l : List ByteArray) (g : Nat) (v : Value) (wr : World) : Prop :=
  ∃ k N, NameRel w wr bd bi l k N ∧ g + k = l.length ∧ v = .int .i64 k
def GoneRels (w : World) (bd bi n : Nat) (a : Option Addr) (N ns : List ByteArray) (g : Nat) (v : Value) (wr : World) : Prop :=
  ∃ i M, GoneRel w wr bd bi n a N ns i M ∧ g + i = ns.length ∧ v = .int .i64 i

/-- the map's part: what it says of a name -/
theorem once_look {w : World} {bi : Nat} {N : List ByteArray} (h : MapAt intTy w bi (onceF N)) {x : ByteArray} (hx : x.size ≤ maxLen) :
    (x ∈ N → (Instr.lookup 41 (.map (some bi)) (.string x) false).run Try.prog w = .ok (.int .i64 1) w) ∧
    (x ∉ N → (Instr.lookup 41 (.map (some bi)) (.string x) false).run Try.prog w = .ok (.int .i64 0) w) := by
  have h1 : (Instr.lookup 41 (.map (some bi)) (.string x) false).run Try.prog w = .ok (.int .i64 ((mget (onceF N) x).getD 0)) w := h.lookup false hx
  refine ⟨fun h2 => ?_, fun h2 => ?_⟩
  · rw [h1]; unfold onceF; rw [mget_map_in 1 x N h2]; rfl
  · rw [h1]; unfold onceF; rw [mget_map_out 1 h2]; rfl

theorem once_put {w : World} {bi : Nat} {N : List ByteArray} (h : MapAt intTy w bi (onceF N)) {x : ByteArray} (hx : x.size ≤ maxLen) (hn : x ∉ N) :
    ∃ es clock, (Instr.mapUpdate 41 (.map (some bi)) (.string x) (.int .i64 1)).run Try.prog w = .ok () (setBlock w bi (.map es clock)) ∧ MapAt intTy (setBlock w bi (.map es clock)) bi (onceF (N ++ [x])) := by
  obtain ⟨es, clock, h1, h2, _⟩ := h.update (x := x) hx 1
  unfold onceF at h2
  rw [mput_map_new 1 hn] at h2
  exact ⟨es, clock, h1, h2⟩

theorem nodup_few {N : List ByteArray} {l : List ByteArray} {k : Nat} (h1 : N.length ≤ k) (h2 : k ≤ l.length) (h3 : l.length ≤ 40) : N.length < 200 := by omega

set_option maxRecDepth 100000 in
set_option maxHeartbeats 2000000 in
theorem names_walk (hlist : ListGives) (w : World) (a : Option Addr) (len cap : Nat) (l : List ByteArray) (hl : StrsAt w a len l) (hlen : len ≤ maxLen) :
    Calls Try.prog 6 #[.slice a len cap] w fun e w' => e = .returned (.bool true) ∧ Fp [] w w' := by
  unfold maxLen at hlen
  have HLI := Lib.hid hlist
  have HL := Lib.hid hl
  have hll := hl.len
  clear hlist
  by_cases h40 : len ≤ 40
  · have HLL := Lib.hid hll
    have hl40 : l.length ≤ 40 := by omega
    clear hll hl
    go_enter Try.func6, Try.ntmps6
    go_wp2_with (go_at_call 8; refine (shown_any _).mono ?_; rintro e w1 ⟨rfl, hf1⟩)
    refine (new_any 10 w1).mono ?_
    rintro e w2 ⟨rfl, hd2, hf2⟩
    obtain ⟨bd, hbd⟩ : ∃ bd, bd = w1.heap.size := ⟨_, rfl⟩
    rw [← hbd] at hd2 ⊢
    have hnew : w.heap.size ≤ bd := by have := hf1.size; omega
    have HF2 := Lib.hid (hf1.trans hf2 (by simp))
    have hd2' : DiskAt w2 (bd + 1) bd (nameD []) := hd2
    have HD2 := Lib.hid hd2'
    obtain ⟨bi, hbi⟩ : ∃ bi, bi = w2.heap.size := ⟨_, rfl⟩
    have hbi2 : bd + 1 < bi := by rw [hbi]; exact heap_lt hd2.cells
    have hmk : MapAt intTy (w2.alloc (.map #[] 0)) w2.heap.size (onceF []) := MapAt.made intTy w2
    have HMK := Lib.hid hmk
    have HBI := Lib.hid hbi
    have hmm : (Instr.makeMap 41 none).run Try.prog w2 = .ok (.map (some bi)) (w2.alloc (.map #[] 0)) := by rw [hbi]; exact run_makeMap _ _
    clear hd2 hd2' hf1 hf2 hbd hmk hbi
    go_wp2_with (fail)
    clear hmm
    go_loopg [5] l.length (fun g v5 wr => NameRels w bd bi l g v5 wr)
    case atStart =>
      have hmk := HMK.out
      rw [← HBI.out] at hmk
      exact ⟨0, [], ⟨HD2.out.of_fp (Fp.alloc _ _) (by simp) (by simp), hmk, HF2.out.alloc' _, Nat.zero_le _, Nat.zero_le _, List.nodup_nil, by simp⟩, by omega, rfl⟩
    case round =>
      obtain ⟨k, N, hrel, hcount, rfl⟩ := hrel
      have hle := hrel.le
      have hfew := hrel.few
      have HREL := Lib.hid hrel
      have HCO := Lib.hid hcount
      clear hrel hcount
      by_cases hlt : k < l.length
      · rcases HL.out.cells with h0 | ⟨b, o, rfl, hc⟩
        · rw [h0] at hlt; exact absurd hlt (by simp)
        have hcell : wr.cell? ⟨b, o + k, none⟩ = some (.string l[k]) := by
          rw [HREL.out.fp.cell (World.block_lt_of_cell? _ _ (hc k hlt)) (by simp)]
          exact hc k hlt
        have hklen : k < len := by rw [HLL.out]; exact hlt
        obtain ⟨x, hx⟩ : ∃ x, x = l[k] := ⟨_, rfl⟩
        rw [← hx] at hcell
        have hcl : ∀ w', Fp [] w w' → w'.cell? ⟨b, o + k, none⟩ = some (.string x) := fun w' hf => by
          rw [hf.cell (World.block_lt_of_cell? _ _ (hc k hlt)) (by simp), hx]
          exact hc k hlt
        have HCL := Lib.hid hcl
        clear hx hc hcl
        by_cases h2 : x.size ≤ 200
        · have hmx : x.size ≤ maxLen := by unfold maxLen; omega
          have hcr := create_any wr (bd + 1) bd _ x HREL.out.disk (nameOK HREL.out.nodup (by omega)) hmx
          have hgk : l.length - (k + 1) < gk := by have := HCO.out; omega
          have HMX := Lib.hid hmx
          clear hmx
          by_cases hok : nameOk x = true
          · have hok' := hok
            unfold nameOk at hok'
            simp only [decide_eq_true_eq] at hok'
            obtain ⟨s1, s2⟩ := hok'
            have t1 : ¬ (x.size : Int) < 1 := by omega
            have t2 : ¬ (60 : Int) < (x.size : Int) := by omega
            by_cases hin : x ∈ N
            · rw [(name_twice hok hin).1, (name_twice hok hin).2] at hcr
              have HCR := Lib.hid hcr
              have HIN := Lib.hid hin
              clear hcr hin hok
              go_wp2_with (fail)
              refine HCR.out.mono ?_
              rintro e w5 ⟨rfl, hd5, hf5⟩
              have hf := fp_new HREL.out.fp hf5 hnew
              have HF5 := Lib.hid hf
              have hcell5 := HCL.out w5 hf
              have hm5 : MapAt intTy w5 bi (onceF N) := HREL.out.once.of_block (hf5.block bi HREL.out.once.lt (by simp; omega))
              have hlook := (once_look hm5 HMX.out).1 HIN.out
              have HM5 := Lib.hid hm5
              have HD5 := Lib.hid hd5
              clear hd5 hf5 hf hm5 HCR
              go_wp2_with (fail)
              go_roundg (l.length - (k + 1))
              case measure => exact hgk
              case rel => exact ⟨k + 1, N, ⟨HD5.out, HM5.out, HF5.out, hlt, by omega, HREL.out.nodup, HREL.out.ok⟩, by omega, by go_num⟩
            · rw [(name_new hok hin (by omega)).1, (name_new hok hin (by omega)).2] at hcr
              have HCR := Lib.hid hcr
              have HIN := Lib.hid hin
              have HOK := Lib.hid hok
              clear hcr hin hok
              go_wp2_with (fail)
              refine HCR.out.mono ?_
              rintro e w5 ⟨rfl, hd5, hf5⟩
              have hf := fp_new HREL.out.fp hf5 hnew
              have hcell5 := HCL.out w5 hf
              have hm5 : MapAt intTy w5 bi (onceF N) := HREL.out.once.of_block (hf5.block bi HREL.out.once.lt (by simp; omega))
              have hlook := (once_look hm5 HMX.out).2 HIN.out
              obtain ⟨es, clock, hput, hm6⟩ := once_put hm5 HMX.out HIN.out
              have HM6 := Lib.hid hm6
              have hd6 : DiskAt (setBlock w5 bi (.map es clock)) (bd + 1) bd (nameD (N ++ [x])) := hd5.of_fp (Fp.setBlock w5 bi _) (by simp; omega) (by simp; omega)
              have HD6 := Lib.hid hd6
              have hbw : w.heap.size ≤ bi := by omega
              have HF6 := Lib.hid ((hf.setBlock' (Or.inr hbw) (.map es clock)))
              clear hd5 hf5 hf hm5 HCR hm6 hd6 hbw
              go_wp2_with (fail)
              go_roundg (l.length - (k + 1))
              case measure => exact hgk
              case rel =>
                refine ⟨k + 1, N ++ [x], ⟨HD6.out, HM6.out, HF6.out, hlt, by simp; omega, ?_, ?_⟩, by omega, by go_num⟩
                · rw [List.nodup_append]
                  refine ⟨HREL.out.nodup, by simp, ?_⟩
                  intro s hs t ht e
                  rw [List.mem_singleton] at ht
                  exact HIN.out (by rw [← ht, ← e]; exact hs)
                · intro s hs
                  rcases List.mem_append.1 hs with hs | hs
                  · exact HREL.out.ok s hs
                  · rw [List.mem_singleton] at hs; rw [hs]; exact HOK.out
          · have hok' : nameOk x = false := by simpa using hok
            rw [(name_bad hok').1, (name_bad hok').2] at hcr
            unfold nameOk at hok'
            simp only [decide_eq_false_iff_not] at hok'
            have HCR := Lib.hid hcr
            clear hcr hok
            by_cases s1 : x.size < 1
            · clear hok'
              have t1 : (x.size : Int) < 1 := by omega
              go_wp2_with (fail)
              refine HCR.out.mono ?_
              rintro e w5 ⟨rfl, hd5, hf5⟩
              have hf := fp_new HREL.out.fp hf5 hnew
              have HF5 := Lib.hid hf
              have hcell5 := HCL.out w5 hf
              have hm5 : MapAt intTy w5 bi (onceF N) := HREL.out.once.of_block (hf5.block bi HREL.out.once.lt (by simp; omega))
              have HM5 := Lib.hid hm5
              have HD5 := Lib.hid hd5
              clear hd5 hf5 hf hm5 HCR
              go_wp2_with (fail)
              go_roundg (l.length - (k + 1))
              case measure => exact hgk
              case rel => exact ⟨k + 1, N, ⟨HD5.out, HM5.out, HF5.out, hlt, by omega, HREL.out.nodup, HREL.out.ok⟩, by omega, by go_num⟩
            · have t1 : ¬ (x.size : Int) < 1 := by omega
              have t2 : (60 : Int) < (x.size : Int) := by omega
              clear hok'
              go_wp2_with (fail)
              refine HCR.out.mono ?_
              rintro e w5 ⟨rfl, hd5, hf5⟩
              have hf := fp_new HREL.out.fp hf5 hnew
              have HF5 := Lib.hid hf
              have hcell5 := HCL.out w5 hf
              have hm5 : MapAt intTy w5 bi (onceF N) := HREL.out.once.of_block (hf5.block bi HREL.out.once.lt (by simp; omega))
              have HM5 := Lib.hid hm5
              have HD5 := Lib.hid hd5
              clear hd5 hf5 hf hm5 HCR
              go_wp2_with (fail)
              go_roundg (l.length - (k + 1))
              case measure => exact hgk
              case rel => exact ⟨k + 1, N, ⟨HD5.out, HM5.out, HF5.out, hlt, by omega, HREL.out.nodup, HREL.out.ok⟩, by omega, by go_num⟩
        · go_wp2_with (go_at_call 8; refine (shown_any _).mono ?_; rintro e w5 ⟨rfl, hf5⟩)
          go_ret
          exact ⟨rfl, HREL.out.fp.trans hf5 (by simp)⟩
      · have hklen : ¬ k < len := by rw [HLL.out]; exact hlt
        have hli := HLI.out wr (bd + 1) bd _ HREL.out.disk (nameOK HREL.out.nodup (by omega))
        have HLL2 := Lib.hid hli
        clear hli
        go_wp2_with (fail)
        refine HLL2.out.mono ?_
        rintro e w7 ⟨a7, c7, ns, rfl, hns, hat, hf7⟩
        obtain ⟨n, hn⟩ : ∃ n, n = wr.heap.size := ⟨_, rfl⟩
        rw [← hn] at hat
        have hbn : bd + 1 < n := by rw [hn]; exact heap_lt HREL.out.disk.cells
        have hperm := list_names hns
        have hns40 : ns.length ≤ 40 := by rw [hperm.length_eq]; omega
        have hnd : ns.Nodup := hperm.nodup_iff.2 HREL.out.nodup
        have HPERM := Lib.hid hperm
        have HRISE := Lib.hid hns.rise
        have HND := Lib.hid hnd
        have hok : ∀ s ∈ ns, nameOk s = true := fun s hs => HREL.out.ok s (hperm.mem_iff.1 hs)
        have HOK := Lib.hid hok
        have h0 : GoneRel w w7 bd bi n a7 N ns 0 N :=
          ⟨HREL.out.disk.of_fp hf7 (by simp) (by simp), HREL.out.once.of_block (hf7.block bi HREL.out.once.lt (by simp)), HREL.out.fp.trans hf7 (by simp), Nat.zero_le _, hperm.symm, hat⟩
        have H0 := Lib.hid h0
        have HNN := Lib.hid HREL.out.nodup
        clear hn hns hat hf7 hperm hnd hok h0 HLL2
        go_wp2_with (fail)
        go_loopg [9] ns.length (fun g v9 wr => GoneRels w bd bi n a7 N ns g v9 wr)
        case atStart => exact ⟨0, N, H0.out, by omega, rfl⟩
        case round =>
          obtain ⟨i, M, hrel, hcount, rfl⟩ := hrel
          have hle := hrel.le
          have HREL := Lib.hid hrel
          have HCO := Lib.hid hcount
          clear hrel hcount
          by_cases hlt : i < ns.length
          · rcases HREL.out.names with h0 | ⟨g, rfl, hg, hglt, hc⟩
            · rw [h0] at hlt; exact absurd hlt (by simp)
            have hgk : ns.length - (i + 1) < gk := by have := HCO.out; omega
            obtain ⟨M2, hM2⟩ : ∃ M2, M2 = M.filter (fun s => decide (s ≠ ns[i])) := ⟨_, rfl⟩
            have hp2 : M2.Perm (ns.drop (i + 1)) := by rw [hM2]; exact gone_first HREL.out.left hlt HND.out
            have hin : ns[i] ∈ M := first_in HREL.out.left hlt
            have hinN : ns[i] ∈ N := HPERM.out.mem_iff.1 (List.getElem_mem hlt)
            have hokx : nameOk ns[i] = true := HOK.out _ (List.getElem_mem hlt)
            have hprev : ∀ (p : Nat) (hp : p < i), ns[p].data.toList < ns[i].data.toList := fun p hp => List.pairwise_iff_getElem.1 HRISE.out p i (by omega) hlt hp
            have hMnd : M.Nodup := HREL.out.left.nodup_iff.2 (HND.out.sublist (List.drop_sublist i ns))
            have hMl : M.length ≤ 200 := by rw [HREL.out.left.length_eq]; simp; omega
            obtain ⟨x, hx⟩ : ∃ x, x = ns[i] := ⟨_, rfl⟩
            rw [← hx] at hin hinN hokx hprev hM2
            have hmx : x.size ≤ maxLen := by
              have := hokx
              unfold nameOk at this
              simp only [decide_eq_true_eq] at this
              unfold maxLen; omega
            have hdel : ∀ w', DiskAt w' (bd + 1) bd (nameD M) → Calls Try.prog 21 #[.pointer (some ⟨bd + 1, 0, none⟩), .string x] w' fun e w2 => e = .returned (.int .i64 0) ∧ DiskAt w2 (bd + 1) bd (nameD M2) ∧ Fp [bd + 1, bd] w' w2 := by
              intro w' hd
              have h := delete_any w' (bd + 1) bd _ x hd (nameOK hMnd hMl) hmx
              rw [(name_delete hokx hin).1, (name_delete hokx hin).2, ← hM2] at h
              exact h
            have hcells : ∀ (j : Nat) (hj : j < ns.length) (w' : World), Fp [bd + 1, bd] wr w' → w'.cell? ⟨g, j, none⟩ = some (.string ns[j]) := by
              intro j hj w' hf
              rw [hf.cell (by exact hglt) (by simp; omega)]
              exact hc j hj
            have hnc : ∀ w', Fp [bd + 1, bd] wr w' → w'.cell? ⟨g, i, none⟩ = some (.string x) := by
              rw [hx]; exact hcells i hlt
            have hlk : ∀ w', Fp [bd + 1, bd] wr w' → (Instr.lookup 41 (.map (some bi)) (.string x) false).run Try.prog w' = .ok (.int .i64 1) w' := by
              intro w' hf
              exact (once_look (HREL.out.once.of_block (hf.block bi HREL.out.once.lt (by simp; omega))) hmx).1 hinN
            have HNC := Lib.hid hnc
            have HIN := Lib.hid hlk
            have HDEL := Lib.hid hdel
            have HP2 := Lib.hid hp2
            have HD := Lib.hid HREL.out.disk
            have HCELLS := Lib.hid hcells
            have HPREV := Lib.hid hprev
            have hltI : (i : Int) < (ns.length : Int) := by omega
            clear hM2 hp2 hin hinN hokx hprev hMnd hMl hmx hdel hcells hnc hlk hc hx
            by_cases hi0 : i = 0
            · subst hi0
              go_wp2_with (fail)
              refine wp_region_one (fun b w' => Fp [bd + 1, bd] wr w' ∧ if b then DiskAt w' (bd + 1) bd (nameD M2) else DiskAt w' (bd + 1) bd (nameD M)) (fun _ _ => True) 29 (by decide) (by kernel_rfl) (by kernel_rfl) ⟨Fp.drew' (Fp.refl _ _), HD.out.of_fp (Fp.drew wr) (by simp) (by simp)⟩ ?_
              -- 0: Op.move t4 
              apply on_plain rfl rfl rfl rfl
              · intro b a w hC hA K hK
                have h4 := hA.free 4 _ (by kernel_rfl) rfl
                simp only [Oper.wp, execOp]; go_simp
                exact hK _ hC trivial
              -- 1: Op.move t8 
              apply on_plain rfl rfl rfl rfl
              · intro b a w hC hA K hK
                have h8 := hA.free 8 _ (by kernel_rfl) rfl
                simp only [Oper.wp, execOp]; go_simp
                exact hK _ hC trivial
              -- 2: Op.move t9 
              apply on_plain rfl rfl rfl rfl
              · intro b a w hC hA K hK
                have h9 := hA.free 9 _ (by kernel_rfl) rfl
                simp only [Oper.wp, execOp]; go_simp
                exact hK _ hC trivial
              -- 3: Op.indexAddr 22 t85 t86 
              apply on_plain rfl rfl rfl rfl
              · intro b a w hC hA K hK
                have h85 : a.tmps[85]?.getD undef = _ := hA.dep 1 85 _ (by kernel_rfl) rfl
                have h86 : a.tmps[86]?.getD undef = _ := hA.dep 2 86 _ (by kernel_rfl) rfl
                simp only [Oper.wp, execOp]; go_simp
                exact hK _ hC trivial
              -- 4: Op.load 9 t87 
              apply on_plain rfl rfl rfl rfl
              · intro b a w hC hA K hK
                have h87 : a.tmps[87]?.getD undef = _ := hA.dep 3 87 _ (by kernel_rfl) rfl
                have f1 := HNC.out w hC.1
                have f2 := HIN.out w hC.1
                simp only [Oper.wp, execOp]; go_simp
                exact hK _ hC trivial
              -- 5: Op.lookup 41 t84 t88 false 
              apply on_plain rfl rfl rfl rfl
              · intro b a w hC hA K hK
                have h84 : a.tmps[84]?.getD undef = _ := hA.dep 0 84 _ (by kernel_rfl) rfl
                have h88 : a.tmps[88]?.getD undef = _ := hA.dep 4 88 _ (by kernel_rfl) rfl
                have f1 := HNC.out w hC.1
                have f2 := HIN.out w hC.1
                simp only [Oper.wp, execOp]; go_simp
                exact hK _ hC trivial
              -- 6: Op.binOp BinOp.neq 3 t89 (const (1:i64)) 3 
              apply on_plain rfl rfl rfl rfl
              · intro b a w hC hA K hK
                have h89 : a.tmps[89]?.getD undef = _ := hA.dep 5 89 _ (by kernel_rfl) rfl
                simp only [Oper.wp, execOp]; go_simp
                exact hK _ hC trivial
              -- 7: Op.move t90 
              apply on_plain rfl rfl rfl rfl
              · intro b a w hC hA K hK
                have h90 : a.tmps[90]?.getD undef = _ := hA.dep 6 90 _ (by kernel_rfl) rfl
                simp only [Oper.wp, execOp]; go_simp
                exact hK _ hC trivial
              -- 8: Op.move t9 (7, 'false')
              apply on_yes 7 91 rfl rfl rfl rfl rfl (by kernel_rfl) rfl rfl
              · intro b a w hC hA K hK
                have h9 := hA.free 9 _ (by kernel_rfl) rfl
                simp only [Oper.wp, execOp]; go_simp
                exact hK _ hC trivial
              -- 9: Op.binOp BinOp.gtr 3 t92 (const (0:i64)) 3 (7, 'false')
              apply on_yes 7 91 rfl rfl rfl rfl rfl (by kernel_rfl) rfl rfl
              · intro b a w hC hA K hK
                have h92 : a.tmps[92]?.getD undef = _ := hA.dep 8 92 _ (by kernel_rfl) rfl
                simp only [Oper.wp, execOp]; go_simp
                exact hK _ hC trivial
              -- 10: Op.move t93 (7, 'false')
              apply on_yes 7 91 rfl rfl rfl rfl rfl (by kernel_rfl) rfl rfl
              · intro b a w hC hA K hK
                have h93 : a.tmps[93]?.getD undef = _ := hA.dep 9 93 _ (by kernel_rfl) rfl
                simp only [Oper.wp, execOp]; go_simp
                exact hK _ hC trivial
              -- 11: Op.move t8 (10, 'true')
              apply on_no 10 94 rfl rfl rfl rfl rfl (by kernel_rfl) rfl rfl
              -- 12: Op.move t9 (10, 'true')
              apply on_no 10 94 rfl rfl rfl rfl rfl (by kernel_rfl) rfl rfl
              -- 13: Op.binOp BinOp.sub 3 t96 (const (1:i64)) 3 (10, 'true')
              apply on_no 10 94 rfl rfl rfl rfl rfl (by kernel_rfl) rfl rfl
              -- 14: Op.indexAddr 22 t95 t97 (10, 'true')
              apply on_no 10 94 rfl rfl rfl rfl rfl (by kernel_rfl) rfl rfl
              -- 15: Op.load 9 t98 (10, 'true')
              apply on_no 10 94 rfl rfl rfl rfl rfl (by kernel_rfl) rfl rfl
              -- 16: Op.move t8 (10, 'true')
              apply on_no 10 94 rfl rfl rfl rfl rfl (by kernel_rfl) rfl rfl
              -- 17: Op.move t9 (10, 'true')
              apply on_no 10 94 rfl rfl rfl rfl rfl (by kernel_rfl) rfl rfl
              -- 18: Op.indexAddr 22 t100 t101 (10, 'true')
              apply on_no 10 94 rfl rfl rfl rfl rfl (by kernel_rfl) rfl rfl
              -- 19: Op.load 9 t102 (10, 'true')
              apply on_no 10 94 rfl rfl rfl rfl rfl (by kernel_rfl) rfl rfl
              -- 20: Op.binOp BinOp.geq 9 t99 t103 9 (10, 'true')
              apply on_no 10 94 rfl rfl rfl rfl rfl (by kernel_rfl) rfl rfl
              -- 21: Op.pick t94 t104 (const (Value.bool false)) (7, 'false')
              apply on_yes 7 91 rfl rfl rfl rfl rfl (by kernel_rfl) rfl rfl
              · intro b a w hC hA K hK
                have h94 : a.tmps[94]?.getD undef = _ := hA.dep 10 94 _ (by kernel_rfl) rfl
                have h104 : a.tmps[104]?.getD undef = _ := hA.dep 20 104 _ (by kernel_rfl) rfl
                simp only [Oper.wp, execOp]; go_simp
                exact hK _ hC trivial
              -- 22: Op.pick t91 (const (Value.bool true)) t105 
              apply on_plain rfl rfl rfl rfl
              · intro b a w hC hA K hK
                have h91 : a.tmps[91]?.getD undef = _ := hA.dep 7 91 _ (by kernel_rfl) rfl
                have h105 : a.tmps[105]?.getD undef = _ := hA.dep 21 105 _ (by kernel_rfl) rfl
                simp only [Oper.wp, execOp]; go_simp
                exact hK _ hC trivial
              -- 23: Op.move t106 
              apply on_plain rfl rfl rfl rfl
              · intro b a w hC hA K hK
                have h106 : a.tmps[106]?.getD undef = _ := hA.dep 22 106 _ (by kernel_rfl) rfl
                simp only [Oper.wp, execOp]; go_simp
                exact hK _ hC trivial
              -- 24: Op.move t3 (23, 'false')
              apply on_yes 23 107 rfl rfl rfl rfl rfl (by kernel_rfl) rfl rfl
              · intro b a w hC hA K hK
                have h3 := hA.free 3 _ (by kernel_rfl) rfl
                simp only [Oper.wp, execOp]; go_simp
                exact hK _ hC trivial
              -- 25: Op.move t8 (23, 'false')
              apply on_yes 23 107 rfl rfl rfl rfl rfl (by kernel_rfl) rfl rfl
              · intro b a w hC hA K hK
                have h8 := hA.free 8 _ (by kernel_rfl) rfl
                simp only [Oper.wp, execOp]; go_simp
                exact hK _ hC trivial
              -- 26: Op.move t9 (23, 'false')
              apply on_yes 23 107 rfl rfl rfl rfl rfl (by kernel_rfl) rfl rfl
              · intro b a w hC hA K hK
                have h9 := hA.free 9 _ (by kernel_rfl) rfl
                simp only [Oper.wp, execOp]; go_simp
                exact hK _ hC trivial
              -- 27: Op.indexAddr 22 t109 t110 (23, 'false')
              apply on_yes 23 107 rfl rfl rfl rfl rfl (by kernel_rfl) rfl rfl
              · intro b a w hC hA K hK
                have h109 : a.tmps[109]?.getD undef = _ := hA.dep 25 109 _ (by kernel_rfl) rfl
                have h110 : a.tmps[110]?.getD undef = _ := hA.dep 26 110 _ (by kernel_rfl) rfl
                simp only [Oper.wp, execOp]; go_simp
                exact hK _ hC trivial
              -- 28: Op.load 9 t111 (23, 'false')
              apply on_yes 23 107 rfl rfl rfl rfl rfl (by kernel_rfl) rfl rfl
              · intro b a w hC hA K hK
                have h111 : a.tmps[111]?.getD undef = _ := hA.dep 27 111 _ (by kernel_rfl) rfl
                have f1 := HNC.out w hC.1
                have f2 := HIN.out w hC.1
                simp only [Oper.wp, execOp]; go_simp
                exact hK _ hC trivial
              -- 29: Op.call { CALL, args := #[t108, t112], argTypes := #[24, 9] } (23, 'false')
              apply on_turn 23 107 rfl rfl rfl rfl rfl (by kernel_rfl) rfl rfl
              · intro a w hC hA K hK
                have h108 : a.tmps[108]?.getD undef = _ := hA.dep 24 108 _ (by kernel_rfl) rfl
                have h112 : a.tmps[112]?.getD undef = _ := hA.dep 28 112 _ (by kernel_rfl) rfl
                simp only [Oper.wp, execOp]; go_simp
                refine (HDEL.out w hC.2).mono ?_
                rintro e w2 ⟨rfl, hd2, hf2⟩
                exact hK _ ⟨hC.1.trans hf2 (by simp), hd2⟩ trivial
              -- 30: Op.binOp BinOp.neq 26 t113 (const (0:i64)) 26 (23, 'false')
              apply on_yes 23 107 rfl rfl rfl rfl rfl (by kernel_rfl) rfl rfl
              · intro b a w hC hA K hK
                have h113 : a.tmps[113]?.getD undef = _ := hA.dep 29 113 _ (by kernel_rfl) rfl
                simp only [Oper.wp, execOp]; go_simp
                exact hK _ hC trivial
              -- 31: Op.pick t107 (const (Value.bool true)) t114 
              apply on_plain rfl rfl rfl rfl
              · intro b a w hC hA K hK
                have h107 : a.tmps[107]?.getD undef = _ := hA.dep 23 107 _ (by kernel_rfl) rfl
                have h114 : a.tmps[114]?.getD undef = _ := hA.dep 30 114 _ (by kernel_rfl) rfl
                simp only [Oper.wp, execOp]; go_simp
                exact hK _ hC trivial
              refine ⟨fun b => ?_, ?_⟩
              · repeat (first | exact trivial | refine stab_val _ ?_)
              · intro w' hC
                simp only [List.reverse_cons, List.reverse_nil, List.nil_append, List.cons_append]
                repeat (refine all_val ?_)
                refine all_nil ?_
                simp only [putAll, Act.put, List.setIfInBounds_toArray, List.set_cons_succ, List.set_cons_zero]
                have hf := fp_new HREL.out.fp hC.1 hnew
                have HF := Lib.hid hf
                have HD8 := Lib.hid hC.2
                have hm8 : MapAt intTy w' bi (onceF N) := HREL.out.once.of_block (hC.1.block bi HREL.out.once.lt (by simp; omega))
                have HM8 := Lib.hid hm8
                have hat8 := HREL.out.names.fp hC.1 (by simp; omega)
                have HAT8 := Lib.hid hat8
                clear hC hf hm8 hat8
                go_wp2_with (fail)
                go_roundg (ns.length - (0 + 1))
                case measure => exact hgk
                case rel => exact ⟨0 + 1, M2, ⟨HD8.out, HM8.out, HF.out, hlt, HP2.out, HAT8.out⟩, by omega, by go_num⟩
            · obtain ⟨p, rfl⟩ : ∃ p, i = p + 1 := ⟨i - 1, by omega⟩
              have hpp := HPREV.out p (by omega)
              obtain ⟨y, hy⟩ : ∃ y, y = ns[p] := ⟨_, rfl⟩
              rw [← hy] at hpp
              have hny : ∀ w', Fp [bd + 1, bd] wr w' → w'.cell? ⟨g, p, none⟩ = some (.string y) := by
                rw [hy]; exact HCELLS.out p (by omega)
              have HNY := Lib.hid hny
              have hless : Op.bytesLess y.toList x.toList = true := by
                rw [bytesLess_eq, ByteArray.toList_eq, ByteArray.toList_eq]; simpa using hpp
              have hpos : (0 : Int) < ((p + 1 : Nat) : Int) := by omega
              have hpm : ((p + 1 : Nat) : Int) - 1 = (p : Int) := by omega
              have hpl : (p : Int) < (ns.length : Int) := by omega
              have hwp : IntKind.i64.wrap (p : Int) = (p : Int) := by simp only [IntKind.wrap, IntKind.bits, IntKind.signed]; simp; omega
              clear hpp hy hny
              go_wp2_with (fail)
              refine wp_region_one (fun b w' => Fp [bd + 1, bd] wr w' ∧ if b then DiskAt w' (bd + 1) bd (nameD M2) else DiskAt w' (bd + 1) bd (nameD M)) (fun _ _ => True) 29 (by decide) (by kernel_rfl) (by kernel_rfl) ⟨Fp.drew' (Fp.refl _ _), HD.out.of_fp (Fp.drew wr) (by simp) (by simp)⟩ ?_
              -- 0: Op.move t4 
              apply on_plain rfl rfl rfl rfl
              · intro b a w hC hA K hK
                have h4 := hA.free 4 _ (by kernel_rfl) rfl
                simp only [Oper.wp, execOp]; go_simp
                exact hK _ hC trivial
              -- 1: Op.move t8 
              apply on_plain rfl rfl rfl rfl
              · intro b a w hC hA K hK
                have h8 := hA.free 8 _ (by kernel_rfl) rfl
                simp only [Oper.wp, execOp]; go_simp
                exact hK _ hC trivial
              -- 2: Op.move t9 
              apply on_plain rfl rfl rfl rfl
              · intro b a w hC hA K hK
                have h9 := hA.free 9 _ (by kernel_rfl) rfl
                simp only [Oper.wp, execOp]; go_simp
                exact hK _ hC trivial
              -- 3: Op.indexAddr 22 t85 t86 
              apply on_plain rfl rfl rfl rfl
              · intro b a w hC hA K hK
                have h85 : a.tmps[85]?.getD undef = _ := hA.dep 1 85 _ (by kernel_rfl) rfl
                have h86 : a.tmps[86]?.getD undef = _ := hA.dep 2 86 _ (by kernel_rfl) rfl
                simp only [Oper.wp, execOp]; go_simp
                exact hK _ hC trivial
              -- 4: Op.load 9 t87 
              apply on_plain rfl rfl rfl rfl
              · intro b a w hC hA K hK
                have h87 : a.tmps[87]?.getD undef = _ := hA.dep 3 87 _ (by kernel_rfl) rfl
                have f1 := HNC.out w hC.1
                have f2 := HIN.out w hC.1
                have f3 := HNY.out w hC.1
                simp only [Oper.wp, execOp]; go_simp
                exact hK _ hC trivial
              -- 5: Op.lookup 41 t84 t88 false 
              apply on_plain rfl rfl rfl rfl
              · intro b a w hC hA K hK
                have h84 : a.tmps[84]?.getD undef = _ := hA.dep 0 84 _ (by kernel_rfl) rfl
                have h88 : a.tmps[88]?.getD undef = _ := hA.dep 4 88 _ (by kernel_rfl) rfl
                have f1 := HNC.out w hC.1
                have f2 := HIN.out w hC.1
                have f3 := HNY.out w hC.1
                simp only [Oper.wp, execOp]; go_simp
                exact hK _ hC trivial
              -- 6: Op.binOp BinOp.neq 3 t89 (const (1:i64)) 3 
              apply on_plain rfl rfl rfl rfl
              · intro b a w hC hA K hK
                have h89 : a.tmps[89]?.getD undef = _ := hA.dep 5 89 _ (by kernel_rfl) rfl
                simp only [Oper.wp, execOp]; go_simp
                exact hK _ hC trivial
              -- 7: Op.move t90 
              apply on_plain rfl rfl rfl rfl
              · intro b a w hC hA K hK
                have h90 : a.tmps[90]?.getD undef = _ := hA.dep 6 90 _ (by kernel_rfl) rfl
                simp only [Oper.wp, execOp]; go_simp
                exact hK _ hC trivial
              -- 8: Op.move t9 (7, 'false')
              apply on_yes 7 91 rfl rfl rfl rfl rfl (by kernel_rfl) rfl rfl
              · intro b a w hC hA K hK
                have h9 := hA.free 9 _ (by kernel_rfl) rfl
                simp only [Oper.wp, execOp]; go_simp
                exact hK _ hC trivial
              -- 9: Op.binOp BinOp.gtr 3 t92 (const (0:i64)) 3 (7, 'false')
              apply on_yes 7 91 rfl rfl rfl rfl rfl (by kernel_rfl) rfl rfl
              · intro b a w hC hA K hK
                have h92 : a.tmps[92]?.getD undef = _ := hA.dep 8 92 _ (by kernel_rfl) rfl
                simp only [Oper.wp, execOp]; go_simp
                exact hK _ hC trivial
              -- 10: Op.move t93 (7, 'false')
              apply on_yes 7 91 rfl rfl rfl rfl rfl (by kernel_rfl) rfl rfl
              · intro b a w hC hA K hK
                have h93 : a.tmps[93]?.getD undef = _ := hA.dep 9 93 _ (by kernel_rfl) rfl
                simp only [Oper.wp, execOp]; go_simp
                exact hK _ hC trivial
              -- 11: Op.move t8 (10, 'true')
              apply on_yes 10 94 rfl rfl rfl rfl rfl (by kernel_rfl) rfl rfl
              · intro b a w hC hA K hK
                have h8 := hA.free 8 _ (by kernel_rfl) rfl
                simp only [Oper.wp, execOp]; go_simp
                exact hK _ hC trivial
              -- 12: Op.move t9 (10, 'true')
              apply on_yes 10 94 rfl rfl rfl rfl rfl (by kernel_rfl) rfl rfl
              · intro b a w hC hA K hK
                have h9 := hA.free 9 _ (by kernel_rfl) rfl
                simp only [Oper.wp, execOp]; go_simp
                exact hK _ hC trivial
              -- 13: Op.binOp BinOp.sub 3 t96 (const (1:i64)) 3 (10, 'true')
              apply on_yes 10 94 rfl rfl rfl rfl rfl (by kernel_rfl) rfl rfl
              · intro b a w hC hA K hK
                have h96 : a.tmps[96]?.getD undef = _ := hA.dep 12 96 _ (by kernel_rfl) rfl
                simp only [Oper.wp, execOp]; go_simp
                exact hK _ hC trivial
              -- 14: Op.indexAddr 22 t95 t97 (10, 'true')
              apply on_yes 10 94 rfl rfl rfl rfl rfl (by kernel_rfl) rfl rfl
              · intro b a w hC hA K hK
                have h95 : a.tmps[95]?.getD undef = _ := hA.dep 11 95 _ (by kernel_rfl) rfl
                have h97 : a.tmps[97]?.getD undef = _ := hA.dep 13 97 _ (by kernel_rfl) rfl
                simp only [Oper.wp, execOp]; go_simp
                exact hK _ hC trivial
              -- 15: Op.load 9 t98 (10, 'true')
              apply on_yes 10 94 rfl rfl rfl rfl rfl (by kernel_rfl) rfl rfl
              · intro b a w hC hA K hK
                have h98 : a.tmps[98]?.getD undef = _ := hA.dep 14 98 _ (by kernel_rfl) rfl
                have f1 := HNC.out w hC.1
                have f2 := HIN.out w hC.1
                have f3 := HNY.out w hC.1
                simp only [Oper.wp, execOp]; go_simp
                exact hK _ hC trivial
              -- 16: Op.move t8 (10, 'true')
              apply on_yes 10 94 rfl rfl rfl rfl rfl (by kernel_rfl) rfl rfl
              · intro b a w hC hA K hK
                have h8 := hA.free 8 _ (by kernel_rfl) rfl
                simp only [Oper.wp, execOp]; go_simp
                exact hK _ hC trivial
              -- 17: Op.move t9 (10, 'true')
              apply on_yes 10 94 rfl rfl rfl rfl rfl (by kernel_rfl) rfl rfl
              · intro b a w hC hA K hK
                have h9 := hA.free 9 _ (by kernel_rfl) rfl
                simp only [Oper.wp, execOp]; go_simp
                exact hK _ hC trivial
              -- 18: Op.indexAddr 22 t100 t101 (10, 'true')
              apply on_yes 10 94 rfl rfl rfl rfl rfl (by kernel_rfl) rfl rfl
              · intro b a w hC hA K hK
                have h100 : a.tmps[100]?.getD undef = _ := hA.dep 16 100 _ (by kernel_rfl) rfl
                have h101 : a.tmps[101]?.getD undef = _ := hA.dep 17 101 _ (by kernel_rfl) rfl
                simp only [Oper.wp, execOp]; go_simp
                exact hK _ hC trivial
              -- 19: Op.load 9 t102 (10, 'true')
              apply on_yes 10 94 rfl rfl rfl rfl rfl (by kernel_rfl) rfl rfl
              · intro b a w hC hA K hK
                have h102 : a.tmps[102]?.getD undef = _ := hA.dep 18 102 _ (by kernel_rfl) rfl
                have f1 := HNC.out w hC.1
                have f2 := HIN.out w hC.1
                have f3 := HNY.out w hC.1
                simp only [Oper.wp, execOp]; go_simp
                exact hK _ hC trivial
              -- 20: Op.binOp BinOp.geq 9 t99 t103 9 (10, 'true')
              apply on_yes 10 94 rfl rfl rfl rfl rfl (by kernel_rfl) rfl rfl
              · intro b a w hC hA K hK
                have h99 : a.tmps[99]?.getD undef = _ := hA.dep 15 99 _ (by kernel_rfl) rfl
                have h103 : a.tmps[103]?.getD undef = _ := hA.dep 19 103 _ (by kernel_rfl) rfl
                simp only [Oper.wp, execOp]; go_simp
                exact hK _ hC trivial
              -- 21: Op.pick t94 t104 (const (Value.bool false)) (7, 'false')
              apply on_yes 7 91 rfl rfl rfl rfl rfl (by kernel_rfl) rfl rfl
              · intro b a w hC hA K hK
                have h94 : a.tmps[94]?.getD undef = _ := hA.dep 10 94 _ (by kernel_rfl) rfl
                have h104 : a.tmps[104]?.getD undef = _ := hA.dep 20 104 _ (by kernel_rfl) rfl
                simp only [Oper.wp, execOp]; go_simp
                exact hK _ hC trivial
              -- 22: Op.pick t91 (const (Value.bool true)) t105 
              apply on_plain rfl rfl rfl rfl
              · intro b a w hC hA K hK
                have h91 : a.tmps[91]?.getD undef = _ := hA.dep 7 91 _ (by kernel_rfl) rfl
                have h105 : a.tmps[105]?.getD undef = _ := hA.dep 21 105 _ (by kernel_rfl) rfl
                simp only [Oper.wp, execOp]; go_simp
                exact hK _ hC trivial
              -- 23: Op.move t106 
              apply on_plain rfl rfl rfl rfl
              · intro b a w hC hA K hK
                have h106 : a.tmps[106]?.getD undef = _ := hA.dep 22 106 _ (by kernel_rfl) rfl
                simp only [Oper.wp, execOp]; go_simp
                exact hK _ hC trivial
              -- 24: Op.move t3 (23, 'false')
              apply on_yes 23 107 rfl rfl rfl rfl rfl (by kernel_rfl) rfl rfl
              · intro b a w hC hA K hK
                have h3 := hA.free 3 _ (by kernel_rfl) rfl
                simp only [Oper.wp, execOp]; go_simp
                exact hK _ hC trivial
              -- 25: Op.move t8 (23, 'false')
              apply on_yes 23 107 rfl rfl rfl rfl rfl (by kernel_rfl) rfl rfl
              · intro b a w hC hA K hK
                have h8 := hA.free 8 _ (by kernel_rfl) rfl
                simp only [Oper.wp, execOp]; go_simp
                exact hK _ hC trivial
              -- 26: Op.move t9 (23, 'false')
              apply on_yes 23 107 rfl rfl rfl rfl rfl (by kernel_rfl) rfl rfl
              · intro b a w hC hA K hK
                have h9 := hA.free 9 _ (by kernel_rfl) rfl
                simp only [Oper.wp, execOp]; go_simp
                exact hK _ hC trivial
              -- 27: Op.indexAddr 22 t109 t110 (23, 'false')
              apply on_yes 23 107 rfl rfl rfl rfl rfl (by kernel_rfl) rfl rfl
              · intro b a w hC hA K hK
                have h109 : a.tmps[109]?.getD undef = _ := hA.dep 25 109 _ (by kernel_rfl) rfl
                have h110 : a.tmps[110]?.getD undef = _ := hA.dep 26 110 _ (by kernel_rfl) rfl
                simp only [Oper.wp, execOp]; go_simp
                exact hK _ hC trivial
              -- 28: Op.load 9 t111 (23, 'false')
              apply on_yes 23 107 rfl rfl rfl rfl rfl (by kernel_rfl) rfl rfl
              · intro b a w hC hA K hK
                have h111 : a.tmps[111]?.getD undef = _ := hA.dep 27 111 _ (by kernel_rfl) rfl
                have f1 := HNC.out w hC.1
                have f2 := HIN.out w hC.1
                have f3 := HNY.out w hC.1
                simp only [Oper.wp, execOp]; go_simp
                exact hK _ hC trivial
              -- 29: Op.call { CALL, args := #[t108, t112], argTypes := #[24, 9] } (23, 'false')
              apply on_turn 23 107 rfl rfl rfl rfl rfl (by kernel_rfl) rfl rfl
              · intro a w hC hA K hK
                have h108 : a.tmps[108]?.getD undef = _ := hA.dep 24 108 _ (by kernel_rfl) rfl
                have h112 : a.tmps[112]?.getD undef = _ := hA.dep 28 112 _ (by kernel_rfl) rfl
                simp only [Oper.wp, execOp]; go_simp
                refine (HDEL.out w hC.2).mono ?_
                rintro e w2 ⟨rfl, hd2, hf2⟩
                exact hK _ ⟨hC.1.trans hf2 (by simp), hd2⟩ trivial
              -- 30: Op.binOp BinOp.neq 26 t113 (const (0:i64)) 26 (23, 'false')
              apply on_yes 23 107 rfl rfl rfl rfl rfl (by kernel_rfl) rfl rfl
              · intro b a w hC hA K hK
                have h113 : a.tmps[113]?.getD undef = _ := hA.dep 29 113 _ (by kernel_rfl) rfl
                simp only [Oper.wp, execOp]; go_simp
                exact hK _ hC trivial
              -- 31: Op.pick t107 (const (Value.bool true)) t114 
              apply on_plain rfl rfl rfl rfl
              · intro b a w hC hA K hK
                have h107 : a.tmps[107]?.getD undef = _ := hA.dep 23 107 _ (by kernel_rfl) rfl
                have h114 : a.tmps[114]?.getD undef = _ := hA.dep 30 114 _ (by kernel_rfl) rfl
                simp only [Oper.wp, execOp]; go_simp
                exact hK _ hC trivial
              refine ⟨fun b => ?_, ?_⟩
              · repeat (first | exact trivial | refine stab_val _ ?_)
              · intro w' hC
                simp only [List.reverse_cons, List.reverse_nil, List.nil_append, List.cons_append]
                repeat (refine all_val ?_)
                refine all_nil ?_
                simp only [putAll, Act.put, List.setIfInBounds_toArray, List.set_cons_succ, List.set_cons_zero]
                have hf := fp_new HREL.out.fp hC.1 hnew
                have HF := Lib.hid hf
                have HD8 := Lib.hid hC.2
                have hm8 : MapAt intTy w' bi (onceF N) := HREL.out.once.of_block (hC.1.block bi HREL.out.once.lt (by simp; omega))
                have HM8 := Lib.hid hm8
                have hat8 := HREL.out.names.fp hC.1 (by simp; omega)
                have HAT8 := Lib.hid hat8
                clear hC hf hm8 hat8
                go_wp2_with (fail)
                go_roundg (ns.length - (p + 1 + 1))
                case measure => exact hgk
                case rel => exact ⟨p + 1 + 1, M2, ⟨HD8.out, HM8.out, HF.out, hlt, HP2.out, HAT8.out⟩, by omega, by go_num⟩
          · have hM : M = [] := by
              have := HREL.out.left
              rw [List.drop_eq_nil_of_le (by omega)] at this
              exact this.eq_nil
            subst hM
            have hli := HLI.out wr (bd + 1) bd _ HREL.out.disk (nameOK List.nodup_nil (by simp))
            have HLL3 := Lib.hid hli
            have hnl : (onceF N).length = ns.length := by unfold onceF; rw [List.length_map, HPERM.out.length_eq]
            have hml := HREL.out.once.len 3
            rw [hnl] at hml
            clear hli hnl
            go_wp2_with (fail)
            refine HLL3.out.mono ?_
            rintro e w8 ⟨a8, c8, ns8, rfl, hns8, _, hf8⟩
            have hl8 : ns8.length = 0 := by rw [(list_names hns8).length_eq]; rfl
            rw [hl8]
            clear hns8 hl8
            go_wp2_with (fail)
            go_ret
            exact ⟨rfl, HREL.out.fp.trans hf8 (by simp)⟩
  · clear hll hl
    go_enter Try.func6, Try.ntmps6
    go_wp2_with (go_at_call 8; refine (shown_any _).mono ?_; rintro e w1 ⟨rfl, hf1⟩)
    go_ret
    exact ⟨rfl, hf1⟩
end Go.Proofs.Ytmadkoebopfhoaa
