/-
  The disk's List, by the library's contract on a map's sorted keys.
-/
import Derived.Test.YtmadkoebopfhoaaVdKeys
import Derived.Test.YtmadkoebopfhoaaIter
namespace Go.Proofs.Ytmadkoebopfhoaa
open Go.RowKit Go.Maps Go.MapKept Go.Sort Go.Shelf

set_option maxRecDepth 100000 in
set_option maxHeartbeats 1000000 in
theorem list_gives : ListGives := by
  intro w b bm d hd hok
  have c2 : w.cell? ⟨b, 2, none⟩ = some (.map (some bm)) := cell_of_block hd.cells 2
  obtain ⟨D0, hown, hsz, hperm⟩ := owns_files hd.files hok.many
  have hmax : Maps.size D0 ≤ maxLen := by unfold maxLen; omega
  have hbytes : Maps.size D0 * 16 ≤ 140737488355328 := by omega
  have HD := Lib.hid hd
  have HOK := Lib.hid hok
  have HP := Lib.hid hperm
  have HK := Lib.hid (Try.slices_Sorted_keys_30_31 bm 200 D0 anyElem w hown hmax hbytes)
  clear hd hok hperm hown hmax hbytes hsz
  refine (callsIn_wide (n := 6)).1 ?_
  have hfK : Fence.wide.fn 31 := trivial
  have hfS : Fence.wide.fn 30 := trivial
  refine callsIn_of_wp Try.func20 rfl trivial ?_ rfl
  simp only [Try.ntmps20, List.size_toArray, List.length_cons, List.length_nil, Nat.reduceAdd, Nat.reduceSub, Array.replicate_succ, Array.replicate_zero, List.push_toArray, List.append_toArray, List.nil_append, List.cons_append]
  gi_wp2_with (first
    | (gi_at_call 31; refine (Try.maps_Keys_31 _ _).mono ?_; rintro e w' ⟨rfl, rfl⟩)
    | (gi_at_call 30; refine HK.out.mono ?_; rintro e w' ⟨v, ss, rfl, hS, hrow, hnil, hb⟩))
  go_ret
  have hF : Fp [] w (w.alloc (.cells #[.map (some bm)] 47)) := Fp.alloc _ _
  have hX : Fp [] (w.alloc (.cells #[.map (some bm)] 47)) w' := ⟨hb.os, hb.tape, hb.output, hb.size, fun k hk _ => hb.block k hk⟩
  have hF2 : Fp [] w w' := hF.trans hX (by simp)
  obtain ⟨h1, h2⟩ := sorted_names HOK.out.nodup (hS.trans HP.out)
  obtain ⟨ns, hns⟩ : ∃ ns, ns = (ss.mergeSort (fun x y => decide (x ≤ y))).map (fun l => (⟨l.toArray⟩ : ByteArray)) := ⟨_, rfl⟩
  rw [← hns] at h1 h2
  have hvals : (ss.mergeSort (fun x y => decide (x ≤ y))).map encStr = ns.map Value.string := by
    rw [hns, List.map_map]; rfl
  have hlen : ss.length = ns.length := by rw [hns]; simp
  rw [hvals] at hrow
  obtain ⟨hl, hform⟩ := hrow
  rcases hform with ⟨rfl, h0⟩ | ⟨g, cap, cur, rfl, hg, hblk, hn, hcap, hcur, htake⟩
  · have : ns = [] := List.eq_nil_of_length_eq_zero (by omega)
    subst this
    exact ⟨none, 0, [], rfl, ⟨h1, h2⟩, Or.inl rfl, hF2⟩
  · refine ⟨some ⟨g, 0, none⟩, cap, ns, by rw [hlen]; rfl, ⟨h1, h2⟩, Or.inr ⟨g, rfl, ?_, heap_lt hblk, fun i hi => ?_⟩, hF2⟩
    · have := hF.size; omega
    · rw [cell_of_block hblk i]
      have h3 := congrArg (fun l => l[i]?) htake
      simp only [List.getElem?_take, Nat.mul_one, Array.getElem?_toList, List.getElem?_map] at h3
      rw [if_pos (by omega), List.getElem?_eq_getElem hi] at h3
      exact h3
end Go.Proofs.Ytmadkoebopfhoaa
