/- What functions of the program come to, for all arguments in the given bounds. -/
import Derived.Test.YtmhinjjgpabkfaaGreatDoorch04c
set_option linter.unusedVariables false
set_option linter.unusedSimpArgs false
namespace Go.Proofs.YtmhinjjgpabkfaaGreatDoor.Ab
open Go Go.Proofs
set_option maxRecDepth 20000
set_option maxHeartbeats 4000000
set_option linter.unusedSimpArgs false
set_option linter.unusedVariables false
def tab_ch14 : List (Nat × TyRow) := [
  (3, ⟨.int .i64, some 1, some false, none, false, [.int .i64], [], some [(.int .i64 0, 0)], none, none, none⟩),
  (9, ⟨.str, some 1, some false, none, false, [.str], [], some [(.string default, 0)], none, none, none⟩),
  (24, ⟨.sl 1, some 1, some false, some (1, 8), false, [.sl 1], [], some [(.slice none 0 0, 1)], some ([.sc (.int .i64 0)], 1, 8), none, none⟩),
  (41, ⟨.sl 1, some 1, some false, some (1, 16), false, [.sl 1], [], some [(.slice none 0 0, 1)], some ([.sc (.string default)], 1, 16), none, none⟩),
  (49, ⟨.other, some 6, some true, none, false, [.sl 3, .sl 2, .sl 2, .sl 1, .int .i64, .int .i64], [some (0, 1, false), some (1, 1, false), some (2, 1, false), some (3, 1, false), some (4, 1, false), some (5, 1, false)], some [(.slice none 0 0, 3), (.slice none 0 0, 2), (.slice none 0 0, 2), (.slice none 0 0, 1), (.int .i64 0, 0), (.int .i64 0, 0)], none, some [(0, 1), (1, 1), (2, 1), (3, 1), (4, 1), (5, 1)], none⟩),
  (99, ⟨.other, some 4, some true, none, false, [.int .i64, .int .i64, .int .i64, .int .i64], [some (0, 1, false), some (1, 1, false), some (2, 1, false), some (3, 1, false)], some [(.int .i64 0, 0), (.int .i64 0, 0), (.int .i64 0, 0), (.int .i64 0, 0)], none, some [(0, 1), (1, 1), (2, 1), (3, 1)], some [.int, .int, .int, .int]⟩),
  (101, ⟨.other, some 9, some true, none, false, [.bool, .int .i64, .int .i64, .int .i64, .int .i64, .sl 1, .sl 1, .int .i64, .bool], [some (0, 1, false), some (1, 4, true), some (5, 1, false), some (6, 1, false), some (7, 1, false), some (8, 1, false)], some [(.bool false, 0), (.int .i64 0, 0), (.int .i64 0, 0), (.int .i64 0, 0), (.int .i64 0, 0), (.slice none 0 0, 1), (.slice none 0 0, 1), (.int .i64 0, 0), (.bool false, 0)], none, some [(0, 1), (1, 4), (5, 1), (6, 1), (7, 1), (8, 1)], none⟩),
  (103, ⟨.other, some 11, some true, none, false, [.int .i64, .str, .bool, .int .i64, .int .i64, .int .i64, .int .i64, .sl 1, .sl 1, .int .i64, .bool], [some (0, 1, false), some (1, 1, false), some (2, 9, true)], some [(.int .i64 0, 0), (.string default, 0), (.bool false, 0), (.int .i64 0, 0), (.int .i64 0, 0), (.int .i64 0, 0), (.int .i64 0, 0), (.slice none 0 0, 1), (.slice none 0 0, 1), (.int .i64 0, 0), (.bool false, 0)], none, some [(0, 1), (1, 1), (2, 9)], none⟩),
  (154, ⟨.sl 11, some 1, some false, some (11, 128), false, [.sl 11], [], some [(.slice none 0 0, 11)], some ([.sc (.int .i64 0), .sc (.string default), .sc (.bool false), .sc (.int .i64 0), .sc (.int .i64 0), .sc (.int .i64 0), .sc (.int .i64 0), .row 1 [], .row 1 [], .sc (.int .i64 0), .sc (.bool false)], 11, 128), none, none⟩)]
theorem tab_ch14_ok : TabOk Tryz.prog tab_ch14 := TabOk.of (by kernel_rfl)
theorem su_ch14 : Setup Tryz.prog tab_ch14 := ⟨tab_ch14_ok, mixed⟩
def rTextAt (d : TDisk) (base : Int) : ByteArray := (rReadFile d (rSegmentName base)).1
def rGoesOn (b : ByteArray) (base link : Int) : Bool := (rReadHead b).2 && decide ((rReadHead b).1.base_ = base) && decide ((rReadHead b).1.link_ = link)
def rLinkMore (link : Int) (r : ByteArray) : Int := rSumMore link (rFixText r.size 4 ++ r)
def rlinkAll (link : Int) (l : List ByteArray) : Int := l.foldl rLinkMore link
def rRecordsIn (b : ByteArray) : List ByteArray := (rScanText b).records_
def rLinkAfter (b : ByteArray) : Int := rlinkAll (rScanText b).head_.link_ (rScanText b).records_
def linksL (d : TDisk) : Nat → Int → Int → List Tlink
  | 0, _, _ => []
  | k + 1, base, sum => if rGoesOn (rTextAt d base) base sum = true ∧ rRecordsIn (rTextAt d base) ≠ [] then
      ⟨base, rTextAt d base, rScanText (rTextAt d base)⟩ :: linksL d k (base + (rRecordsIn (rTextAt d base)).length) (rlinkAll sum (rRecordsIn (rTextAt d base))) else []
def rlinks (d : TDisk) : List Tlink := linksL d 16 0 0
def rChain (d : TDisk) : List Int := (rlinks d).map (·.base_)
theorem rTextAt_le {d : TDisk} {b : Int} {t : ByteArray} (hd : okD d) (e : rTextAt d b = t) : t.size ≤ 1048576 := by
  rw [← e]
  exact rReadFile_b (ok := (rReadFile d (rSegmentName b)).2) hd rfl
theorem rGoesOn_t {t : ByteArray} {b s : Int} (h : rGoesOn t b s = true) : ∃ hh, rReadHead t = (hh, true) ∧ hh.base_ = b ∧ hh.link_ = s ∧ 0 ≤ b ∧ b ≤ 1000000000 := by
  unfold rGoesOn at h
  simp only [Bool.and_eq_true, decide_eq_true_eq] at h
  rcases e : rReadHead t with ⟨hh, ok⟩
  rw [e] at h
  obtain ⟨⟨h1, h2⟩, h3⟩ := h
  simp only [] at h1 h2 h3
  subst h1
  have h4 := (rReadHead_t e).2.2
  obtain ⟨v, st, bs, lk⟩ := hh
  have h5 := rHeadOk_t h4
  exact ⟨_, rfl, h2, h3, by simp only [] at h2; omega, by simp only [] at h2; omega⟩
theorem scan_head {t : ByteArray} {hh : THead} (e : rReadHead t = (hh, true)) : (rScanText t).head_ = hh ∧ (rScanText t).ok_ = true := by unfold rScanText; rw [e]; exact ⟨rfl, rfl⟩
theorem linkAfter_goes {t : ByteArray} {b s : Int} (h : rGoesOn t b s = true) : rLinkAfter t = rlinkAll s (rRecordsIn t) := by
  obtain ⟨hh, h1, h2, h3, _⟩ := rGoesOn_t h
  unfold rLinkAfter rRecordsIn
  rw [(scan_head h1).1, h3]
theorem linkAfter_goes_eq {t : ByteArray} {b s : Int} {l : List ByteArray} (h : rGoesOn t b s = true) (e : rRecordsIn t = l) : rLinkAfter t = rlinkAll s l := by rw [linkAfter_goes h, e]
theorem linksL_no {d : TDisk} {k : Nat} {b s : Int} {t : ByteArray} (h1 : rTextAt d b = t) (h2 : rGoesOn t b s = false ∨ rRecordsIn t = []) : linksL d k b s = [] := by
  cases k with
  | zero => rfl
  | succ k =>
    rw [linksL, h1, if_neg]
    rintro ⟨h3, h4⟩
    rcases h2 with h2 | h2
    · rw [h2] at h3; cases h3
    · exact h4 h2
theorem linksL_next {d : TDisk} {k : Nat} {b s : Int} {t : ByteArray} (h1 : rTextAt d b = t) (h2 : rGoesOn t b s = true) (h3 : rRecordsIn t ≠ []) : linksL d (k + 1) b s = ⟨b, t, rScanText t⟩ :: linksL d k (b + (rRecordsIn t).length) (rlinkAll s (rRecordsIn t)) := by
  rw [linksL, h1, if_pos ⟨h2, h3⟩]
theorem linksL_len {d : TDisk} : ∀ {k : Nat} {b s : Int}, (linksL d k b s).length ≤ k
  | 0, _, _ => Nat.le_refl _
  | k + 1, b, s => by
    rw [linksL]
    split
    · rw [List.length_cons]; exact Nat.succ_le_succ linksL_len
    · exact Nat.zero_le _
theorem linksL_mem {d : TDisk} : ∀ {k : Nat} {b s : Int}, ∀ x ∈ linksL d k b s, x.text_ = rTextAt d x.base_ ∧ x.scan_ = rScanText (rTextAt d x.base_) ∧ ∃ s', rGoesOn (rTextAt d x.base_) x.base_ s' = true
  | 0, _, _, x, hx => by simp [linksL] at hx
  | k + 1, b, s, x, hx => by
    rw [linksL] at hx
    split at hx
    · rename_i h
      rw [List.mem_cons] at hx
      rcases hx with rfl | hx
      · exact ⟨rfl, rfl, s, h.1⟩
      · exact linksL_mem x hx
    · simp at hx
theorem rlinks_len {d : TDisk} {l : List Tlink} (e : rlinks d = l) : l.length ≤ 16 := by rw [← e]; exact linksL_len
theorem rChain_len {d : TDisk} {l : List Int} (e : rChain d = l) : l.length ≤ 16 := by rw [← e]; unfold rChain; rw [List.length_map]; exact linksL_len
theorem rlinks_mem {d : TDisk} {l : List Tlink} (e : rlinks d = l) {x : Tlink} (hx : x ∈ l) : x.text_ = rTextAt d x.base_ ∧ x.scan_ = rScanText (rTextAt d x.base_) ∧ ∃ s', rGoesOn (rTextAt d x.base_) x.base_ s' = true := by rw [← e] at hx; exact linksL_mem x hx
theorem chain_map {d : TDisk} {α : Type} (f : Tlink → α) (g : Int → α) (h : ∀ x, x.text_ = rTextAt d x.base_ → x.scan_ = rScanText (rTextAt d x.base_) → f x = g x.base_) : (rlinks d).map f = (rChain d).map g := by
  unfold rChain
  rw [List.map_map]
  refine List.map_congr_left fun x hx => ?_
  obtain ⟨h1, h2, _⟩ := rlinks_mem rfl hx
  exact h x h1 h2
theorem scanL_sz : ∀ (k : Nat) {h : THead} {b : ByteArray} {n : Nat} {p : Int}, (b.size - p).toNat ≤ k → 0 ≤ p ∧ p ≤ b.size → ∀ r ∈ (scanL h b n p).1, r.size ≤ 60
  | k, h, b, n, p, hk, hp => by
    cases hm : rMarkAt h.version_ (h.base_ + n) b p
    · rcases hf : rReadFrame h.version_ (h.base_ + n) b p with ⟨r, q, ok⟩
      cases ok
      · rw [scanL_stop hm hf]; simp
      · have h2 := rReadFrame_ok hf
        rw [scanL_next hm hf]
        cases k with
        | zero => omega
        | succ k =>
          have ih := scanL_sz k (h := h) (b := b) (n := n + 1) (p := q) (by omega) (by omega)
          intro x hx
          rcases List.mem_cons.1 hx with rfl | hx
          · omega
          · exact ih x hx
    · rw [scanL_mark hm]; simp
theorem rScan_sz {b : ByteArray} : ∀ r ∈ (rScanText b).records_, r.size ≤ 60 := by
  unfold rScanText
  split
  · rename_i h e
    have h2 := rReadHead_t e
    exact scanL_sz _ (h := h) (b := b) (n := 0) (p := 24) (Nat.le_refl _) (by omega)
  · simp
theorem take_map {α β : Type} {f : α → β} {l : List α} {k : Nat} (h : k < l.length) : (l.take (k + 1)).map f = (l.take k).map f ++ [f l[k]] := by rw [List.take_succ_eq_append_getElem h, List.map_append]; rfl
theorem take_fm {α β : Type} {f : α → List β} {l : List α} {k : Nat} (h : k < l.length) : (l.take (k + 1)).flatMap f = (l.take k).flatMap f ++ f l[k] := by rw [List.take_succ_eq_append_getElem h, List.flatMap_append]; simp
theorem FiTextAt {dnod : List TNode} {xdnod : List (List D)} {dent : List TEntry} {xdent : List (List D)} {dold : List TEntry} {xdold : List (List D)} {dste : List ByteArray} {xdste : List (List D)} {droo : Int} {dnex : Int} {base : Int} {o : ByteArray} (hdnod : dnod.map eNode = xdnod) (hdent : dent.map eEntry = xdent) (hdold : dold.map eEntry = xdold) (hdste : dste.map cS = xdste) (hd : okD ⟨dnod, dent, dold, dste, droo, dnex⟩) (hr : rTextAt (⟨dnod, dent, dold, dste, droo, dnex⟩ : TDisk) base = o)  : Fn Tryz.prog 153 [.agg [.d (.row 3 xdnod), .d (.row 2 xdent), .d (.row 2 xdold), .d (.row 1 xdste), I droo, I dnex], I base] [] ⟨S o, [], []⟩ := by
 refine Fn.go su_ch14 Tryz.func153 fun P hP Q hQ => ?_
 conv => cbv
 generalize hr1 : rSegmentName base = r1
 refine .dd hP (FiSegmentName hr1) ?_
 conv => cbv
 rcases hr2 : rReadFile (⟨dnod, dent, dold, dste, droo, dnex⟩ : TDisk) r1 with ⟨r2a, r2b⟩
 refine .dd hP (FiReadFile hdnod hdent hdold hdste hd hr2) ?_
 conv => cbv
 have e : r2a = rTextAt (⟨dnod, dent, dold, dste, droo, dnex⟩ : TDisk) base := (by unfold rTextAt; rw [hr1, hr2])
 rw [hr] at e
 subst e
 exact hQ _ _ (.s rfl rfl)
theorem FsTextAt {dnod : List TNode} {xdnod : List (List D)} {dent : List TEntry} {xdent : List (List D)} {dold : List TEntry} {xdold : List (List D)} {dste : List ByteArray} {xdste : List (List D)} {droo : Int} {dnex : Int} {base : Int} {o : ByteArray} (hdnod : dnod.map eNode = xdnod) (hdent : dent.map eEntry = xdent) (hdold : dold.map eEntry = xdold) (hdste : dste.map cS = xdste) (hd : okD ⟨dnod, dent, dold, dste, droo, dnex⟩) (hr : rTextAt (⟨dnod, dent, dold, dste, droo, dnex⟩ : TDisk) base = o)  : Fn Tryz.prog 59 [.agg [.d (.row 3 xdnod), .d (.row 2 xdent), .d (.row 2 xdold), .d (.row 1 xdste), I droo, I dnex], I base] [] ⟨S o, [], []⟩ := by
 refine Fn.go su_ch14 Tryz.func59 fun P hP Q hQ => ?_
 conv => cbv
 generalize hr1 : rSegmentName base = r1
 refine .dd hP (FsSegmentName hr1) ?_
 conv => cbv
 rcases hr2 : rReadFile (⟨dnod, dent, dold, dste, droo, dnex⟩ : TDisk) r1 with ⟨r2a, r2b⟩
 refine .dd hP (FsReadFile hdnod hdent hdold hdste hd hr2) ?_
 conv => cbv
 have e : r2a = rTextAt (⟨dnod, dent, dold, dste, droo, dnex⟩ : TDisk) base := (by unfold rTextAt; rw [hr1, hr2])
 rw [hr] at e
 subst e
 exact hQ _ _ (.s rfl rfl)
theorem FiGoesOn {b : ByteArray} {base : Int} {link : Int} {o : Bool}  (hs : b.size < 2 ^ 47) (hr : rGoesOn b base link = o)  : Fn Tryz.prog 155 [S b, I base, I link] [] ⟨B o, [], []⟩ := by
 refine Fn.go su_ch14 Tryz.func155 fun P hP Q hQ => ?_
 conv => cbv
 rcases hr1 : rReadHead b with ⟨⟨r1aver, r1astr, r1abas, r1alin⟩, r1b⟩
 refine .dd hP (FiReadHead (by omega) hr1) ?_
 conv => cbv
 cases r1b
 conv => cbv
 have e : false = rGoesOn b base link := (by unfold rGoesOn; rw [hr1]; rfl)
 rw [hr] at e
 subst e
 exact hQ _ _ (.b rfl rfl)
 conv => cbv
 refine .eql (fun h2 => ?_) fun h2 => ?_
 conv => cbv
 refine .eql (fun h3 => ?_) fun h3 => ?_
 conv => cbv
 have e : true = rGoesOn b base link := (by unfold rGoesOn; rw [hr1]; simp [h2, h3])
 rw [hr] at e
 subst e
 exact hQ _ _ (.b rfl rfl)
 conv => cbv
 have e : false = rGoesOn b base link := (by unfold rGoesOn; rw [hr1]; simp [h2, h3])
 rw [hr] at e
 subst e
 exact hQ _ _ (.b rfl rfl)
 conv => cbv
 have e : false = rGoesOn b base link := (by unfold rGoesOn; rw [hr1]; simp [h2])
 rw [hr] at e
 subst e
 exact hQ _ _ (.b rfl rfl)
theorem FiLinkMore {link : Int} {r : ByteArray} {o : Int}  (hb : r.size < 2 ^ 40) (hr : rLinkMore link r = o)  : Fn Tryz.prog 185 [I link, S r] [] ⟨I o, [], []⟩ := by
 refine Fn.go su_ch14 Tryz.func185 fun P hP Q hQ => ?_
 conv => cbv
 refine .go fun v1 hv1 => ?_
 conv => cbv
 generalize hr2 : rFixText v1 4 = r2
 have zr2 := rFixText_b hr2
 refine .dd hP (FiFixText (by omega) hr2) ?_
 conv => cbv
 refine .go fun s3 hs3 zs3 => ?_
 conv => cbv
 generalize hr4 : rSumMore link s3 = r4
 have zr4 := rSumMore_b hr4
 refine .dd hP (FiSumMore (by omega) hr4) ?_
 conv => cbv
 have e : r4 = rLinkMore link r := (by subst_vars; rfl)
 rw [hr] at e
 subst e
 exact hQ _ _ (.i rfl rfl)
theorem FsGoesOn {b : ByteArray} {base : Int} {link : Int} {o : Bool}  (hs : b.size < 2 ^ 47) (hr : rGoesOn b base link = o)  : Fn Tryz.prog 103 [S b, I base, I link] [] ⟨B o, [], []⟩ := by
 refine Fn.go su_ch14 Tryz.func103 fun P hP Q hQ => ?_
 conv => cbv
 rcases hr1 : rReadHead b with ⟨⟨r1aver, r1astr, r1abas, r1alin⟩, r1b⟩
 refine .dd hP (FsReadHead (by omega) hr1) ?_
 conv => cbv
 cases r1b
 conv => cbv
 have e : false = rGoesOn b base link := (by unfold rGoesOn; rw [hr1]; rfl)
 rw [hr] at e
 subst e
 exact hQ _ _ (.b rfl rfl)
 conv => cbv
 refine .eql (fun h2 => ?_) fun h2 => ?_
 conv => cbv
 refine .eql (fun h3 => ?_) fun h3 => ?_
 conv => cbv
 have e : true = rGoesOn b base link := (by unfold rGoesOn; rw [hr1]; simp [h2, h3])
 rw [hr] at e
 subst e
 exact hQ _ _ (.b rfl rfl)
 conv => cbv
 have e : false = rGoesOn b base link := (by unfold rGoesOn; rw [hr1]; simp [h2, h3])
 rw [hr] at e
 subst e
 exact hQ _ _ (.b rfl rfl)
 conv => cbv
 have e : false = rGoesOn b base link := (by unfold rGoesOn; rw [hr1]; simp [h2])
 rw [hr] at e
 subst e
 exact hQ _ _ (.b rfl rfl)
theorem FsLinkMore {link : Int} {r : ByteArray} {o : Int}  (hb : r.size < 2 ^ 40) (hr : rLinkMore link r = o)  : Fn Tryz.prog 145 [I link, S r] [] ⟨I o, [], []⟩ := by
 refine Fn.go su_ch14 Tryz.func145 fun P hP Q hQ => ?_
 conv => cbv
 refine .go fun v1 hv1 => ?_
 conv => cbv
 generalize hr2 : rFixText v1 4 = r2
 have zr2 := rFixText_b hr2
 refine .dd hP (FsFixText (by omega) hr2) ?_
 conv => cbv
 refine .go fun s3 hs3 zs3 => ?_
 conv => cbv
 generalize hr4 : rSumMore link s3 = r4
 have zr4 := rSumMore_b hr4
 refine .dd hP (FsSumMore (by omega) hr4) ?_
 conv => cbv
 have e : r4 = rLinkMore link r := (by subst_vars; rfl)
 rw [hr] at e
 subst e
 exact hQ _ _ (.i rfl rfl)
theorem FilinkAll {link : Int} {l : List ByteArray} {xl : List (List D)} {o : Int} (hl : l.map cS = xl) (hn : l.length < 2 ^ 40) (hb : ∀ r ∈ l, r.size ≤ 60) (hr : rlinkAll link l = o)  : Fn Tryz.prog 156 [I link, .d (.row 1 xl)] [] ⟨I o, [], []⟩ := by
 refine Fn.go su_ch14 Tryz.func156 fun P hP Q hQ => ?_
 conv => cbv
 refine .go hl fun v1 hv1 => ?_
 conv => cbv
 refine LoopW.lp (κ := Int × Int) su_ch14 hP [] [7, 8] (fun (i0, i9) => [(0, I i0), (9, I i9)]) (fun (i0, i9) => [])
   (fun (i0, i9) => 0 ≤ i9 ∧ i9 ≤ l.length ∧ i0 = rlinkAll link (l.take i9.toNat))
   (fun (i0, i9) => (l.length - i9).toNat) (link, 0) ⟨by omega, by omega, rfl⟩ ⟨rfl, rfl, trivial⟩ rfl ?_
 rintro ⟨i0, i9⟩ J ⟨h0, h1, hx⟩ hJ
 conv => cbv
 refine .lss (fun h2 => ?_) fun h2 => ?_
 conv => cbv
 refine .go i9.toNat hl fun hje3 e3 qe3 => ?_
 conv => cbv
 have zb := hb e3 (qe3 ▸ List.getElem_mem _)
 generalize hr4 : rLinkMore i0 e3 = r4
 refine .dd hP (FiLinkMore (by omega) hr4) ?_
 conv => cbv
 refine .add fun v5 hv5 => ?_
 conv => cbv
 exact .go [] (r4, v5) (hJ _ ⟨by omega, by omega, by rw [show v5.toNat = i9.toNat + 1 by omega, List.take_succ_eq_append_getElem hje3, rlinkAll, List.foldl_append, ← qe3]; show r4 = rLinkMore (rlinkAll link (l.take i9.toNat)) e3; rw [← hx, hr4]⟩ (by first | (dsimp only; omega) | omega))
 conv => cbv
 have e : i0 = rlinkAll link l := (by rw [hx, List.take_of_length_le (by omega)])
 rw [hr] at e
 subst e
 exact hQ _ _ (.i rfl rfl)
theorem FsRecordsIn {b : ByteArray} {o : List ByteArray} {xo : List (List D)}  (hs : b.size < 2 ^ 47) (hr : rRecordsIn b = o) (ho : o.map cS = xo) : Fn Tryz.prog 102 [S b] [] ⟨.d (.row 1 xo), [], []⟩ := by
 refine Fn.go su_ch14 Tryz.func102 fun P hP Q hQ => ?_
 conv => cbv
 rcases hr1 : rScanText b with ⟨r1ok, ⟨r1heaver, r1heastr, r1heabas, r1healin⟩, r1rec, r1off, r1end, r1mar⟩
 generalize hr1rec : r1rec.map cS = xr1rec
 generalize hr1off : r1off.map cI = xr1off
 refine .dd hP (FsScanText (by omega) hr1 hr1rec hr1off) ?_
 conv => cbv
 have e : r1rec = rRecordsIn b := (by unfold rRecordsIn; rw [hr1])
 rw [hr] at e
 subst e
 exact hQ _ _ (.d rfl (by rw [← hr1rec, ← ho]))
theorem FsLinkAfter {b : ByteArray} {o : Int}  (hs : b.size < 2 ^ 40) (hr : rLinkAfter b = o)  : Fn Tryz.prog 104 [S b] [] ⟨I o, [], []⟩ := by
 refine Fn.go su_ch14 Tryz.func104 fun P hP Q hQ => ?_
 conv => cbv
 rcases hr1 : rScanText b with ⟨r1ok, ⟨r1heaver, r1heastr, r1heabas, r1healin⟩, r1rec, r1off, r1end, r1mar⟩
 generalize hr1rec : r1rec.map cS = xr1rec
 generalize hr1off : r1off.map cI = xr1off
 refine .dd hP (FsScanText (by omega) hr1 hr1rec hr1off) ?_
 conv => cbv
 refine LoopW.lp (κ := Int × Int) su_ch14 hP [] [3] (fun (i4, i5) => [(4, I i4), (5, I i5)]) (fun (i4, i5) => [])
   (fun (i4, i5) => 0 ≤ i5 ∧ i5 ≤ r1rec.length ∧ i4 = rlinkAll r1healin (r1rec.take i5.toNat))
   (fun (i4, i5) => (r1rec.length - i5).toNat) (r1healin, 0) ⟨by omega, by omega, rfl⟩ ⟨rfl, rfl, trivial⟩ rfl ?_
 rintro ⟨i4, i5⟩ J ⟨h0, h1, hx⟩ hJ
 have zs := rScan_sz (b := b)
 have zl := rScan_recs (b := b)
 rw [hr1] at zs zl
 simp only [] at zs zl
 conv => cbv
 refine .go hr1rec fun v2 hv2 => ?_
 conv => cbv
 refine .lss (fun h3 => ?_) fun h3 => ?_
 conv => cbv
 refine .go i5.toNat hr1rec fun hje4 e4 qe4 => ?_
 conv => cbv
 have zb := zs e4 (qe4 ▸ List.getElem_mem _)
 generalize hr5 : rLinkMore i4 e4 = r5
 refine .dd hP (FsLinkMore (by omega) hr5) ?_
 conv => cbv
 refine .add fun v6 hv6 => ?_
 conv => cbv
 exact .go [] (r5, v6) (hJ _ ⟨by omega, by omega, by rw [show v6.toNat = i5.toNat + 1 by omega, List.take_succ_eq_append_getElem hje4, rlinkAll, List.foldl_append, ← qe4]; show r5 = rLinkMore (rlinkAll r1healin (r1rec.take i5.toNat)) e4; rw [← hx, hr5]⟩ (by first | (dsimp only; omega) | omega))
 conv => cbv
 have e : i4 = rLinkAfter b := (by unfold rLinkAfter; rw [hr1, hx, List.take_of_length_le (by omega)])
 rw [hr] at e
 subst e
 exact hQ _ _ (.i rfl rfl)
theorem Filinks {dnod : List TNode} {xdnod : List (List D)} {dent : List TEntry} {xdent : List (List D)} {dold : List TEntry} {xdold : List (List D)} {dste : List ByteArray} {xdste : List (List D)} {droo : Int} {dnex : Int} {o : List Tlink} {xo : List (List D)} (hdnod : dnod.map eNode = xdnod) (hdent : dent.map eEntry = xdent) (hdold : dold.map eEntry = xdold) (hdste : dste.map cS = xdste) (hd : okD ⟨dnod, dent, dold, dste, droo, dnex⟩) (hr : rlinks (⟨dnod, dent, dold, dste, droo, dnex⟩ : TDisk) = o) (ho : o.map elink = xo) : Fn Tryz.prog 113 [.agg [.d (.row 3 xdnod), .d (.row 2 xdent), .d (.row 2 xdold), .d (.row 1 xdste), I droo, I dnex]] [] ⟨.d (.row 11 xo), [], []⟩ := by
 refine Fn.go su_ch14 Tryz.func113 fun P hP Q hQ => ?_
 conv => cbv
 refine LoopW.lp (κ := Int × Int × (List (List D)) × Nat) su_ch14 hP [2] [1] (fun (i4, i5, zw3, nw3) => [(3, .ref 3 0 nw3), (4, I i4), (5, I i5)]) (fun (i4, i5, zw3, nw3) => [(3, .row 11 false zw3)])
   (fun (i4, i5, zw3, nw3) => ∃ (w3 : List Tlink), w3.map elink = zw3 ∧ nw3 = w3.length ∧ (w3.length ≤ 16 ∧ 0 ≤ i4 ∧ i4 ≤ 2000000000) ∧ rlinks (⟨dnod, dent, dold, dste, droo, dnex⟩ : TDisk) = w3 ++ linksL (⟨dnod, dent, dold, dste, droo, dnex⟩ : TDisk) (16 - w3.length) i4 i5)
   (fun (i4, i5, zw3, nw3) => 16 - nw3) (0, 0, [], 0) ⟨[], rfl, rfl, by simp, rfl⟩ ⟨rfl, rfl, rfl, trivial⟩ rfl ?_
 rintro ⟨i4, i5, zw3, nw3⟩ J ⟨w3, hw3, hnw3, hb, hI⟩ hJ
 conv => cbv
 refine .go fun v1 hv1 => ?_
 conv => cbv
 refine .lss (fun h2 => ?_) fun h2 => ?_
 conv => cbv
 generalize hr3 : rTextAt (⟨dnod, dent, dold, dste, droo, dnex⟩ : TDisk) i4 = r3
 refine .dd hP (FiTextAt hdnod hdent hdold hdste hd hr3) ?_
 conv => cbv
 have z3 := rTextAt_le hd hr3
 rcases hr4 : rScanText r3 with ⟨r4ok, ⟨r4heaver, r4heastr, r4heabas, r4healin⟩, r4rec, r4off, r4end, r4mar⟩
 generalize hr4rec : r4rec.map cS = xr4rec
 generalize hr4off : r4off.map cI = xr4off
 refine .dd hP (FiScanText (by omega) hr4 hr4rec hr4off) ?_
 conv => cbv
 have zr := rScan_recs (b := r3)
 have zq := rScan_sz (b := r3)
 rw [hr4] at zr zq
 simp only [] at zr zq
 have rq : rRecordsIn r3 = r4rec := by unfold rRecordsIn; rw [hr4]
 generalize hr5 : rGoesOn r3 i4 i5 = r5
 refine .dd hP (FiGoesOn (by omega) hr5) ?_
 cases r5
 conv => cbv
 have e : w3 = rlinks (⟨dnod, dent, dold, dste, droo, dnex⟩ : TDisk) := (by rw [hI, linksL_no hr3 (.inl hr5), List.append_nil])
 rw [hr] at e
 subst e
 exact hQ _ _ (.r rfl rfl (by rw [← hw3, List.length_map]; first | omega | (simp; omega)) (by rw [← hw3, ← ho]))
 conv => cbv
 refine .go hr4rec fun v6 hv6 => ?_
 conv => cbv
 refine .eql (fun h7 => ?_) fun h7 => ?_
 conv => cbv
 have e : w3 = rlinks (⟨dnod, dent, dold, dste, droo, dnex⟩ : TDisk) := (by rw [hI, linksL_no hr3 (.inr (by rw [rq]; exact List.eq_nil_of_length_eq_zero (by omega))), List.append_nil])
 rw [hr] at e
 subst e
 exact hQ _ _ (.r rfl rfl (by rw [← hw3, List.length_map]; first | omega | (simp; omega)) (by rw [← hw3, ← ho]))
 conv => cbv
 have hg := rGoesOn_t hr5
 obtain ⟨hh, g1, g2, g3, g4, g5⟩ := hg
 have hne : r4rec ≠ [] := by intro e; rw [e] at hv6; simp at hv6; exact h7 hv6
 refine .one (⟨i4, r3, ⟨r4ok, ⟨r4heaver, r4heastr, r4heabas, r4healin⟩, r4rec, r4off, r4end, r4mar⟩⟩ : Tlink) hw3 (by rw [← hr4rec, ← hr4off]; rfl) fun nz8 z8 hnz8 hz8 => ?_
 conv => cbv
 refine .go hr4rec fun v9 hv9 => ?_
 conv => cbv
 refine .add fun v10 hv10 => ?_
 conv => cbv
 generalize hr11 : rlinkAll i5 r4rec = r11
 refine .dd hP (FilinkAll hr4rec (by omega) zq hr11) ?_
 conv => cbv
 exact .go [10] (v10, r11, z8, nz8) (hJ _ ⟨_, hz8, (by first | omega | (simp; omega)), by rw [List.length_append]; simp; omega, by rw [hI, show 16 - w3.length = (15 - w3.length) + 1 by omega, linksL_next hr3 hr5 (by rw [rq]; exact hne), List.append_assoc, hr4, List.length_append, rq, hr11, ← hv9, ← hv10]; simp only [List.length_singleton]; rw [show 16 - (w3.length + 1) = 15 - w3.length by omega]; rfl⟩ (by first | (dsimp only; omega) | omega))
 conv => cbv
 have e : w3 = rlinks (⟨dnod, dent, dold, dste, droo, dnex⟩ : TDisk) := (by rw [hI, show 16 - w3.length = 0 by omega]; simp [linksL])
 rw [hr] at e
 subst e
 exact hQ _ _ (.r rfl rfl (by rw [← hw3, List.length_map]; first | omega | (simp; omega)) (by rw [← hw3, ← ho]))
theorem FsChain {dnod : List TNode} {xdnod : List (List D)} {dent : List TEntry} {xdent : List (List D)} {dold : List TEntry} {xdold : List (List D)} {dste : List ByteArray} {xdste : List (List D)} {droo : Int} {dnex : Int} {o : List Int} {xo : List (List D)} (hdnod : dnod.map eNode = xdnod) (hdent : dent.map eEntry = xdent) (hdold : dold.map eEntry = xdold) (hdste : dste.map cS = xdste) (hd : okD ⟨dnod, dent, dold, dste, droo, dnex⟩) (hr : rChain (⟨dnod, dent, dold, dste, droo, dnex⟩ : TDisk) = o) (ho : o.map cI = xo) : Fn Tryz.prog 58 [.agg [.d (.row 3 xdnod), .d (.row 2 xdent), .d (.row 2 xdold), .d (.row 1 xdste), I droo, I dnex]] [] ⟨.d (.row 1 xo), [], []⟩ := by
 refine Fn.go su_ch14 Tryz.func58 fun P hP Q hQ => ?_
 conv => cbv
 refine LoopW.lp (κ := Int × Int × (List (List D)) × Nat) su_ch14 hP [2] [1] (fun (i4, i5, zw3, nw3) => [(3, .ref 3 0 nw3), (4, I i4), (5, I i5)]) (fun (i4, i5, zw3, nw3) => [(3, .row 1 false zw3)])
   (fun (i4, i5, zw3, nw3) => ∃ (w3 : List Int), w3.map cI = zw3 ∧ nw3 = w3.length ∧ (w3.length ≤ 16 ∧ 0 ≤ i4 ∧ i4 ≤ 2000000000) ∧ rChain (⟨dnod, dent, dold, dste, droo, dnex⟩ : TDisk) = w3 ++ (linksL (⟨dnod, dent, dold, dste, droo, dnex⟩ : TDisk) (16 - w3.length) i4 i5).map (·.base_))
   (fun (i4, i5, zw3, nw3) => 16 - nw3) (0, 0, [], 0) ⟨[], rfl, rfl, by simp, rfl⟩ ⟨rfl, rfl, rfl, trivial⟩ rfl ?_
 rintro ⟨i4, i5, zw3, nw3⟩ J ⟨w3, hw3, hnw3, hb, hI⟩ hJ
 conv => cbv
 refine .go fun v1 hv1 => ?_
 conv => cbv
 refine .lss (fun h2 => ?_) fun h2 => ?_
 conv => cbv
 generalize hr3 : rTextAt (⟨dnod, dent, dold, dste, droo, dnex⟩ : TDisk) i4 = r3
 refine .dd hP (FsTextAt hdnod hdent hdold hdste hd hr3) ?_
 conv => cbv
 have z3 := rTextAt_le hd hr3
 generalize hr4 : rRecordsIn r3 = l4
 generalize hl4 : l4.map cS = xl4
 refine .dd hP (FsRecordsIn (by omega) hr4 hl4) ?_
 conv => cbv
 refine .go hl4 fun v5 hv5 => ?_
 conv => cbv
 refine .eql (fun h6 => ?_) fun h6 => ?_
 conv => cbv
 have e : w3 = rChain (⟨dnod, dent, dold, dste, droo, dnex⟩ : TDisk) := (by rw [hI, linksL_no hr3 (.inr (by rw [hr4]; exact List.eq_nil_of_length_eq_zero (by omega)))]; simp)
 rw [hr] at e
 subst e
 exact hQ _ _ (.r rfl rfl (by rw [← hw3, List.length_map]; first | omega | (simp; omega)) (by rw [← hw3, ← ho]))
 conv => cbv
 generalize hr7 : rGoesOn r3 i4 i5 = r7
 refine .dd hP (FsGoesOn (by omega) hr7) ?_
 cases r7
 conv => cbv
 have e : w3 = rChain (⟨dnod, dent, dold, dste, droo, dnex⟩ : TDisk) := (by rw [hI, linksL_no hr3 (.inl hr7)]; simp)
 rw [hr] at e
 subst e
 exact hQ _ _ (.r rfl rfl (by rw [← hw3, List.length_map]; first | omega | (simp; omega)) (by rw [← hw3, ← ho]))
 conv => cbv
 have hg := rGoesOn_t hr7
 obtain ⟨hh, g1, g2, g3, g4, g5⟩ := hg
 have hne : l4 ≠ [] := by intro e; rw [e] at hv5; simp at hv5; exact h6 hv5
 have zr := rScan_recs (b := r3)
 have rq : (rScanText r3).records_ = l4 := hr4
 rw [rq] at zr
 refine .one i4 hw3 rfl fun nz8 z8 hnz8 hz8 => ?_
 conv => cbv
 generalize hr9 : rLinkAfter r3 = r9
 refine .dd hP (FsLinkAfter (by omega) hr9) ?_
 conv => cbv
 refine .add fun v10 hv10 => ?_
 conv => cbv
 exact .go [5] (v10, r9, z8, nz8) (hJ _ ⟨_, hz8, (by first | omega | (simp; omega)), by rw [List.length_append]; simp; omega, by rw [hI, show 16 - w3.length = (15 - w3.length) + 1 by omega, linksL_next hr3 hr7 (by rw [hr4]; exact hne), hr4, List.map_cons, List.append_assoc, List.length_append, ← linkAfter_goes_eq hr7 hr4, hr9, ← hv5, ← hv10]; simp only [List.length_singleton]; rw [show 16 - (w3.length + 1) = 15 - w3.length by omega]; rfl⟩ (by first | (dsimp only; omega) | omega))
 conv => cbv
 have e : w3 = rChain (⟨dnod, dent, dold, dste, droo, dnex⟩ : TDisk) := (by rw [hI, show 16 - w3.length = 0 by omega]; simp [linksL])
 rw [hr] at e
 subst e
 exact hQ _ _ (.r rfl rfl (by rw [← hw3, List.length_map]; first | omega | (simp; omega)) (by rw [← hw3, ← ho]))
end Go.Proofs.YtmhinjjgpabkfaaGreatDoor.Ab
