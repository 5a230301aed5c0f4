import Derived.Test.YtfmbifnbmlhhjaaF1
import Derived.Test.YtfmbifnbmlhhjaaA11
namespace Go.Proofs.Ytfmbifnbmlhhjaa
open Go Go.Vcg Go.IntWalk
set_option maxRecDepth 100000
set_option maxHeartbeats 20000000
set_option linter.unusedSimpArgs false
set_option linter.unusedVariables false
theorem c79 : CallOk Try.prog 79 := ⟨_, Try.func79, rfl, by kernel_rfl⟩
def sNoPage : ByteArray := ⟨#[110,111,32,115,117,99,104,32,112,97,103,101]⟩
def sForm : ByteArray := ⟨#[110,111,32,112,97,103,101,32,111,102,32,116,104,105,115,32,105,100]⟩
theorem litNoPage : (⟨#[110,111,32,115,117,99,104,32,112,97,103,101]⟩ : ByteArray) = sNoPage := rfl
theorem litForm : (⟨#[110,111,32,112,97,103,101,32,111,102,32,116,104,105,115,32,105,100]⟩ : ByteArray) = sForm := rfl
attribute [go_sem] litNoPage litForm
theorem flt11 : (sNoPage.toList == sNoPage.toList) = true := beq_self_eq_true _
theorem flt22 : (sForm.toList == sForm.toList) = true := beq_self_eq_true _
theorem flt12 : (sNoPage.toList == sForm.toList) = false := by rw [ba_toList, ba_toList]; decide
theorem flt21 : (sForm.toList == sNoPage.toList) = false := by rw [ba_toList, ba_toList]; decide
attribute [irreducible] sNoPage sForm
theorem is11_ok : TSpec Try.prog 80 [] [.ifc 117 (.pl (.string sNoPage)), .ifc 117 (.pl (.string sNoPage))] false [] (.pl (.bool true)) := by
  have h := isF_ok (s := sNoPage) (t := sNoPage)
  rwa [flt11] at h
theorem is22_ok : TSpec Try.prog 80 [] [.ifc 117 (.pl (.string sForm)), .ifc 117 (.pl (.string sForm))] false [] (.pl (.bool true)) := by
  have h := isF_ok (s := sForm) (t := sForm)
  rwa [flt22] at h
theorem is21_ok : TSpec Try.prog 80 [] [.ifc 117 (.pl (.string sForm)), .ifc 117 (.pl (.string sNoPage))] false [] (.pl (.bool false)) := by
  have h := isF_ok (s := sForm) (t := sNoPage)
  rwa [flt21] at h
/-- What stands in a page's bytes. -/
def pgK (b : List Int) : Int := b.getD 8 0
def pgN (b : List Int) : Nat := leN ((b.drop 10).take 2)
def pgB (b : List Int) : List Int := (b.drop 16).take (pgN b)
def pgOk (id : Int) (b : List Int) : Prop := headOk id (pgK b) (pgN b) ∧ encPage id (pgK b) (pgB b) = b
theorem pgN_lt {b : List Int} (h : okBytes b) : pgN b < 65536 := by
  have h1 := leN_lt ((b.drop 10).take 2) fun x hx => h x (List.mem_of_mem_drop (List.mem_of_mem_take hx))
  have h2 := pow256_le ((b.drop 10).take 2).length 2 (by rw [List.length_take]; omega)
  unfold pgN
  omega
theorem pgN_num {b : List Int} (h : okBytes b) : numI ((b.drop 10).take 2) = (pgN b : Nat) := by
  have := pgN_lt h
  unfold pgN at this ⊢
  exact nWrap (by omega) (by omega)
theorem okBytes_page (k n : Int) {xs : List Int} (hx : okBytes xs) : okBytes (encPage k n xs) := okBytes_append (okBytes_low _ 4) (okBytes_rest k n hx)
theorem page_length (k n : Int) {xs : List Int} (hx : xs.length ≤ 240) : (encPage k n xs).length = 256 := by
  unfold encPage
  rw [List.length_append, lowB_length, pageRest_length _ _ _ hx]
theorem parse1_ok {id : Int} {xs : List Int} (hl : xs.length < 2 ^ 40 := by exact pm) (ho : okBytes xs := by exact pm) (h1 : xs.length ≠ 256 := by exact pm) : TSpec Try.prog 79 [] [.pl (.int .i64 id), .pd (encI .u8 xs)] true [] (.tu [.ag [.pl (.int .i64 0), .pl (.int .i64 0), .pl (.int .i64 0), .nl], .ifc 117 (.pl (.string sNoPage))]) := by
  have hD := dN0
  refine sT 42 [.cell 4 109, .tmp 5] Try.func79 fun w0 S0 ρ0 φ0 => ?_
  repeat' (first | apply W.seq | apply W.skip | refine W.region (id := 0) ?_ | refine W.region (id := 1) ?_ | refine W.region (id := 2) ?_ | refine W.region (id := 4) ?_ | refine W.region (id := 5) ?_ | refine W.region (id := 7) ?_ | refine W.region (id := 8) ?_ | refine W.region (id := 9) ?_ | apply W.block | apply N.code | apply N.blk | apply Sl.nil | apply W.exit | apply W.ret | apply E.hit | apply E.code | apply E.fin | refine zM ?_ | apply O.i | refine sP ?_ | refine sQ fun _ => ?_ | refine sX fun _ => ?_ | (refine k1 false [] c77 ?_; refine k2 (valid_ok hv) ?_) | (refine rD (id := 6) anyW [8] ?_; refine rP 0 true fun _ => ?_; refine rP 1 false fun _ => ?_; refine rP 2 false fun _ => ?_; refine rP 3 true fun _ => ?_; refine rP 4 false fun _ => ?_; refine rP 5 false fun _ => ?_; refine rP 6 false fun _ => ?_; refine rO 7 fun _ _ _ _ _ => ?_; refine sX fun _ => ?_; refine rO 8 fun _ _ _ _ _ => ?_; refine sX fun _ => ?_; refine rE ?_) | (refine k1 false [] c78 ?_; refine k2 hpb ?_) | (refine k1 false [] c147 ?_; refine k2 bytesEqual_ok ?_) | refine zI ?_ ?_ | (intro hb; (try simp [-List.getD_eq_getElem?_getD] at hb); (try (exfalso; omega))))
  exact rS
theorem parse2_ok {id : Int} {xs : List Int} (ho : okBytes xs := by exact pm) (hl : xs.length = 256 := by exact pm) (h1 : ¬ pgOk id xs := by exact pm) : TSpec Try.prog 79 [] [.pl (.int .i64 id), .pd (encI .u8 xs)] true [] (.tu [.ag [.pl (.int .i64 0), .pl (.int .i64 0), .pl (.int .i64 0), .nl], .ifc 117 (.pl (.string sForm))]) := by
  have hn := pgN_num ho
  have hnl := pgN_lt ho
  have ho2 : okBytes ((xs.drop 10).take 2) := fun x hx => ho x (List.mem_of_mem_drop (List.mem_of_mem_take hx))
  have hby := okBytes_getD ho 8 (by omega)
  have hk : IntKind.i64.wrap (xs.getD 8 0) = xs.getD 8 0 := nWrap (by omega) (by omega)
  by_cases hh : headOk id (xs.getD 8 0) (pgN xs)
  · have hv : true = true ↔ headOk id (xs.getD 8 0) (pgN xs) := ⟨fun _ => hh, fun _ => rfl⟩
    obtain ⟨h2, h3, h4, h5, h6⟩ := (show headOk id (xs.getD 8 0) (pgN xs) from hh)
    have hbl : (pgB xs).length = pgN xs := by unfold pgB; rw [List.length_take, List.length_drop]; omega
    have hbo : okBytes (pgB xs) := fun x hx => ho x (List.mem_of_mem_drop (List.mem_of_mem_take hx))
    have hbd : (xs.drop 16).take ((16 + (pgN xs : Int)).toNat - 16) = pgB xs := by
      rw [show (16 + (pgN xs : Int)).toNat - 16 = pgN xs by omega]
      rfl
    have hpb := pageBytes_ok (k := id) (n := xs.getD 8 0) (xs := pgB xs) ⟨h2, by omega⟩ (by omega) hbo
    rw [hbl] at hpb
    have hpl := page_length id (xs.getD 8 0) (xs := pgB xs) (by omega)
    have hne : decide (encPage id (xs.getD 8 0) (pgB xs) = xs) = false := decide_eq_false fun e => h1 ⟨hh, e⟩
    have hpo : okBytes (encPage id (xs.getD 8 0) (pgB xs)) := okBytes_page _ _ hbo
    have hD := And.intro (hn) (And.intro (hk) (And.intro (hbd) ((hne))))
    have hD := And.intro (hn) (And.intro (hk) (And.intro (hbd) ((hne))))
    refine sT 42 [.cell 4 109, .tmp 5] Try.func79 fun w0 S0 ρ0 φ0 => ?_
    repeat' (first | apply W.seq | apply W.skip | apply W.region | apply W.block | apply N.code | apply N.blk | apply Sl.nil | apply W.exit | apply W.ret | apply E.hit | apply E.code | apply E.fin | refine zM ?_ | apply O.i | refine sP ?_ | refine sQ fun _ => ?_ | refine sX fun _ => ?_ | (refine rD (id := 3) (fun b => b == 6) [10] ?_; refine rP 0 false fun _ => ?_; refine rP 1 false fun _ => ?_; refine rP 2 false fun _ => ?_; refine rP 3 true fun _ => ?_; refine rP 4 false fun _ => ?_; refine rP 5 false fun _ => ?_; refine rP 6 false fun _ => ?_; (focus (refine rA [7, 9] (xO (fun _ _ _ _ _ => ?_) (xO (fun _ _ _ _ _ => ?_) RX.nil)); (focus (refine k1 false [] c146 ?_; refine k2 numberAt_ok ?_; refine rP 8 false fun _ => ?_; refine rO 9 fun _ _ _ _ _ => ?_; refine sX fun _ => ?_; refine rO 10 fun _ _ _ _ _ => ?_; refine sX fun _ => ?_; refine rE ?_)); rotate_left; (focus (refine sX fun _ => ?_; refine rO 7 fun _ _ _ _ _ => ?_; refine k1 false [] c146 ?_; refine k2 numberAt_ok ?_; refine rP 8 false fun _ => ?_; refine rO 10 fun _ _ _ _ _ => ?_; refine sX fun _ => ?_; refine rE ?_)); rotate_left))) | (refine k1 false [] c77 ?_; refine k2 (valid_ok hv) ?_) | (refine rD (id := 6) (fun b => b == 7) [8] ?_; refine rP 0 true fun _ => ?_; refine rP 1 false fun _ => ?_; refine rP 2 false fun _ => ?_; refine rP 3 true fun _ => ?_; refine rP 4 false fun _ => ?_; refine rP 5 false fun _ => ?_; refine rP 6 false fun _ => ?_; refine rO 7 fun _ _ _ _ _ => ?_; refine sX fun _ => ?_; refine rO 8 fun _ _ _ _ _ => ?_; refine sX fun _ => ?_; refine rE ?_) | (refine k1 false [] c78 ?_; refine k2 hpb ?_) | (refine k1 false [] c147 ?_; refine k2 bytesEqual_ok ?_) | refine zI ?_ ?_ | (intro hb; (try simp [-List.getD_eq_getElem?_getD] at hb); (try (exfalso; omega))))
    all_goals exact rS
  · have hv : false = true ↔ headOk id (xs.getD 8 0) (pgN xs) := ⟨fun e => (Bool.noConfusion e), fun e => absurd e hh⟩
    have hD := And.intro (hn) ((hk))
    have hD := And.intro (hn) ((hk))
    refine sT 42 [.cell 4 109, .tmp 5] Try.func79 fun w0 S0 ρ0 φ0 => ?_
    repeat' (first | apply W.seq | apply W.skip | apply W.region | apply W.block | apply N.code | apply N.blk | apply Sl.nil | apply W.exit | apply W.ret | apply E.hit | apply E.code | apply E.fin | refine zM ?_ | apply O.i | refine sP ?_ | refine sQ fun _ => ?_ | refine sX fun _ => ?_ | (refine rD (id := 3) (fun b => b == 6) [10] ?_; refine rP 0 false fun _ => ?_; refine rP 1 false fun _ => ?_; refine rP 2 false fun _ => ?_; refine rP 3 true fun _ => ?_; refine rP 4 false fun _ => ?_; refine rP 5 false fun _ => ?_; refine rP 6 false fun _ => ?_; (focus (refine rA [7, 9] (xO (fun _ _ _ _ _ => ?_) (xO (fun _ _ _ _ _ => ?_) RX.nil)); (focus (refine k1 false [] c146 ?_; refine k2 numberAt_ok ?_; refine rP 8 false fun _ => ?_; refine rO 9 fun _ _ _ _ _ => ?_; refine sX fun _ => ?_; refine rO 10 fun _ _ _ _ _ => ?_; refine sX fun _ => ?_; refine rE ?_)); rotate_left; (focus (refine sX fun _ => ?_; refine rO 7 fun _ _ _ _ _ => ?_; refine k1 false [] c146 ?_; refine k2 numberAt_ok ?_; refine rP 8 false fun _ => ?_; refine rO 10 fun _ _ _ _ _ => ?_; refine sX fun _ => ?_; refine rE ?_)); rotate_left))) | (refine k1 false [] c77 ?_; refine k2 (valid_ok hv) ?_) | (refine rD (id := 6) anyW [8] ?_; refine rP 0 true fun _ => ?_; refine rP 1 false fun _ => ?_; refine rP 2 false fun _ => ?_; refine rP 3 true fun _ => ?_; refine rP 4 false fun _ => ?_; refine rP 5 false fun _ => ?_; refine rP 6 false fun _ => ?_; refine rO 7 fun _ _ _ _ _ => ?_; refine sX fun _ => ?_; refine rO 8 fun _ _ _ _ _ => ?_; refine sX fun _ => ?_; refine rE ?_) | (refine k1 false [] c78 ?_; refine k2 hpb ?_) | (refine k1 false [] c147 ?_; refine k2 bytesEqual_ok ?_) | refine zI ?_ ?_ | (intro hb; (try simp [-List.getD_eq_getElem?_getD] at hb); (try (exfalso; omega))))
    all_goals exact rS
theorem parse3_ok {id : Int} {xs : List Int} (ho : okBytes xs := by exact pm) (hl : xs.length = 256 := by exact pm) (h1 : pgOk id xs := by exact pm) : TSpec Try.prog 79 [] [.pl (.int .i64 id), .pd (encI .u8 xs)] true [] (.tu [.ag [.pl (.int .i64 id), .pl (.int .i64 (pgK xs)), .pl (.int .i64 (pgN xs)), .pd (encI .u8 (pgB xs))], .pl .nilIface]) := by
  have hn := pgN_num ho
  have hnl := pgN_lt ho
  have ho2 : okBytes ((xs.drop 10).take 2) := fun x hx => ho x (List.mem_of_mem_drop (List.mem_of_mem_take hx))
  have hby := okBytes_getD ho 8 (by omega)
  have hk : IntKind.i64.wrap (xs.getD 8 0) = pgK xs := nWrap (by omega) (by omega)
  obtain ⟨hh, he⟩ := h1
  have hv : true = true ↔ headOk id (pgK xs) (pgN xs) := ⟨fun _ => hh, fun _ => rfl⟩
  obtain ⟨h2, h3, h4, h5, h6⟩ := (show headOk id (pgK xs) (pgN xs) from hh)
  have hbl : (pgB xs).length = pgN xs := by unfold pgB; rw [List.length_take, List.length_drop]; omega
  have hbo : okBytes (pgB xs) := fun x hx => ho x (List.mem_of_mem_drop (List.mem_of_mem_take hx))
  have hbd : (xs.drop 16).take ((16 + (pgN xs : Int)).toNat - 16) = pgB xs := by
    rw [show (16 + (pgN xs : Int)).toNat - 16 = pgN xs by omega]
    rfl
  have hpb := pageBytes_ok (k := id) (n := pgK xs) (xs := pgB xs) ⟨h2, by omega⟩ (by omega) hbo
  rw [hbl, he] at hpb
  clear hby he
  generalize pgK xs = kq at *
  generalize pgB xs = bq at *
  generalize pgN xs = nq at *
  have hD := And.intro (hn) (And.intro (hk) (And.intro (hbd) (@decide_true)))
  have hD := And.intro (hn) (And.intro (hk) (And.intro (hbd) (@decide_true)))
  refine sT 42 [.cell 4 109, .tmp 5] Try.func79 fun w0 S0 ρ0 φ0 => ?_
  repeat' (first | apply W.seq | apply W.skip | apply W.region | apply W.block | apply N.code | apply N.blk | apply Sl.nil | apply W.exit | apply W.ret | apply E.hit | apply E.code | apply E.fin | refine zM ?_ | apply O.i | refine sP ?_ | refine sQ fun _ => ?_ | refine sX fun _ => ?_ | (refine rD (id := 3) (fun b => b == 6) [10] ?_; refine rP 0 false fun _ => ?_; refine rP 1 false fun _ => ?_; refine rP 2 false fun _ => ?_; refine rP 3 true fun _ => ?_; refine rP 4 false fun _ => ?_; refine rP 5 false fun _ => ?_; refine rP 6 false fun _ => ?_; (focus (refine rA [7, 9] (xO (fun _ _ _ _ _ => ?_) (xO (fun _ _ _ _ _ => ?_) RX.nil)); (focus (refine k1 false [] c146 ?_; refine k2 numberAt_ok ?_; refine rP 8 false fun _ => ?_; refine rO 9 fun _ _ _ _ _ => ?_; refine sX fun _ => ?_; refine rO 10 fun _ _ _ _ _ => ?_; refine sX fun _ => ?_; refine rE ?_)); rotate_left; (focus (refine sX fun _ => ?_; refine rO 7 fun _ _ _ _ _ => ?_; refine k1 false [] c146 ?_; refine k2 numberAt_ok ?_; refine rP 8 false fun _ => ?_; refine rO 10 fun _ _ _ _ _ => ?_; refine sX fun _ => ?_; refine rE ?_)); rotate_left))) | (refine k1 false [] c77 ?_; refine k2 (valid_ok hv) ?_) | (refine rD (id := 6) (fun b => b == 7) [8] ?_; refine rP 0 true fun _ => ?_; refine rP 1 false fun _ => ?_; refine rP 2 false fun _ => ?_; refine rP 3 true fun _ => ?_; refine rP 4 false fun _ => ?_; refine rP 5 false fun _ => ?_; refine rP 6 false fun _ => ?_; refine rO 7 fun _ _ _ _ _ => ?_; refine sX fun _ => ?_; refine rO 8 fun _ _ _ _ _ => ?_; refine sX fun _ => ?_; refine rE ?_) | (refine k1 false [] c78 ?_; refine k2 hpb ?_) | (refine k1 false [] c147 ?_; refine k2 bytesEqual_ok ?_) | refine zI ?_ ?_ | (intro hb; (try simp [-List.getD_eq_getElem?_getD] at hb); (try (exfalso; omega))))
  all_goals exact rS
end Go.Proofs.Ytfmbifnbmlhhjaa

