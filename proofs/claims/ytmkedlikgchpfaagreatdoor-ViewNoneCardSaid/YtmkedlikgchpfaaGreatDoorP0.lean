/- The functions that a function leads to, by a table of calls. -/
import Derived.Test.YtmkedlikgchpfaaGreatDoorChecked
import GoSem.ClaimFn
import Derived.KernelRfl
namespace Go.Proofs.YtmkedlikgchpfaaGreatDoor
open Go
set_option maxRecDepth 1000000
section
variable {P : Program}
noncomputable def leadsAt (P : Program) (g : Nat) : List Nat := (P.funcs[g]?).elim [] P.leadsTo
noncomputable def chunkAt (P : Program) (c : Nat) : List (List Nat) := (List.range' (32 * c) 32).map (leadsAt P)
def TabOk (P : Program) : Nat → List (List (List Nat)) → Prop
  | _, [] => True
  | c, x :: r => x = chunkAt P c ∧ TabOk P (c + 1) r
theorem tabOk_at : ∀ {tab : List (List (List Nat))} {c : Nat}, TabOk P c tab → ∀ (i : Nat) x, tab[i]? = some x → x = chunkAt P (c + i) := by
  intro tab
  induction tab with
  | nil => intro c _ i x h; simp at h
  | cons y r ih =>
    intro c h i x hi
    cases i with
    | zero => simp at hi; subst hi; exact h.1
    | succ i => have := ih h.2 i x (by simpa using hi); rwa [show c + 1 + i = c + (i + 1) by omega] at this
def lookT (tab : List (List (List Nat))) (g : Nat) : List Nat := match tab[g / 32]? with | some l => l.getD (g % 32) [] | none => []
theorem look_eq {tab : List (List (List Nat))} (h : TabOk P 0 tab) (hs : P.funcs.size ≤ 32 * tab.length) (g : Nat) : leadsAt P g = lookT tab g := by
  unfold lookT
  cases ht : tab[g / 32]? with
  | none =>
    have := List.getElem?_eq_none_iff.1 ht
    have hg : P.funcs.size ≤ g := by omega
    simp [leadsAt, hg]
  | some l =>
    have hl := tabOk_at h _ _ ht
    rw [Nat.zero_add] at hl
    subst hl
    have hm : g % 32 < 32 := Nat.mod_lt _ (by omega)
    have e : 32 * (g / 32) + g % 32 = g := by omega
    show leadsAt P g = (chunkAt P (g / 32)).getD (g % 32) []
    unfold chunkAt
    rw [List.getD_eq_getElem?_getD, List.getElem?_map, List.getElem?_range' hm, Option.map_some, Option.getD_some, Nat.one_mul, e]
/-- the closure, with what was seen as bits -/
def closD (T : Nat → List Nat) : Nat → List Nat → List Nat → Nat → Option (List Nat)
  | n, todo, seen, m => match todo with
    | [] => some seen.reverse
    | f :: todo => (match n with
      | 0 => none
      | n + 1 => bif Nat.testBit m f then closD T n todo seen m else closD T n (T f ++ todo) (f :: seen) (Nat.lor m (Nat.shiftLeft 1 f)))
theorem closD_ok {T : Nat → List Nat} (hT : ∀ g, leadsAt P g = T g) : ∀ (n : Nat) (todo seen : List Nat) (m : Nat) (L : List Nat), closD T n todo seen m = some L → (∀ g, seen.contains g = Nat.testBit m g) → ∀ k, n ≤ k → P.closureVia k todo seen = L := by
  intro n
  induction n with
  | zero =>
    intro todo seen m L h _ k _
    cases todo with
    | nil => cases h; cases k <;> rfl
    | cons f todo => cases h
  | succ n ih =>
    intro todo seen m L h hm k hk
    cases todo with
    | nil => cases h; cases k <;> rfl
    | cons f todo =>
      obtain ⟨k, rfl⟩ : ∃ j, k = j + 1 := ⟨k - 1, by omega⟩
      have h : (bif Nat.testBit m f then closD T n todo seen m else closD T n (T f ++ todo) (f :: seen) (Nat.lor m (Nat.shiftLeft 1 f))) = some L := h
      show (if seen.contains f then P.closureVia k todo seen else P.closureVia k ((P.funcs[f]?).elim [] P.leadsTo ++ todo) (f :: seen)) = L
      rw [hm f]
      cases hb : Nat.testBit m f with
      | true => rw [hb] at h; exact ih todo seen m L h hm k (by omega)
      | false =>
        rw [hb] at h
        have e : (P.funcs[f]?).elim [] P.leadsTo = T f := hT f
        rw [e]
        refine ih _ _ _ L h (fun g => ?_) k (by omega)
        show (f :: seen).contains g = Nat.testBit (m ||| 1 <<< f) g
        rw [List.contains_cons, hm g, Nat.testBit_or, Nat.testBit_shiftLeft]
        by_cases e1 : g = f
        · subst e1; simp
        · have e2 : (g == f) = false := by simpa using e1
          rw [e2, Bool.false_or]
          by_cases e3 : f ≤ g
          · have : Nat.testBit 1 (g - f) = false := by rw [show (1 : Nat) = 2 ^ 0 from rfl, Nat.testBit_two_pow_of_ne (by omega)]
            simp [this]
          · simp [e3]
theorem sum_eq : (P.funcs.toList.map fun g => (P.leadsTo g).length + 1) = (List.range P.funcs.size).map fun g => (leadsAt P g).length + 1 := by
  apply List.ext_getElem?
  intro i
  rw [List.getElem?_map, List.getElem?_map, Array.getElem?_toList]
  by_cases hi : i < P.funcs.size
  · rw [List.getElem?_range hi]
    simp [leadsAt, hi]
  · rw [List.getElem?_eq_none (by simp; omega), Array.getElem?_eq_none (by omega)]
    rfl
theorem closure_of {tab : List (List (List Nat))} (h : TabOk P 0 tab) {s : Nat} (hs : P.funcs.size = s) (hl : Nat.ble s (32 * tab.length) = true) (f N : Nat) (L : List Nat)
    (hd : closD (lookT tab) N [f] [] 0 = some L) (hN : Nat.ble N (1 + ((List.range s).map fun g => (lookT tab g).length + 1).sum) = true) : P.closure f = L := by
  have hT := look_eq h (by rw [hs]; exact Nat.le_of_ble_eq_true hl)
  unfold Program.closure
  rw [sum_eq, hs]
  have e : (fun g => (leadsAt P g).length + 1) = fun g => (lookT tab g).length + 1 := funext fun g => by rw [hT]
  rw [e]
  exact closD_ok hT N [f] [] 0 L hd (fun g => by simp) _ (Nat.le_of_ble_eq_true hN)
theorem filterMap_cat {α β : Type} {F : α → Option β} {a b : List α} {x y : List β} (h : a.filterMap F = x) (h' : b.filterMap F = y) : (a ++ b).filterMap F = x ++ y := by rw [List.filterMap_append, h, h']
theorem flatMap_cat {α β : Type} {F : α → List β} {a b : List α} {x y : List β} (h : a.flatMap F = x) (h' : b.flatMap F = y) : (a ++ b).flatMap F = x ++ y := by rw [List.flatMap_append, h, h']
end
def tab0 : List (List Nat) := [[],[],[1],[4,5,6,7,8,9,10,11,12,13,6,11,5],[14],[16,15,12,17,6,6,8,8,10,6,7,18,18],[19],[19,20],[19,21,22,23,24],[19],[19],[25],[27,26,27,28,27,29],[],[],[30],[],[],[31],[25,32,33,34],[],[],[36,35],[38,37],[],[40,39],[42],[],[43,44,45,47,46,49,46],[52,53,54],[55,56,57,58,59,60,61,62,63,64,65,66,67,68,69,70,71,72,73,74,75,76,77,78],[]]
theorem tab0_ok : tab0 = chunkAt Tryz.prog 0 := by kernel_rfl
def tab1 : List (List Nat) := [[79],[80,81],[22,82,83,80],[],[],[84,85,86,87,88,89,90,91,92,37,37],[93,94],[95,96],[41],[97,98,99,100,101],[103,102,104],[99,105,106,107],[108,108,108],[109,29,110,111],[29,112],[48],[113,106,115,116,114,110],[50,20,51],[113,117,118,120,122,119],[123,98,99,117,118,121,124,125,127,128,129,119],[44,132,132],[133,134],[135],[57],[58],[99,136,137,138],[138,139,136,140,142,141],[143,144],[145,144],[63],[64],[99,146,147,138]]
theorem tab1_ok : tab1 = chunkAt Tryz.prog 1 := by kernel_rfl
def tab2 : List (List Nat) := [[138,139,146,148,150,151,149,153,154,155,152],[156,157,158,159,157,160,157,161,157,162,157],[156,163,164,153,154,152,165],[69],[70],[99,166,167,168,71,169,170,172,173,70,174],[138,168,72,169,175,176,172,139,178,179,181,180,182],[156,20,163,183,184,185,186,187,177,188],[156,20,171,189,190,191,190,188],[75],[76],[99,192,193,138],[138,139,194],[156,192,195,196],[156,194,195,197],[198,199],[200,81,82,201],[],[21,83],[],[90],[202,202],[203,204],[205,205,205,206],[],[90,90,90],[207,207],[90,90],[90,90,90,90],[],[],[208]]
theorem tab2_ok : tab2 = chunkAt Tryz.prog 2 := by kernel_rfl
def tab3 : List (List Nat) := [[209,210,95,211],[30],[212,213],[214,215,178],[178],[],[216],[],[217,218,219],[],[220,221],[222,224,223],[],[52,226,225,135,226,228,227],[229,230,231],[232,226,227],[111],[233],[234,235,236,237],[],[],[113,238,240,241,239],[222,243,242,244,246,245],[],[121],[107,115,116,114,110],[110],[],[247,248,249],[126,114],[251,250],[106,115,116,114]]
theorem tab3_ok : tab3 = chunkAt Tryz.prog 3 := by kernel_rfl
def tab4 : List (List Nat) := [[110],[131,130,121],[],[],[217],[252,253],[254,254,254,255],[44],[],[140,256,257,258],[139,99,259,260,261],[262],[],[263,264,265],[266,260],[156,256,257,140,267],[268],[156,142,141,140,142,141],[],[157,158,159,269,157,161,157,270,271,149,157,160,157],[264],[],[],[],[263,264,265,157],[],[260],[273],[220,32,79,274],[275,275],[276,277,278,278],[280,279]]
theorem tab4_ok : tab4 = chunkAt Tryz.prog 4 := by kernel_rfl
def tab5 : List (List Nat) := [[159,155],[159,281],[157,158,159,269,157,157,160,157],[282],[],[148,155,152],[283,284],[],[285],[287],[171],[288,290,289],[291],[139,182],[292,293,294],[],[177],[288,295,296,296,296,79,297],[],[],[298,299],[175,301,300,139],[302,99,303,304],[],[305,191],[306,305],[306],[],[307,308],[288,290,289],[],[20]]
theorem tab5_ok : tab5 = chunkAt Tryz.prog 5 := by kernel_rfl
def tab6 : List (List Nat) := [[158],[],[263,264,265],[310],[192],[194],[311],[],[312,313,113,314,315,171],[83],[90,90],[38],[],[206],[316,316,316],[],[],[317],[318],[320,319],[],[],[321,322,220,323],[],[],[],[],[],[324,309,325],[],[243,326,327],[]]
theorem tab6_ok : tab6 = chunkAt Tryz.prog 6 := by kernel_rfl
def tab7 : List (List Nat) := [[328],[330,332,334,336,329],[],[337,339,341,329],[343],[98,44],[344,345],[212,346,347],[212,349,348,228,350,351],[229,352],[98,353,354],[355],[],[356,357,358,359,231],[234,358],[107,360,361],[],[],[],[79],[],[362,363],[],[229,364],[],[],[365],[366],[367],[],[368,369],[370]]
theorem tab7_ok : tab7 = chunkAt Tryz.prog 7 := by kernel_rfl
def tab8 : List (List Nat) := [[158],[281],[266],[371],[32,373],[],[20],[276,20,374,278,220],[375],[220,324,242,376,377,325],[273],[256,258],[378,379,380,381],[159],[],[272],[158,159],[382],[99],[383,384],[220],[385,295,375,295],[386,387],[],[],[295,388,32],[],[292,32,389],[283,390,182],[286],[287,20,372,259,391,393,392,262],[395,259]]
theorem tab8_ok : tab8 = chunkAt Tryz.prog 8 := by kernel_rfl
def tab9 : List (List Nat) := [[79],[],[295],[287,397,396,291],[99],[],[398],[399],[400],[401],[],[402],[],[],[],[302,20],[403,398],[],[],[38,404],[309],[207,207],[],[405],[117],[113,238,240,241,406],[113,313,407],[30],[90],[408,409,410,411,412],[413,408,414,415,410],[]]
theorem tab9_ok : tab9 = chunkAt Tryz.prog 9 := by kernel_rfl
def tab10 : List (List Nat) := [[],[79],[],[398],[416],[221],[],[309],[],[],[331],[],[333],[417,335],[335],[252,418],[367,418],[338],[419,420,421,422,423,336,329],[340],[424,425],[342],[419,426,336,329],[427],[44,428,429,430,431],[432],[],[],[433],[434],[38,435],[]]
theorem tab10_ok : tab10 = chunkAt Tryz.prog 10 := by kernel_rfl
def tab11 : List (List Nat) := [[436,437],[438],[],[],[212,346,439,440],[212,346,442,441,443,440],[359,436],[444],[],[],[],[445],[446],[],[],[217],[],[],[447],[372],[],[448,449,449,449,450],[295],[452,451],[453],[454,20,455],[],[],[],[383,456,378,457,381],[458],[]]
theorem tab11_ok : tab11 = chunkAt Tryz.prog 11 := by kernel_rfl
def tab12 : List (List Nat) := [[384],[276],[38,459],[309],[460],[461,261],[462],[],[],[394],[],[138],[],[],[463],[400],[],[400],[464,464,464],[],[465,466,467,468,469,470,471,472,404,404],[],[224,473,473,106,360,361],[113,474],[],[],[],[],[475,409,476,477,409,478,479,478,477,414,410,411],[],[],[480,409,481,481]]
theorem tab12_ok : tab12 = chunkAt Tryz.prog 12 := by kernel_rfl
def tab13 : List (List Nat) := [[198,482],[254,254,255],[483],[331,53],[484,485,132],[333],[],[422],[419,53,486,487,484,422],[333,336],[333],[44],[],[488],[38,489],[],[490,492,491],[],[],[493,494,495,496,497,498,499,500,435,435],[212,228,53],[44,501,344],[],[502],[347],[427,108,503,504],[213],[502],[44,108],[505,505,505],[352],[]]
theorem tab13_ok : tab13 = chunkAt Tryz.prog 13 := by kernel_rfl
def tab14 : List (List Nat) := [[506,507],[506],[],[508],[509,510],[],[512,511],[513,514],[],[],[515,516,517,518],[519,520,521,522,523,524,525,526,459,459],[527,528,529],[530],[],[],[],[],[531,531],[203,204],[532,532,532,533],[],[],[],[],[],[534,535],[],[],[],[],[]]
theorem tab14_ok : tab14 = chunkAt Tryz.prog 14 := by kernel_rfl
def tab15 : List (List Nat) := [[],[],[],[],[],[],[536],[132,485],[],[537,538,539,540,541,542,543,544,545,489,489],[546,547,546,547,546,547,546,547,548,549,550,551,552,553],[],[],[],[554,554],[203,204],[555,555,555,556],[],[],[],[],[557],[427,108,559,558,504],[560],[213],[],[561],[562],[],[],[563],[]]
theorem tab15_ok : tab15 = chunkAt Tryz.prog 15 := by kernel_rfl
def tab16 : List (List Nat) := [[309],[],[564],[],[94,565,566],[],[567,568],[],[569,569],[203,204],[570,570,570,571],[],[],[],[],[572,573],[572,574,529],[575],[],[],[533],[576,576,576],[234],[358],[577],[543],[578,578],[203,204],[579,579,579,580],[],[543,543,543],[581,581]]
theorem tab16_ok : tab16 = chunkAt Tryz.prog 16 := by kernel_rfl
def tab17 : List (List Nat) := [[543,543],[543,543,543,543],[94,582],[584,583],[585],[586],[585],[587,584],[585,582],[587,584,588,583],[],[556],[589,589,589],[432],[396],[],[],[],[],[590,591],[592,592,592],[],[],[],[593,594],[],[571],[595,595,595],[],[596],[],[597,598,597,599,598,600]]
theorem tab17_ok : tab17 = chunkAt Tryz.prog 17 := by kernel_rfl
def tab18 : List (List Nat) := [[],[],[543,543],[580],[601,601,601],[],[],[],[],[],[584],[586],[602],[],[],[],[],[],[],[],[],[603],[],[],[604],[543],[],[],[],[],[],[]]
theorem tab18_ok : tab18 = chunkAt Tryz.prog 18 := by kernel_rfl
def tab19 : List (List Nat) := [[],[],[],[],[],[],[],[],[],[],[],[],[],[],[],[],[],[],[],[],[],[],[],[],[],[],[],[],[],[],[],[]]
theorem tab19_ok : tab19 = chunkAt Tryz.prog 19 := by kernel_rfl
def tab20 : List (List Nat) := [[],[],[],[],[],[],[],[],[],[],[],[],[],[],[],[],[],[],[],[383,642,642,642],[],[],[],[],[],[],[],[],[],[],[],[]]
theorem tab20_ok : tab20 = chunkAt Tryz.prog 20 := by kernel_rfl
def tabL : List (List (List Nat)) := [tab0, tab1, tab2, tab3, tab4, tab5, tab6, tab7, tab8, tab9, tab10, tab11, tab12, tab13, tab14, tab15, tab16, tab17, tab18, tab19, tab20]
theorem tab_ok : TabOk Tryz.prog 0 tabL := ⟨tab0_ok, tab1_ok, tab2_ok, tab3_ok, tab4_ok, tab5_ok, tab6_ok, tab7_ok, tab8_ok, tab9_ok, tab10_ok, tab11_ok, tab12_ok, tab13_ok, tab14_ok, tab15_ok, tab16_ok, tab17_ok, tab18_ok, tab19_ok, tab20_ok, trivial⟩
theorem funcs_size : Tryz.prog.funcs.size = 660 := by kernel_rfl
def cl3_0 : List Nat := [3,4,14,5,16,15,30,55,57,99,214,321,79,198,311,405,199,322,220,324,416,482,309,207,325,221,323,398,463,215,178,136,137,140,256,158,276,277,385,295,399,400,375,452,509,510,563,590,591,451,508,278,386,38,93,94,459,519,520,569,521,203,204,522,570,571,595,523,524,525,526,387,257,281,388,460,527,572,573,596,528,574,529,575,597,603,598,599,600,604,32,258,266,273,382,458,515,516,565,566]
def cl3_1 : List Nat := [517,518,567,568,593,594,138,139,262,20,259,371,372,260,373,448,506,561,507,562,449,450,261,56,58,142,141,263,374,264,265,242,376,453,377,454,512,511,455,513,514,564,592,59,143,156,274,267,144,268,378,379,380,381,383,456,457,60,145,61,63,146,147,157,275,384,159,280,279,269,161,270,271,272,149,160,155,62,64,148,150,151,153,154,152,65,162,66,163,282,164,165,67,69,166,283,292,389,461,530]
def cl3_2 : List Nat := [284,390,462,182,302,303,304,403,167,168,285,286,287,395,391,393,394,392,71,183,184,305,191,185,306,186,187,177,288,296,297,401,188,307,404,465,466,531,467,468,532,533,576,469,470,471,472,308,169,170,171,290,289,172,291,397,396,173,70,72,189,190,175,176,179,181,301,300,180,298,299,402,464,174,293,294,68,73,75,192,193,74,76,194,77,195,310,196,78,197,12,27,26,42,103,102,216,104,217,218]
def cl3_3 : List Nat := [219,28,43,105,106,107,222,243,326,327,224,328,223,44,108,45,109,52,132,226,225,330,331,332,333,417,254,368,369,255,370,447,335,252,367,418,483,334,336,329,135,228,343,427,227,337,338,419,53,133,253,134,420,484,485,421,422,423,339,340,424,486,536,577,487,425,341,342,426,29,54,110,229,98,212,213,230,344,428,429,488,430,489,537,543,581,538,578,539,540,579,580,601,541,542,544,545,431,345,432]
def cl3_4 : List Nat := [490,546,582,547,584,583,548,585,549,586,550,551,587,552,553,588,602,492,491,231,346,347,111,232,349,434,348,433,350,435,493,494,554,495,496,555,556,589,497,498,499,500,351,47,48,113,233,352,436,437,501,557,115,116,114,234,353,438,354,235,355,236,237,356,439,502,559,558,504,440,357,442,441,503,560,443,358,359,444,46,112,49,50,117,238,240,241,239,360,361,118,244,246,245,362,363,445,505,120,121]
def cl3_5 : List Nat := [122,119,51,123,124,247,364,446,248,249,125,126,251,366,250,365,127,128,129,131,130,17,6,19,25,40,41,97,100,101,39,95,208,96,209,317,408,409,410,411,412,475,476,477,478,479,414,210,318,413,415,480,481,211,320,319,33,80,200,312,313,406,473,314,407,474,534,535,315,81,82,21,83,201,34,22,36,35,8,23,37,84,90,85,202,86,87,205,206,316,88,89,91,92,24,10,7,18,31,9]
def cl3_6 : List Nat := [11,13]
def cl3 : List Nat := cl3_0 ++ (cl3_1 ++ (cl3_2 ++ (cl3_3 ++ (cl3_4 ++ (cl3_5 ++ (cl3_6))))))
theorem closure3 : Tryz.prog.closure 3 = cl3 := closure_of tab_ok funcs_size (by kernel_rfl) 3 1074 cl3 (by kernel_rfl) (by kernel_rfl)
end Go.Proofs.YtmkedlikgchpfaaGreatDoor
