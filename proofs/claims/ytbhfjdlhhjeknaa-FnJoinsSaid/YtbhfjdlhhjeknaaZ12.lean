/- What the proof names: lemmas and words, merged by a program from its parts. No condition. -/
import Derived.Test.YtbhfjdlhhjeknaaZ11
namespace Go.Proofs.Ytbhfjdlhhjeknaa.Ab
set_option linter.unusedVariables false
set_option linter.unusedSimpArgs false
open Go
theorem p000_0 : J1 0 0 0 0 := fun _ _ _ => by kernel_rfl
theorem p010_0 : J1 0 1 0 0 := fun _ _ _ => by kernel_rfl
theorem p010_1 : J1 0 1 0 1 := fun _ _ _ => by kernel_rfl
theorem p020_0 : J1 0 2 0 0 := fun _ _ _ => by kernel_rfl
theorem p020_1 : J1 0 2 0 1 := fun _ _ _ => by kernel_rfl
theorem p020_2 : J1 0 2 0 2 := fun _ _ _ => by kernel_rfl
theorem p030_0 : J1 0 3 0 0 := fun _ _ _ => by kernel_rfl
theorem p030_1 : J1 0 3 0 1 := fun _ _ _ => by kernel_rfl
theorem p030_2 : J1 0 3 0 2 := fun _ _ _ => by kernel_rfl
theorem p030_3 : J1 0 3 0 3 := fun _ _ _ => by kernel_rfl
theorem p040_0 : J1 0 4 0 0 := fun _ _ _ => by kernel_rfl
theorem p040_1 : J1 0 4 0 1 := fun _ _ _ => by kernel_rfl
theorem p040_2 : J1 0 4 0 2 := fun _ _ _ => by kernel_rfl
theorem p040_3 : J1 0 4 0 3 := fun _ _ _ => by kernel_rfl
theorem p040_4 : J1 0 4 0 4 := fun _ _ _ => by kernel_rfl
theorem p050_0 : J1 0 5 0 0 := fun _ _ _ => by kernel_rfl
theorem p050_1 : J1 0 5 0 1 := fun _ _ _ => by kernel_rfl
theorem p050_2 : J1 0 5 0 2 := fun _ _ _ => by kernel_rfl
theorem p050_3 : J1 0 5 0 3 := fun _ _ _ => by kernel_rfl
theorem p050_4 : J1 0 5 0 4 := fun _ _ _ => by kernel_rfl
theorem p050_5 : J1 0 5 0 5 := fun _ _ _ => by kernel_rfl
theorem p060_0 : J1 0 6 0 0 := fun _ _ _ => by kernel_rfl
theorem p060_1 : J1 0 6 0 1 := fun _ _ _ => by kernel_rfl
theorem p060_2 : J1 0 6 0 2 := fun _ _ _ => by kernel_rfl
theorem p060_3 : J1 0 6 0 3 := fun _ _ _ => by kernel_rfl
theorem p060_4 : J1 0 6 0 4 := fun _ _ _ => by kernel_rfl
theorem p060_5 : J1 0 6 0 5 := fun _ _ _ => by kernel_rfl
theorem p060_6 : J1 0 6 0 6 := fun _ _ _ => by kernel_rfl
theorem p100_0 : J1 1 0 0 0 := fun _ _ _ => by kernel_rfl
theorem p100_1 : J1 1 0 0 1 := fun _ _ _ => by kernel_rfl
theorem p110_0 : J1 1 1 0 0 := fun _ _ _ => by kernel_rfl
theorem p110_1 : J1 1 1 0 1 := fun _ _ _ => by kernel_rfl
theorem p110_2 : J1 1 1 0 2 := fun _ _ _ => by kernel_rfl
theorem p111_0 : J1 1 1 1 0 := fun _ _ _ => by kernel_rfl
theorem p120_0 : J1 1 2 0 0 := fun _ _ _ => by kernel_rfl
theorem p120_1 : J1 1 2 0 1 := fun _ _ _ => by kernel_rfl
theorem p120_2 : J1 1 2 0 2 := fun _ _ _ => by kernel_rfl
theorem p120_3 : J1 1 2 0 3 := fun _ _ _ => by kernel_rfl
theorem p121_0 : J1 1 2 1 0 := fun _ _ _ => by kernel_rfl
theorem p121_1 : J1 1 2 1 1 := fun _ _ _ => by kernel_rfl
theorem p130_0 : J1 1 3 0 0 := fun _ _ _ => by kernel_rfl
theorem p130_1 : J1 1 3 0 1 := fun _ _ _ => by kernel_rfl
theorem p130_2 : J1 1 3 0 2 := fun _ _ _ => by kernel_rfl
theorem p130_3 : J1 1 3 0 3 := fun _ _ _ => by kernel_rfl
theorem p130_4 : J1 1 3 0 4 := fun _ _ _ => by kernel_rfl
theorem p131_0 : J1 1 3 1 0 := fun _ _ _ => by kernel_rfl
theorem p131_1 : J1 1 3 1 1 := fun _ _ _ => by kernel_rfl
theorem p131_2 : J1 1 3 1 2 := fun _ _ _ => by kernel_rfl
theorem p140_0 : J1 1 4 0 0 := fun _ _ _ => by kernel_rfl
theorem p140_1 : J1 1 4 0 1 := fun _ _ _ => by kernel_rfl
theorem p140_2 : J1 1 4 0 2 := fun _ _ _ => by kernel_rfl
theorem p140_3 : J1 1 4 0 3 := fun _ _ _ => by kernel_rfl
theorem p140_4 : J1 1 4 0 4 := fun _ _ _ => by kernel_rfl
theorem p140_5 : J1 1 4 0 5 := fun _ _ _ => by kernel_rfl
theorem p141_0 : J1 1 4 1 0 := fun _ _ _ => by kernel_rfl
theorem p141_1 : J1 1 4 1 1 := fun _ _ _ => by kernel_rfl
theorem p141_2 : J1 1 4 1 2 := fun _ _ _ => by kernel_rfl
theorem p141_3 : J1 1 4 1 3 := fun _ _ _ => by kernel_rfl
theorem p150_0 : J1 1 5 0 0 := fun _ _ _ => by kernel_rfl
theorem p150_1 : J1 1 5 0 1 := fun _ _ _ => by kernel_rfl
theorem p150_2 : J1 1 5 0 2 := fun _ _ _ => by kernel_rfl
theorem p150_3 : J1 1 5 0 3 := fun _ _ _ => by kernel_rfl
theorem p150_4 : J1 1 5 0 4 := fun _ _ _ => by kernel_rfl
theorem p150_5 : J1 1 5 0 5 := fun _ _ _ => by kernel_rfl
theorem p150_6 : J1 1 5 0 6 := fun _ _ _ => by kernel_rfl
theorem p151_0 : J1 1 5 1 0 := fun _ _ _ => by kernel_rfl
theorem p151_1 : J1 1 5 1 1 := fun _ _ _ => by kernel_rfl
theorem p151_2 : J1 1 5 1 2 := fun _ _ _ => by kernel_rfl
theorem p151_3 : J1 1 5 1 3 := fun _ _ _ => by kernel_rfl
theorem p151_4 : J1 1 5 1 4 := fun _ _ _ => by kernel_rfl
theorem p160_0 : J1 1 6 0 0 := fun _ _ _ => by kernel_rfl
theorem p160_1 : J1 1 6 0 1 := fun _ _ _ => by kernel_rfl
theorem p160_2 : J1 1 6 0 2 := fun _ _ _ => by kernel_rfl
theorem p160_3 : J1 1 6 0 3 := fun _ _ _ => by kernel_rfl
theorem p160_4 : J1 1 6 0 4 := fun _ _ _ => by kernel_rfl
theorem p160_5 : J1 1 6 0 5 := fun _ _ _ => by kernel_rfl
theorem p160_6 : J1 1 6 0 6 := fun _ _ _ => by kernel_rfl
theorem p160_7 : J1 1 6 0 7 := fun _ _ _ => by kernel_rfl
theorem p161_0 : J1 1 6 1 0 := fun _ _ _ => by kernel_rfl
theorem p161_1 : J1 1 6 1 1 := fun _ _ _ => by kernel_rfl
theorem p161_2 : J1 1 6 1 2 := fun _ _ _ => by kernel_rfl
theorem p161_3 : J1 1 6 1 3 := fun _ _ _ => by kernel_rfl
theorem p161_4 : J1 1 6 1 4 := fun _ _ _ => by kernel_rfl
theorem p161_5 : J1 1 6 1 5 := fun _ _ _ => by kernel_rfl
theorem p200_0 : J1 2 0 0 0 := fun _ _ _ => by kernel_rfl
theorem p200_1 : J1 2 0 0 1 := fun _ _ _ => by kernel_rfl
theorem p200_2 : J1 2 0 0 2 := fun _ _ _ => by kernel_rfl
theorem p210_0 : J1 2 1 0 0 := fun _ _ _ => by kernel_rfl
theorem p210_1 : J1 2 1 0 1 := fun _ _ _ => by kernel_rfl
theorem p210_2 : J1 2 1 0 2 := fun _ _ _ => by kernel_rfl
theorem p210_3 : J1 2 1 0 3 := fun _ _ _ => by kernel_rfl
theorem p211_0 : J1 2 1 1 0 := fun _ _ _ => by kernel_rfl
theorem p211_1 : J1 2 1 1 1 := fun _ _ _ => by kernel_rfl
theorem p220_0 : J1 2 2 0 0 := fun _ _ _ => by kernel_rfl
theorem p220_1 : J1 2 2 0 1 := fun _ _ _ => by kernel_rfl
theorem p220_2 : J1 2 2 0 2 := fun _ _ _ => by kernel_rfl
theorem p220_3 : J1 2 2 0 3 := fun _ _ _ => by kernel_rfl
theorem p220_4 : J1 2 2 0 4 := fun _ _ _ => by kernel_rfl
theorem p221_0 : J1 2 2 1 0 := fun _ _ _ => by kernel_rfl
theorem p221_1 : J1 2 2 1 1 := fun _ _ _ => by kernel_rfl
theorem p221_2 : J1 2 2 1 2 := fun _ _ _ => by kernel_rfl
theorem p222_0 : J1 2 2 2 0 := fun _ _ _ => by kernel_rfl
theorem p230_0 : J1 2 3 0 0 := fun _ _ _ => by kernel_rfl
theorem p230_1 : J1 2 3 0 1 := fun _ _ _ => by kernel_rfl
theorem p230_2 : J1 2 3 0 2 := fun _ _ _ => by kernel_rfl
theorem p230_3 : J1 2 3 0 3 := fun _ _ _ => by kernel_rfl
theorem p230_4 : J1 2 3 0 4 := fun _ _ _ => by kernel_rfl
theorem p230_5 : J1 2 3 0 5 := fun _ _ _ => by kernel_rfl
theorem p231_0 : J1 2 3 1 0 := fun _ _ _ => by kernel_rfl
theorem p231_1 : J1 2 3 1 1 := fun _ _ _ => by kernel_rfl
theorem p231_2 : J1 2 3 1 2 := fun _ _ _ => by kernel_rfl
theorem p231_3 : J1 2 3 1 3 := fun _ _ _ => by kernel_rfl
theorem p232_0 : J1 2 3 2 0 := fun _ _ _ => by kernel_rfl
theorem p232_1 : J1 2 3 2 1 := fun _ _ _ => by kernel_rfl
theorem p240_0 : J1 2 4 0 0 := fun _ _ _ => by kernel_rfl
theorem p240_1 : J1 2 4 0 1 := fun _ _ _ => by kernel_rfl
theorem p240_2 : J1 2 4 0 2 := fun _ _ _ => by kernel_rfl
theorem p240_3 : J1 2 4 0 3 := fun _ _ _ => by kernel_rfl
theorem p240_4 : J1 2 4 0 4 := fun _ _ _ => by kernel_rfl
theorem p240_5 : J1 2 4 0 5 := fun _ _ _ => by kernel_rfl
theorem p240_6 : J1 2 4 0 6 := fun _ _ _ => by kernel_rfl
theorem p241_0 : J1 2 4 1 0 := fun _ _ _ => by kernel_rfl
theorem p241_1 : J1 2 4 1 1 := fun _ _ _ => by kernel_rfl
theorem p241_2 : J1 2 4 1 2 := fun _ _ _ => by kernel_rfl
theorem p241_3 : J1 2 4 1 3 := fun _ _ _ => by kernel_rfl
theorem p241_4 : J1 2 4 1 4 := fun _ _ _ => by kernel_rfl
theorem p242_0 : J1 2 4 2 0 := fun _ _ _ => by kernel_rfl
theorem p242_1 : J1 2 4 2 1 := fun _ _ _ => by kernel_rfl
theorem p242_2 : J1 2 4 2 2 := fun _ _ _ => by kernel_rfl
theorem p250_0 : J1 2 5 0 0 := fun _ _ _ => by kernel_rfl
theorem p250_1 : J1 2 5 0 1 := fun _ _ _ => by kernel_rfl
theorem p250_2 : J1 2 5 0 2 := fun _ _ _ => by kernel_rfl
theorem p250_3 : J1 2 5 0 3 := fun _ _ _ => by kernel_rfl
theorem p250_4 : J1 2 5 0 4 := fun _ _ _ => by kernel_rfl
theorem p250_5 : J1 2 5 0 5 := fun _ _ _ => by kernel_rfl
theorem p250_6 : J1 2 5 0 6 := fun _ _ _ => by kernel_rfl
theorem p250_7 : J1 2 5 0 7 := fun _ _ _ => by kernel_rfl
theorem p251_0 : J1 2 5 1 0 := fun _ _ _ => by kernel_rfl
theorem p251_1 : J1 2 5 1 1 := fun _ _ _ => by kernel_rfl
theorem p251_2 : J1 2 5 1 2 := fun _ _ _ => by kernel_rfl
theorem p251_3 : J1 2 5 1 3 := fun _ _ _ => by kernel_rfl
theorem p251_4 : J1 2 5 1 4 := fun _ _ _ => by kernel_rfl
theorem p251_5 : J1 2 5 1 5 := fun _ _ _ => by kernel_rfl
theorem p252_0 : J1 2 5 2 0 := fun _ _ _ => by kernel_rfl
theorem p252_1 : J1 2 5 2 1 := fun _ _ _ => by kernel_rfl
theorem p252_2 : J1 2 5 2 2 := fun _ _ _ => by kernel_rfl
theorem p252_3 : J1 2 5 2 3 := fun _ _ _ => by kernel_rfl
theorem p260_0 : J1 2 6 0 0 := fun _ _ _ => by kernel_rfl
theorem p260_1 : J1 2 6 0 1 := fun _ _ _ => by kernel_rfl
theorem p260_2 : J1 2 6 0 2 := fun _ _ _ => by kernel_rfl
theorem p260_3 : J1 2 6 0 3 := fun _ _ _ => by kernel_rfl
theorem p260_4 : J1 2 6 0 4 := fun _ _ _ => by kernel_rfl
theorem p260_5 : J1 2 6 0 5 := fun _ _ _ => by kernel_rfl
theorem p260_6 : J1 2 6 0 6 := fun _ _ _ => by kernel_rfl
theorem p260_7 : J1 2 6 0 7 := fun _ _ _ => by kernel_rfl
theorem p260_8 : J1 2 6 0 8 := fun _ _ _ => by kernel_rfl
theorem p261_0 : J1 2 6 1 0 := fun _ _ _ => by kernel_rfl
theorem p261_1 : J1 2 6 1 1 := fun _ _ _ => by kernel_rfl
theorem p261_2 : J1 2 6 1 2 := fun _ _ _ => by kernel_rfl
theorem p261_3 : J1 2 6 1 3 := fun _ _ _ => by kernel_rfl
theorem p261_4 : J1 2 6 1 4 := fun _ _ _ => by kernel_rfl
theorem p261_5 : J1 2 6 1 5 := fun _ _ _ => by kernel_rfl
theorem p261_6 : J1 2 6 1 6 := fun _ _ _ => by kernel_rfl
theorem p262_0 : J1 2 6 2 0 := fun _ _ _ => by kernel_rfl
theorem p262_1 : J1 2 6 2 1 := fun _ _ _ => by kernel_rfl
theorem p262_2 : J1 2 6 2 2 := fun _ _ _ => by kernel_rfl
theorem p262_3 : J1 2 6 2 3 := fun _ _ _ => by kernel_rfl
theorem p262_4 : J1 2 6 2 4 := fun _ _ _ => by kernel_rfl
theorem p300_0 : J1 3 0 0 0 := fun _ _ _ => by kernel_rfl
theorem p300_1 : J1 3 0 0 1 := fun _ _ _ => by kernel_rfl
theorem p300_2 : J1 3 0 0 2 := fun _ _ _ => by kernel_rfl
theorem p300_3 : J1 3 0 0 3 := fun _ _ _ => by kernel_rfl
theorem p310_0 : J1 3 1 0 0 := fun _ _ _ => by kernel_rfl
theorem p310_1 : J1 3 1 0 1 := fun _ _ _ => by kernel_rfl
theorem p310_2 : J1 3 1 0 2 := fun _ _ _ => by kernel_rfl
theorem p310_3 : J1 3 1 0 3 := fun _ _ _ => by kernel_rfl
theorem p310_4 : J1 3 1 0 4 := fun _ _ _ => by kernel_rfl
theorem p311_0 : J1 3 1 1 0 := fun _ _ _ => by kernel_rfl
theorem p311_1 : J1 3 1 1 1 := fun _ _ _ => by kernel_rfl
theorem p311_2 : J1 3 1 1 2 := fun _ _ _ => by kernel_rfl
theorem p320_0 : J1 3 2 0 0 := fun _ _ _ => by kernel_rfl
theorem p320_1 : J1 3 2 0 1 := fun _ _ _ => by kernel_rfl
theorem p320_2 : J1 3 2 0 2 := fun _ _ _ => by kernel_rfl
theorem p320_3 : J1 3 2 0 3 := fun _ _ _ => by kernel_rfl
theorem p320_4 : J1 3 2 0 4 := fun _ _ _ => by kernel_rfl
theorem p320_5 : J1 3 2 0 5 := fun _ _ _ => by kernel_rfl
theorem p321_0 : J1 3 2 1 0 := fun _ _ _ => by kernel_rfl
theorem p321_1 : J1 3 2 1 1 := fun _ _ _ => by kernel_rfl
theorem p321_2 : J1 3 2 1 2 := fun _ _ _ => by kernel_rfl
theorem p321_3 : J1 3 2 1 3 := fun _ _ _ => by kernel_rfl
theorem p322_0 : J1 3 2 2 0 := fun _ _ _ => by kernel_rfl
theorem p322_1 : J1 3 2 2 1 := fun _ _ _ => by kernel_rfl
theorem p330_0 : J1 3 3 0 0 := fun _ _ _ => by kernel_rfl
theorem p330_1 : J1 3 3 0 1 := fun _ _ _ => by kernel_rfl
theorem p330_2 : J1 3 3 0 2 := fun _ _ _ => by kernel_rfl
theorem p330_3 : J1 3 3 0 3 := fun _ _ _ => by kernel_rfl
theorem p330_4 : J1 3 3 0 4 := fun _ _ _ => by kernel_rfl
theorem p330_5 : J1 3 3 0 5 := fun _ _ _ => by kernel_rfl
theorem p330_6 : J1 3 3 0 6 := fun _ _ _ => by kernel_rfl
theorem p331_0 : J1 3 3 1 0 := fun _ _ _ => by kernel_rfl
theorem p331_1 : J1 3 3 1 1 := fun _ _ _ => by kernel_rfl
theorem p331_2 : J1 3 3 1 2 := fun _ _ _ => by kernel_rfl
theorem p331_3 : J1 3 3 1 3 := fun _ _ _ => by kernel_rfl
theorem p331_4 : J1 3 3 1 4 := fun _ _ _ => by kernel_rfl
theorem p332_0 : J1 3 3 2 0 := fun _ _ _ => by kernel_rfl
theorem p332_1 : J1 3 3 2 1 := fun _ _ _ => by kernel_rfl
theorem p332_2 : J1 3 3 2 2 := fun _ _ _ => by kernel_rfl
theorem p333_0 : J1 3 3 3 0 := fun _ _ _ => by kernel_rfl
theorem p340_0 : J1 3 4 0 0 := fun _ _ _ => by kernel_rfl
theorem p340_1 : J1 3 4 0 1 := fun _ _ _ => by kernel_rfl
theorem p340_2 : J1 3 4 0 2 := fun _ _ _ => by kernel_rfl
theorem p340_3 : J1 3 4 0 3 := fun _ _ _ => by kernel_rfl
theorem p340_4 : J1 3 4 0 4 := fun _ _ _ => by kernel_rfl
theorem p340_5 : J1 3 4 0 5 := fun _ _ _ => by kernel_rfl
theorem p340_6 : J1 3 4 0 6 := fun _ _ _ => by kernel_rfl
theorem p340_7 : J1 3 4 0 7 := fun _ _ _ => by kernel_rfl
theorem p341_0 : J1 3 4 1 0 := fun _ _ _ => by kernel_rfl
theorem p341_1 : J1 3 4 1 1 := fun _ _ _ => by kernel_rfl
theorem p341_2 : J1 3 4 1 2 := fun _ _ _ => by kernel_rfl
theorem p341_3 : J1 3 4 1 3 := fun _ _ _ => by kernel_rfl
theorem p341_4 : J1 3 4 1 4 := fun _ _ _ => by kernel_rfl
theorem p341_5 : J1 3 4 1 5 := fun _ _ _ => by kernel_rfl
theorem p342_0 : J1 3 4 2 0 := fun _ _ _ => by kernel_rfl
theorem p342_1 : J1 3 4 2 1 := fun _ _ _ => by kernel_rfl
theorem p342_2 : J1 3 4 2 2 := fun _ _ _ => by kernel_rfl
theorem p342_3 : J1 3 4 2 3 := fun _ _ _ => by kernel_rfl
theorem p343_0 : J1 3 4 3 0 := fun _ _ _ => by kernel_rfl
theorem p343_1 : J1 3 4 3 1 := fun _ _ _ => by kernel_rfl
theorem p350_0 : J1 3 5 0 0 := fun _ _ _ => by kernel_rfl
theorem p350_1 : J1 3 5 0 1 := fun _ _ _ => by kernel_rfl
theorem p350_2 : J1 3 5 0 2 := fun _ _ _ => by kernel_rfl
theorem p350_3 : J1 3 5 0 3 := fun _ _ _ => by kernel_rfl
theorem p350_4 : J1 3 5 0 4 := fun _ _ _ => by kernel_rfl
theorem p350_5 : J1 3 5 0 5 := fun _ _ _ => by kernel_rfl
theorem p350_6 : J1 3 5 0 6 := fun _ _ _ => by kernel_rfl
theorem p350_7 : J1 3 5 0 7 := fun _ _ _ => by kernel_rfl
theorem p350_8 : J1 3 5 0 8 := fun _ _ _ => by kernel_rfl
theorem p351_0 : J1 3 5 1 0 := fun _ _ _ => by kernel_rfl
theorem p351_1 : J1 3 5 1 1 := fun _ _ _ => by kernel_rfl
theorem p351_2 : J1 3 5 1 2 := fun _ _ _ => by kernel_rfl
theorem p351_3 : J1 3 5 1 3 := fun _ _ _ => by kernel_rfl
theorem p351_4 : J1 3 5 1 4 := fun _ _ _ => by kernel_rfl
theorem p351_5 : J1 3 5 1 5 := fun _ _ _ => by kernel_rfl
theorem p351_6 : J1 3 5 1 6 := fun _ _ _ => by kernel_rfl
theorem p352_0 : J1 3 5 2 0 := fun _ _ _ => by kernel_rfl
theorem p352_1 : J1 3 5 2 1 := fun _ _ _ => by kernel_rfl
theorem p352_2 : J1 3 5 2 2 := fun _ _ _ => by kernel_rfl
theorem p352_3 : J1 3 5 2 3 := fun _ _ _ => by kernel_rfl
theorem p352_4 : J1 3 5 2 4 := fun _ _ _ => by kernel_rfl
theorem p353_0 : J1 3 5 3 0 := fun _ _ _ => by kernel_rfl
theorem p353_1 : J1 3 5 3 1 := fun _ _ _ => by kernel_rfl
theorem p353_2 : J1 3 5 3 2 := fun _ _ _ => by kernel_rfl
theorem p360_0 : J1 3 6 0 0 := fun _ _ _ => by kernel_rfl
theorem p360_1 : J1 3 6 0 1 := fun _ _ _ => by kernel_rfl
theorem p360_2 : J1 3 6 0 2 := fun _ _ _ => by kernel_rfl
theorem p360_3 : J1 3 6 0 3 := fun _ _ _ => by kernel_rfl
theorem p360_4 : J1 3 6 0 4 := fun _ _ _ => by kernel_rfl
theorem p360_5 : J1 3 6 0 5 := fun _ _ _ => by kernel_rfl
theorem p360_6 : J1 3 6 0 6 := fun _ _ _ => by kernel_rfl
theorem p360_7 : J1 3 6 0 7 := fun _ _ _ => by kernel_rfl
theorem p360_8 : J1 3 6 0 8 := fun _ _ _ => by kernel_rfl
theorem p360_9 : J1 3 6 0 9 := fun _ _ _ => by kernel_rfl
theorem p361_0 : J1 3 6 1 0 := fun _ _ _ => by kernel_rfl
theorem p361_1 : J1 3 6 1 1 := fun _ _ _ => by kernel_rfl
theorem p361_2 : J1 3 6 1 2 := fun _ _ _ => by kernel_rfl
theorem p361_3 : J1 3 6 1 3 := fun _ _ _ => by kernel_rfl
theorem p361_4 : J1 3 6 1 4 := fun _ _ _ => by kernel_rfl
theorem p361_5 : J1 3 6 1 5 := fun _ _ _ => by kernel_rfl
theorem p361_6 : J1 3 6 1 6 := fun _ _ _ => by kernel_rfl
theorem p361_7 : J1 3 6 1 7 := fun _ _ _ => by kernel_rfl
theorem p362_0 : J1 3 6 2 0 := fun _ _ _ => by kernel_rfl
theorem p362_1 : J1 3 6 2 1 := fun _ _ _ => by kernel_rfl
theorem p362_2 : J1 3 6 2 2 := fun _ _ _ => by kernel_rfl
theorem p362_3 : J1 3 6 2 3 := fun _ _ _ => by kernel_rfl
theorem p362_4 : J1 3 6 2 4 := fun _ _ _ => by kernel_rfl
theorem p362_5 : J1 3 6 2 5 := fun _ _ _ => by kernel_rfl
theorem p363_0 : J1 3 6 3 0 := fun _ _ _ => by kernel_rfl
theorem p363_1 : J1 3 6 3 1 := fun _ _ _ => by kernel_rfl
theorem p363_2 : J1 3 6 3 2 := fun _ _ _ => by kernel_rfl
theorem p363_3 : J1 3 6 3 3 := fun _ _ _ => by kernel_rfl
theorem p400_0 : J1 4 0 0 0 := fun _ _ _ => by kernel_rfl
theorem p400_1 : J1 4 0 0 1 := fun _ _ _ => by kernel_rfl
theorem p400_2 : J1 4 0 0 2 := fun _ _ _ => by kernel_rfl
theorem p400_3 : J1 4 0 0 3 := fun _ _ _ => by kernel_rfl
theorem p400_4 : J1 4 0 0 4 := fun _ _ _ => by kernel_rfl
theorem p410_0 : J1 4 1 0 0 := fun _ _ _ => by kernel_rfl
theorem p410_1 : J1 4 1 0 1 := fun _ _ _ => by kernel_rfl
theorem p410_2 : J1 4 1 0 2 := fun _ _ _ => by kernel_rfl
theorem p410_3 : J1 4 1 0 3 := fun _ _ _ => by kernel_rfl
theorem p410_4 : J1 4 1 0 4 := fun _ _ _ => by kernel_rfl
theorem p410_5 : J1 4 1 0 5 := fun _ _ _ => by kernel_rfl
theorem p411_0 : J1 4 1 1 0 := fun _ _ _ => by kernel_rfl
theorem p411_1 : J1 4 1 1 1 := fun _ _ _ => by kernel_rfl
theorem p411_2 : J1 4 1 1 2 := fun _ _ _ => by kernel_rfl
theorem p411_3 : J1 4 1 1 3 := fun _ _ _ => by kernel_rfl
theorem p420_0 : J1 4 2 0 0 := fun _ _ _ => by kernel_rfl
theorem p420_1 : J1 4 2 0 1 := fun _ _ _ => by kernel_rfl
theorem p420_2 : J1 4 2 0 2 := fun _ _ _ => by kernel_rfl
theorem p420_3 : J1 4 2 0 3 := fun _ _ _ => by kernel_rfl
theorem p420_4 : J1 4 2 0 4 := fun _ _ _ => by kernel_rfl
theorem p420_5 : J1 4 2 0 5 := fun _ _ _ => by kernel_rfl
theorem p420_6 : J1 4 2 0 6 := fun _ _ _ => by kernel_rfl
theorem p421_0 : J1 4 2 1 0 := fun _ _ _ => by kernel_rfl
theorem p421_1 : J1 4 2 1 1 := fun _ _ _ => by kernel_rfl
theorem p421_2 : J1 4 2 1 2 := fun _ _ _ => by kernel_rfl
theorem p421_3 : J1 4 2 1 3 := fun _ _ _ => by kernel_rfl
theorem p421_4 : J1 4 2 1 4 := fun _ _ _ => by kernel_rfl
theorem p422_0 : J1 4 2 2 0 := fun _ _ _ => by kernel_rfl
theorem p422_1 : J1 4 2 2 1 := fun _ _ _ => by kernel_rfl
theorem p422_2 : J1 4 2 2 2 := fun _ _ _ => by kernel_rfl
theorem p430_0 : J1 4 3 0 0 := fun _ _ _ => by kernel_rfl
theorem p430_1 : J1 4 3 0 1 := fun _ _ _ => by kernel_rfl
theorem p430_2 : J1 4 3 0 2 := fun _ _ _ => by kernel_rfl
theorem p430_3 : J1 4 3 0 3 := fun _ _ _ => by kernel_rfl
theorem p430_4 : J1 4 3 0 4 := fun _ _ _ => by kernel_rfl
theorem p430_5 : J1 4 3 0 5 := fun _ _ _ => by kernel_rfl
theorem p430_6 : J1 4 3 0 6 := fun _ _ _ => by kernel_rfl
theorem p430_7 : J1 4 3 0 7 := fun _ _ _ => by kernel_rfl
theorem p431_0 : J1 4 3 1 0 := fun _ _ _ => by kernel_rfl
theorem p431_1 : J1 4 3 1 1 := fun _ _ _ => by kernel_rfl
theorem p431_2 : J1 4 3 1 2 := fun _ _ _ => by kernel_rfl
theorem p431_3 : J1 4 3 1 3 := fun _ _ _ => by kernel_rfl
theorem p431_4 : J1 4 3 1 4 := fun _ _ _ => by kernel_rfl
theorem p431_5 : J1 4 3 1 5 := fun _ _ _ => by kernel_rfl
theorem p432_0 : J1 4 3 2 0 := fun _ _ _ => by kernel_rfl
theorem p432_1 : J1 4 3 2 1 := fun _ _ _ => by kernel_rfl
theorem p432_2 : J1 4 3 2 2 := fun _ _ _ => by kernel_rfl
theorem p432_3 : J1 4 3 2 3 := fun _ _ _ => by kernel_rfl
theorem p433_0 : J1 4 3 3 0 := fun _ _ _ => by kernel_rfl
theorem p433_1 : J1 4 3 3 1 := fun _ _ _ => by kernel_rfl
theorem p440_0 : J1 4 4 0 0 := fun _ _ _ => by kernel_rfl
theorem p440_1 : J1 4 4 0 1 := fun _ _ _ => by kernel_rfl
theorem p440_2 : J1 4 4 0 2 := fun _ _ _ => by kernel_rfl
theorem p440_3 : J1 4 4 0 3 := fun _ _ _ => by kernel_rfl
theorem p440_4 : J1 4 4 0 4 := fun _ _ _ => by kernel_rfl
theorem p440_5 : J1 4 4 0 5 := fun _ _ _ => by kernel_rfl
theorem p440_6 : J1 4 4 0 6 := fun _ _ _ => by kernel_rfl
theorem p440_7 : J1 4 4 0 7 := fun _ _ _ => by kernel_rfl
theorem p440_8 : J1 4 4 0 8 := fun _ _ _ => by kernel_rfl
theorem p441_0 : J1 4 4 1 0 := fun _ _ _ => by kernel_rfl
theorem p441_1 : J1 4 4 1 1 := fun _ _ _ => by kernel_rfl
theorem p441_2 : J1 4 4 1 2 := fun _ _ _ => by kernel_rfl
theorem p441_3 : J1 4 4 1 3 := fun _ _ _ => by kernel_rfl
theorem p441_4 : J1 4 4 1 4 := fun _ _ _ => by kernel_rfl
theorem p441_5 : J1 4 4 1 5 := fun _ _ _ => by kernel_rfl
theorem p441_6 : J1 4 4 1 6 := fun _ _ _ => by kernel_rfl
theorem p442_0 : J1 4 4 2 0 := fun _ _ _ => by kernel_rfl
theorem p442_1 : J1 4 4 2 1 := fun _ _ _ => by kernel_rfl
theorem p442_2 : J1 4 4 2 2 := fun _ _ _ => by kernel_rfl
theorem p442_3 : J1 4 4 2 3 := fun _ _ _ => by kernel_rfl
theorem p442_4 : J1 4 4 2 4 := fun _ _ _ => by kernel_rfl
theorem p443_0 : J1 4 4 3 0 := fun _ _ _ => by kernel_rfl
theorem p443_1 : J1 4 4 3 1 := fun _ _ _ => by kernel_rfl
theorem p443_2 : J1 4 4 3 2 := fun _ _ _ => by kernel_rfl
theorem p444_0 : J1 4 4 4 0 := fun _ _ _ => by kernel_rfl
theorem p450_0 : J1 4 5 0 0 := fun _ _ _ => by kernel_rfl
theorem p450_1 : J1 4 5 0 1 := fun _ _ _ => by kernel_rfl
theorem p450_2 : J1 4 5 0 2 := fun _ _ _ => by kernel_rfl
theorem p450_3 : J1 4 5 0 3 := fun _ _ _ => by kernel_rfl
theorem p450_4 : J1 4 5 0 4 := fun _ _ _ => by kernel_rfl
theorem p450_5 : J1 4 5 0 5 := fun _ _ _ => by kernel_rfl
theorem p450_6 : J1 4 5 0 6 := fun _ _ _ => by kernel_rfl
theorem p450_7 : J1 4 5 0 7 := fun _ _ _ => by kernel_rfl
theorem p450_8 : J1 4 5 0 8 := fun _ _ _ => by kernel_rfl
theorem p450_9 : J1 4 5 0 9 := fun _ _ _ => by kernel_rfl
theorem p451_0 : J1 4 5 1 0 := fun _ _ _ => by kernel_rfl
theorem p451_1 : J1 4 5 1 1 := fun _ _ _ => by kernel_rfl
theorem p451_2 : J1 4 5 1 2 := fun _ _ _ => by kernel_rfl
theorem p451_3 : J1 4 5 1 3 := fun _ _ _ => by kernel_rfl
theorem p451_4 : J1 4 5 1 4 := fun _ _ _ => by kernel_rfl
theorem p451_5 : J1 4 5 1 5 := fun _ _ _ => by kernel_rfl
theorem p451_6 : J1 4 5 1 6 := fun _ _ _ => by kernel_rfl
theorem p451_7 : J1 4 5 1 7 := fun _ _ _ => by kernel_rfl
theorem p452_0 : J1 4 5 2 0 := fun _ _ _ => by kernel_rfl
theorem p452_1 : J1 4 5 2 1 := fun _ _ _ => by kernel_rfl
theorem p452_2 : J1 4 5 2 2 := fun _ _ _ => by kernel_rfl
theorem p452_3 : J1 4 5 2 3 := fun _ _ _ => by kernel_rfl
theorem p452_4 : J1 4 5 2 4 := fun _ _ _ => by kernel_rfl
theorem p452_5 : J1 4 5 2 5 := fun _ _ _ => by kernel_rfl
theorem p453_0 : J1 4 5 3 0 := fun _ _ _ => by kernel_rfl
theorem p453_1 : J1 4 5 3 1 := fun _ _ _ => by kernel_rfl
theorem p453_2 : J1 4 5 3 2 := fun _ _ _ => by kernel_rfl
theorem p453_3 : J1 4 5 3 3 := fun _ _ _ => by kernel_rfl
theorem p454_0 : J1 4 5 4 0 := fun _ _ _ => by kernel_rfl
theorem p454_1 : J1 4 5 4 1 := fun _ _ _ => by kernel_rfl
theorem p460_0 : J1 4 6 0 0 := fun _ _ _ => by kernel_rfl
theorem p460_1 : J1 4 6 0 1 := fun _ _ _ => by kernel_rfl
theorem p460_2 : J1 4 6 0 2 := fun _ _ _ => by kernel_rfl
theorem p460_3 : J1 4 6 0 3 := fun _ _ _ => by kernel_rfl
theorem p460_4 : J1 4 6 0 4 := fun _ _ _ => by kernel_rfl
theorem p460_5 : J1 4 6 0 5 := fun _ _ _ => by kernel_rfl
theorem p460_6 : J1 4 6 0 6 := fun _ _ _ => by kernel_rfl
theorem p460_7 : J1 4 6 0 7 := fun _ _ _ => by kernel_rfl
theorem p460_8 : J1 4 6 0 8 := fun _ _ _ => by kernel_rfl
theorem p460_9 : J1 4 6 0 9 := fun _ _ _ => by kernel_rfl
theorem p460_10 : J1 4 6 0 10 := fun _ _ _ => by kernel_rfl
theorem p461_0 : J1 4 6 1 0 := fun _ _ _ => by kernel_rfl
theorem p461_1 : J1 4 6 1 1 := fun _ _ _ => by kernel_rfl
theorem p461_2 : J1 4 6 1 2 := fun _ _ _ => by kernel_rfl
theorem p461_3 : J1 4 6 1 3 := fun _ _ _ => by kernel_rfl
theorem p461_4 : J1 4 6 1 4 := fun _ _ _ => by kernel_rfl
theorem p461_5 : J1 4 6 1 5 := fun _ _ _ => by kernel_rfl
theorem p461_6 : J1 4 6 1 6 := fun _ _ _ => by kernel_rfl
theorem p461_7 : J1 4 6 1 7 := fun _ _ _ => by kernel_rfl
theorem p461_8 : J1 4 6 1 8 := fun _ _ _ => by kernel_rfl
theorem p462_0 : J1 4 6 2 0 := fun _ _ _ => by kernel_rfl
theorem p462_1 : J1 4 6 2 1 := fun _ _ _ => by kernel_rfl
theorem p462_2 : J1 4 6 2 2 := fun _ _ _ => by kernel_rfl
theorem p462_3 : J1 4 6 2 3 := fun _ _ _ => by kernel_rfl
theorem p462_4 : J1 4 6 2 4 := fun _ _ _ => by kernel_rfl
theorem p462_5 : J1 4 6 2 5 := fun _ _ _ => by kernel_rfl
theorem p462_6 : J1 4 6 2 6 := fun _ _ _ => by kernel_rfl
theorem p463_0 : J1 4 6 3 0 := fun _ _ _ => by kernel_rfl
theorem p463_1 : J1 4 6 3 1 := fun _ _ _ => by kernel_rfl
theorem p463_2 : J1 4 6 3 2 := fun _ _ _ => by kernel_rfl
theorem p463_3 : J1 4 6 3 3 := fun _ _ _ => by kernel_rfl
theorem p463_4 : J1 4 6 3 4 := fun _ _ _ => by kernel_rfl
theorem p464_0 : J1 4 6 4 0 := fun _ _ _ => by kernel_rfl
theorem p464_1 : J1 4 6 4 1 := fun _ _ _ => by kernel_rfl
theorem p464_2 : J1 4 6 4 2 := fun _ _ _ => by kernel_rfl
theorem p500_0 : J1 5 0 0 0 := fun _ _ _ => by kernel_rfl
theorem p500_1 : J1 5 0 0 1 := fun _ _ _ => by kernel_rfl
theorem p500_2 : J1 5 0 0 2 := fun _ _ _ => by kernel_rfl
theorem p500_3 : J1 5 0 0 3 := fun _ _ _ => by kernel_rfl
theorem p500_4 : J1 5 0 0 4 := fun _ _ _ => by kernel_rfl
theorem p500_5 : J1 5 0 0 5 := fun _ _ _ => by kernel_rfl
theorem p510_0 : J1 5 1 0 0 := fun _ _ _ => by kernel_rfl
theorem p510_1 : J1 5 1 0 1 := fun _ _ _ => by kernel_rfl
theorem p510_2 : J1 5 1 0 2 := fun _ _ _ => by kernel_rfl
theorem p510_3 : J1 5 1 0 3 := fun _ _ _ => by kernel_rfl
theorem p510_4 : J1 5 1 0 4 := fun _ _ _ => by kernel_rfl
theorem p510_5 : J1 5 1 0 5 := fun _ _ _ => by kernel_rfl
theorem p510_6 : J1 5 1 0 6 := fun _ _ _ => by kernel_rfl
theorem p511_0 : J1 5 1 1 0 := fun _ _ _ => by kernel_rfl
theorem p511_1 : J1 5 1 1 1 := fun _ _ _ => by kernel_rfl
theorem p511_2 : J1 5 1 1 2 := fun _ _ _ => by kernel_rfl
theorem p511_3 : J1 5 1 1 3 := fun _ _ _ => by kernel_rfl
theorem p511_4 : J1 5 1 1 4 := fun _ _ _ => by kernel_rfl
theorem p520_0 : J1 5 2 0 0 := fun _ _ _ => by kernel_rfl
theorem p520_1 : J1 5 2 0 1 := fun _ _ _ => by kernel_rfl
theorem p520_2 : J1 5 2 0 2 := fun _ _ _ => by kernel_rfl
theorem p520_3 : J1 5 2 0 3 := fun _ _ _ => by kernel_rfl
theorem p520_4 : J1 5 2 0 4 := fun _ _ _ => by kernel_rfl
theorem p520_5 : J1 5 2 0 5 := fun _ _ _ => by kernel_rfl
theorem p520_6 : J1 5 2 0 6 := fun _ _ _ => by kernel_rfl
theorem p520_7 : J1 5 2 0 7 := fun _ _ _ => by kernel_rfl
theorem p521_0 : J1 5 2 1 0 := fun _ _ _ => by kernel_rfl
theorem p521_1 : J1 5 2 1 1 := fun _ _ _ => by kernel_rfl
theorem p521_2 : J1 5 2 1 2 := fun _ _ _ => by kernel_rfl
theorem p521_3 : J1 5 2 1 3 := fun _ _ _ => by kernel_rfl
theorem p521_4 : J1 5 2 1 4 := fun _ _ _ => by kernel_rfl
theorem p521_5 : J1 5 2 1 5 := fun _ _ _ => by kernel_rfl
theorem p522_0 : J1 5 2 2 0 := fun _ _ _ => by kernel_rfl
theorem p522_1 : J1 5 2 2 1 := fun _ _ _ => by kernel_rfl
theorem p522_2 : J1 5 2 2 2 := fun _ _ _ => by kernel_rfl
theorem p522_3 : J1 5 2 2 3 := fun _ _ _ => by kernel_rfl
theorem p530_0 : J1 5 3 0 0 := fun _ _ _ => by kernel_rfl
theorem p530_1 : J1 5 3 0 1 := fun _ _ _ => by kernel_rfl
theorem p530_2 : J1 5 3 0 2 := fun _ _ _ => by kernel_rfl
theorem p530_3 : J1 5 3 0 3 := fun _ _ _ => by kernel_rfl
theorem p530_4 : J1 5 3 0 4 := fun _ _ _ => by kernel_rfl
theorem p530_5 : J1 5 3 0 5 := fun _ _ _ => by kernel_rfl
theorem p530_6 : J1 5 3 0 6 := fun _ _ _ => by kernel_rfl
theorem p530_7 : J1 5 3 0 7 := fun _ _ _ => by kernel_rfl
theorem p530_8 : J1 5 3 0 8 := fun _ _ _ => by kernel_rfl
theorem p531_0 : J1 5 3 1 0 := fun _ _ _ => by kernel_rfl
theorem p531_1 : J1 5 3 1 1 := fun _ _ _ => by kernel_rfl
theorem p531_2 : J1 5 3 1 2 := fun _ _ _ => by kernel_rfl
theorem p531_3 : J1 5 3 1 3 := fun _ _ _ => by kernel_rfl
theorem p531_4 : J1 5 3 1 4 := fun _ _ _ => by kernel_rfl
theorem p531_5 : J1 5 3 1 5 := fun _ _ _ => by kernel_rfl
theorem p531_6 : J1 5 3 1 6 := fun _ _ _ => by kernel_rfl
theorem p532_0 : J1 5 3 2 0 := fun _ _ _ => by kernel_rfl
theorem p532_1 : J1 5 3 2 1 := fun _ _ _ => by kernel_rfl
theorem p532_2 : J1 5 3 2 2 := fun _ _ _ => by kernel_rfl
theorem p532_3 : J1 5 3 2 3 := fun _ _ _ => by kernel_rfl
theorem p532_4 : J1 5 3 2 4 := fun _ _ _ => by kernel_rfl
theorem p533_0 : J1 5 3 3 0 := fun _ _ _ => by kernel_rfl
theorem p533_1 : J1 5 3 3 1 := fun _ _ _ => by kernel_rfl
theorem p533_2 : J1 5 3 3 2 := fun _ _ _ => by kernel_rfl
theorem p540_0 : J1 5 4 0 0 := fun _ _ _ => by kernel_rfl
theorem p540_1 : J1 5 4 0 1 := fun _ _ _ => by kernel_rfl
theorem p540_2 : J1 5 4 0 2 := fun _ _ _ => by kernel_rfl
theorem p540_3 : J1 5 4 0 3 := fun _ _ _ => by kernel_rfl
theorem p540_4 : J1 5 4 0 4 := fun _ _ _ => by kernel_rfl
theorem p540_5 : J1 5 4 0 5 := fun _ _ _ => by kernel_rfl
theorem p540_6 : J1 5 4 0 6 := fun _ _ _ => by kernel_rfl
theorem p540_7 : J1 5 4 0 7 := fun _ _ _ => by kernel_rfl
theorem p540_8 : J1 5 4 0 8 := fun _ _ _ => by kernel_rfl
theorem p540_9 : J1 5 4 0 9 := fun _ _ _ => by kernel_rfl
theorem p541_0 : J1 5 4 1 0 := fun _ _ _ => by kernel_rfl
theorem p541_1 : J1 5 4 1 1 := fun _ _ _ => by kernel_rfl
theorem p541_2 : J1 5 4 1 2 := fun _ _ _ => by kernel_rfl
theorem p541_3 : J1 5 4 1 3 := fun _ _ _ => by kernel_rfl
theorem p541_4 : J1 5 4 1 4 := fun _ _ _ => by kernel_rfl
theorem p541_5 : J1 5 4 1 5 := fun _ _ _ => by kernel_rfl
theorem p541_6 : J1 5 4 1 6 := fun _ _ _ => by kernel_rfl
theorem p541_7 : J1 5 4 1 7 := fun _ _ _ => by kernel_rfl
theorem p542_0 : J1 5 4 2 0 := fun _ _ _ => by kernel_rfl
theorem p542_1 : J1 5 4 2 1 := fun _ _ _ => by kernel_rfl
theorem p542_2 : J1 5 4 2 2 := fun _ _ _ => by kernel_rfl
theorem p542_3 : J1 5 4 2 3 := fun _ _ _ => by kernel_rfl
theorem p542_4 : J1 5 4 2 4 := fun _ _ _ => by kernel_rfl
theorem p542_5 : J1 5 4 2 5 := fun _ _ _ => by kernel_rfl
theorem p543_0 : J1 5 4 3 0 := fun _ _ _ => by kernel_rfl
theorem p543_1 : J1 5 4 3 1 := fun _ _ _ => by kernel_rfl
theorem p543_2 : J1 5 4 3 2 := fun _ _ _ => by kernel_rfl
theorem p543_3 : J1 5 4 3 3 := fun _ _ _ => by kernel_rfl
theorem p544_0 : J1 5 4 4 0 := fun _ _ _ => by kernel_rfl
theorem p544_1 : J1 5 4 4 1 := fun _ _ _ => by kernel_rfl
theorem p550_0 : J1 5 5 0 0 := fun _ _ _ => by kernel_rfl
theorem p550_1 : J1 5 5 0 1 := fun _ _ _ => by kernel_rfl
theorem p550_2 : J1 5 5 0 2 := fun _ _ _ => by kernel_rfl
theorem p550_3 : J1 5 5 0 3 := fun _ _ _ => by kernel_rfl
theorem p550_4 : J1 5 5 0 4 := fun _ _ _ => by kernel_rfl
theorem p550_5 : J1 5 5 0 5 := fun _ _ _ => by kernel_rfl
theorem p550_6 : J1 5 5 0 6 := fun _ _ _ => by kernel_rfl
theorem p550_7 : J1 5 5 0 7 := fun _ _ _ => by kernel_rfl
theorem p550_8 : J1 5 5 0 8 := fun _ _ _ => by kernel_rfl
theorem p550_9 : J1 5 5 0 9 := fun _ _ _ => by kernel_rfl
theorem p550_10 : J1 5 5 0 10 := fun _ _ _ => by kernel_rfl
theorem p551_0 : J1 5 5 1 0 := fun _ _ _ => by kernel_rfl
theorem p551_1 : J1 5 5 1 1 := fun _ _ _ => by kernel_rfl
theorem p551_2 : J1 5 5 1 2 := fun _ _ _ => by kernel_rfl
theorem p551_3 : J1 5 5 1 3 := fun _ _ _ => by kernel_rfl
theorem p551_4 : J1 5 5 1 4 := fun _ _ _ => by kernel_rfl
theorem p551_5 : J1 5 5 1 5 := fun _ _ _ => by kernel_rfl
theorem p551_6 : J1 5 5 1 6 := fun _ _ _ => by kernel_rfl
theorem p551_7 : J1 5 5 1 7 := fun _ _ _ => by kernel_rfl
theorem p551_8 : J1 5 5 1 8 := fun _ _ _ => by kernel_rfl
theorem p552_0 : J1 5 5 2 0 := fun _ _ _ => by kernel_rfl
theorem p552_1 : J1 5 5 2 1 := fun _ _ _ => by kernel_rfl
theorem p552_2 : J1 5 5 2 2 := fun _ _ _ => by kernel_rfl
theorem p552_3 : J1 5 5 2 3 := fun _ _ _ => by kernel_rfl
theorem p552_4 : J1 5 5 2 4 := fun _ _ _ => by kernel_rfl
theorem p552_5 : J1 5 5 2 5 := fun _ _ _ => by kernel_rfl
theorem p552_6 : J1 5 5 2 6 := fun _ _ _ => by kernel_rfl
theorem p553_0 : J1 5 5 3 0 := fun _ _ _ => by kernel_rfl
theorem p553_1 : J1 5 5 3 1 := fun _ _ _ => by kernel_rfl
theorem p553_2 : J1 5 5 3 2 := fun _ _ _ => by kernel_rfl
theorem p553_3 : J1 5 5 3 3 := fun _ _ _ => by kernel_rfl
theorem p553_4 : J1 5 5 3 4 := fun _ _ _ => by kernel_rfl
theorem p554_0 : J1 5 5 4 0 := fun _ _ _ => by kernel_rfl
theorem p554_1 : J1 5 5 4 1 := fun _ _ _ => by kernel_rfl
theorem p554_2 : J1 5 5 4 2 := fun _ _ _ => by kernel_rfl
theorem p555_0 : J1 5 5 5 0 := fun _ _ _ => by kernel_rfl
theorem p560_0 : J1 5 6 0 0 := fun _ _ _ => by kernel_rfl
theorem p560_1 : J1 5 6 0 1 := fun _ _ _ => by kernel_rfl
theorem p560_2 : J1 5 6 0 2 := fun _ _ _ => by kernel_rfl
theorem p560_3 : J1 5 6 0 3 := fun _ _ _ => by kernel_rfl
theorem p560_4 : J1 5 6 0 4 := fun _ _ _ => by kernel_rfl
theorem p560_5 : J1 5 6 0 5 := fun _ _ _ => by kernel_rfl
theorem p560_6 : J1 5 6 0 6 := fun _ _ _ => by kernel_rfl
theorem p560_7 : J1 5 6 0 7 := fun _ _ _ => by kernel_rfl
theorem p560_8 : J1 5 6 0 8 := fun _ _ _ => by kernel_rfl
theorem p560_9 : J1 5 6 0 9 := fun _ _ _ => by kernel_rfl
theorem p560_10 : J1 5 6 0 10 := fun _ _ _ => by kernel_rfl
theorem p560_11 : J1 5 6 0 11 := fun _ _ _ => by kernel_rfl
theorem p561_0 : J1 5 6 1 0 := fun _ _ _ => by kernel_rfl
theorem p561_1 : J1 5 6 1 1 := fun _ _ _ => by kernel_rfl
theorem p561_2 : J1 5 6 1 2 := fun _ _ _ => by kernel_rfl
theorem p561_3 : J1 5 6 1 3 := fun _ _ _ => by kernel_rfl
theorem p561_4 : J1 5 6 1 4 := fun _ _ _ => by kernel_rfl
theorem p561_5 : J1 5 6 1 5 := fun _ _ _ => by kernel_rfl
theorem p561_6 : J1 5 6 1 6 := fun _ _ _ => by kernel_rfl
theorem p561_7 : J1 5 6 1 7 := fun _ _ _ => by kernel_rfl
theorem p561_8 : J1 5 6 1 8 := fun _ _ _ => by kernel_rfl
theorem p561_9 : J1 5 6 1 9 := fun _ _ _ => by kernel_rfl
theorem p562_0 : J1 5 6 2 0 := fun _ _ _ => by kernel_rfl
theorem p562_1 : J1 5 6 2 1 := fun _ _ _ => by kernel_rfl
theorem p562_2 : J1 5 6 2 2 := fun _ _ _ => by kernel_rfl
theorem p562_3 : J1 5 6 2 3 := fun _ _ _ => by kernel_rfl
theorem p562_4 : J1 5 6 2 4 := fun _ _ _ => by kernel_rfl
theorem p562_5 : J1 5 6 2 5 := fun _ _ _ => by kernel_rfl
theorem p562_6 : J1 5 6 2 6 := fun _ _ _ => by kernel_rfl
theorem p562_7 : J1 5 6 2 7 := fun _ _ _ => by kernel_rfl
theorem p563_0 : J1 5 6 3 0 := fun _ _ _ => by kernel_rfl
theorem p563_1 : J1 5 6 3 1 := fun _ _ _ => by kernel_rfl
theorem p563_2 : J1 5 6 3 2 := fun _ _ _ => by kernel_rfl
theorem p563_3 : J1 5 6 3 3 := fun _ _ _ => by kernel_rfl
theorem p563_4 : J1 5 6 3 4 := fun _ _ _ => by kernel_rfl
theorem p563_5 : J1 5 6 3 5 := fun _ _ _ => by kernel_rfl
theorem p564_0 : J1 5 6 4 0 := fun _ _ _ => by kernel_rfl
theorem p564_1 : J1 5 6 4 1 := fun _ _ _ => by kernel_rfl
theorem p564_2 : J1 5 6 4 2 := fun _ _ _ => by kernel_rfl
theorem p564_3 : J1 5 6 4 3 := fun _ _ _ => by kernel_rfl
theorem p565_0 : J1 5 6 5 0 := fun _ _ _ => by kernel_rfl
theorem p565_1 : J1 5 6 5 1 := fun _ _ _ => by kernel_rfl
theorem p600_0 : J1 6 0 0 0 := fun _ _ _ => by kernel_rfl
theorem p600_1 : J1 6 0 0 1 := fun _ _ _ => by kernel_rfl
theorem p600_2 : J1 6 0 0 2 := fun _ _ _ => by kernel_rfl
theorem p600_3 : J1 6 0 0 3 := fun _ _ _ => by kernel_rfl
theorem p600_4 : J1 6 0 0 4 := fun _ _ _ => by kernel_rfl
theorem p600_5 : J1 6 0 0 5 := fun _ _ _ => by kernel_rfl
theorem p600_6 : J1 6 0 0 6 := fun _ _ _ => by kernel_rfl
theorem p610_0 : J1 6 1 0 0 := fun _ _ _ => by kernel_rfl
theorem p610_1 : J1 6 1 0 1 := fun _ _ _ => by kernel_rfl
theorem p610_2 : J1 6 1 0 2 := fun _ _ _ => by kernel_rfl
theorem p610_3 : J1 6 1 0 3 := fun _ _ _ => by kernel_rfl
theorem p610_4 : J1 6 1 0 4 := fun _ _ _ => by kernel_rfl
theorem p610_5 : J1 6 1 0 5 := fun _ _ _ => by kernel_rfl
theorem p610_6 : J1 6 1 0 6 := fun _ _ _ => by kernel_rfl
theorem p610_7 : J1 6 1 0 7 := fun _ _ _ => by kernel_rfl
theorem p611_0 : J1 6 1 1 0 := fun _ _ _ => by kernel_rfl
theorem p611_1 : J1 6 1 1 1 := fun _ _ _ => by kernel_rfl
theorem p611_2 : J1 6 1 1 2 := fun _ _ _ => by kernel_rfl
theorem p611_3 : J1 6 1 1 3 := fun _ _ _ => by kernel_rfl
theorem p611_4 : J1 6 1 1 4 := fun _ _ _ => by kernel_rfl
theorem p611_5 : J1 6 1 1 5 := fun _ _ _ => by kernel_rfl
theorem p620_0 : J1 6 2 0 0 := fun _ _ _ => by kernel_rfl
theorem p620_1 : J1 6 2 0 1 := fun _ _ _ => by kernel_rfl
theorem p620_2 : J1 6 2 0 2 := fun _ _ _ => by kernel_rfl
theorem p620_3 : J1 6 2 0 3 := fun _ _ _ => by kernel_rfl
theorem p620_4 : J1 6 2 0 4 := fun _ _ _ => by kernel_rfl
theorem p620_5 : J1 6 2 0 5 := fun _ _ _ => by kernel_rfl
theorem p620_6 : J1 6 2 0 6 := fun _ _ _ => by kernel_rfl
theorem p620_7 : J1 6 2 0 7 := fun _ _ _ => by kernel_rfl
theorem p620_8 : J1 6 2 0 8 := fun _ _ _ => by kernel_rfl
theorem p621_0 : J1 6 2 1 0 := fun _ _ _ => by kernel_rfl
theorem p621_1 : J1 6 2 1 1 := fun _ _ _ => by kernel_rfl
theorem p621_2 : J1 6 2 1 2 := fun _ _ _ => by kernel_rfl
theorem p621_3 : J1 6 2 1 3 := fun _ _ _ => by kernel_rfl
theorem p621_4 : J1 6 2 1 4 := fun _ _ _ => by kernel_rfl
theorem p621_5 : J1 6 2 1 5 := fun _ _ _ => by kernel_rfl
theorem p621_6 : J1 6 2 1 6 := fun _ _ _ => by kernel_rfl
theorem p622_0 : J1 6 2 2 0 := fun _ _ _ => by kernel_rfl
theorem p622_1 : J1 6 2 2 1 := fun _ _ _ => by kernel_rfl
theorem p622_2 : J1 6 2 2 2 := fun _ _ _ => by kernel_rfl
theorem p622_3 : J1 6 2 2 3 := fun _ _ _ => by kernel_rfl
theorem p622_4 : J1 6 2 2 4 := fun _ _ _ => by kernel_rfl
theorem p630_0 : J1 6 3 0 0 := fun _ _ _ => by kernel_rfl
theorem p630_1 : J1 6 3 0 1 := fun _ _ _ => by kernel_rfl
theorem p630_2 : J1 6 3 0 2 := fun _ _ _ => by kernel_rfl
theorem p630_3 : J1 6 3 0 3 := fun _ _ _ => by kernel_rfl
theorem p630_4 : J1 6 3 0 4 := fun _ _ _ => by kernel_rfl
theorem p630_5 : J1 6 3 0 5 := fun _ _ _ => by kernel_rfl
theorem p630_6 : J1 6 3 0 6 := fun _ _ _ => by kernel_rfl
theorem p630_7 : J1 6 3 0 7 := fun _ _ _ => by kernel_rfl
theorem p630_8 : J1 6 3 0 8 := fun _ _ _ => by kernel_rfl
theorem p630_9 : J1 6 3 0 9 := fun _ _ _ => by kernel_rfl
theorem p631_0 : J1 6 3 1 0 := fun _ _ _ => by kernel_rfl
theorem p631_1 : J1 6 3 1 1 := fun _ _ _ => by kernel_rfl
theorem p631_2 : J1 6 3 1 2 := fun _ _ _ => by kernel_rfl
theorem p631_3 : J1 6 3 1 3 := fun _ _ _ => by kernel_rfl
theorem p631_4 : J1 6 3 1 4 := fun _ _ _ => by kernel_rfl
theorem p631_5 : J1 6 3 1 5 := fun _ _ _ => by kernel_rfl
theorem p631_6 : J1 6 3 1 6 := fun _ _ _ => by kernel_rfl
theorem p631_7 : J1 6 3 1 7 := fun _ _ _ => by kernel_rfl
theorem p632_0 : J1 6 3 2 0 := fun _ _ _ => by kernel_rfl
theorem p632_1 : J1 6 3 2 1 := fun _ _ _ => by kernel_rfl
theorem p632_2 : J1 6 3 2 2 := fun _ _ _ => by kernel_rfl
theorem p632_3 : J1 6 3 2 3 := fun _ _ _ => by kernel_rfl
theorem p632_4 : J1 6 3 2 4 := fun _ _ _ => by kernel_rfl
theorem p632_5 : J1 6 3 2 5 := fun _ _ _ => by kernel_rfl
theorem p633_0 : J1 6 3 3 0 := fun _ _ _ => by kernel_rfl
theorem p633_1 : J1 6 3 3 1 := fun _ _ _ => by kernel_rfl
theorem p633_2 : J1 6 3 3 2 := fun _ _ _ => by kernel_rfl
theorem p633_3 : J1 6 3 3 3 := fun _ _ _ => by kernel_rfl
theorem p640_0 : J1 6 4 0 0 := fun _ _ _ => by kernel_rfl
theorem p640_1 : J1 6 4 0 1 := fun _ _ _ => by kernel_rfl
theorem p640_2 : J1 6 4 0 2 := fun _ _ _ => by kernel_rfl
theorem p640_3 : J1 6 4 0 3 := fun _ _ _ => by kernel_rfl
theorem p640_4 : J1 6 4 0 4 := fun _ _ _ => by kernel_rfl
theorem p640_5 : J1 6 4 0 5 := fun _ _ _ => by kernel_rfl
theorem p640_6 : J1 6 4 0 6 := fun _ _ _ => by kernel_rfl
theorem p640_7 : J1 6 4 0 7 := fun _ _ _ => by kernel_rfl
theorem p640_8 : J1 6 4 0 8 := fun _ _ _ => by kernel_rfl
theorem p640_9 : J1 6 4 0 9 := fun _ _ _ => by kernel_rfl
theorem p640_10 : J1 6 4 0 10 := fun _ _ _ => by kernel_rfl
theorem p641_0 : J1 6 4 1 0 := fun _ _ _ => by kernel_rfl
theorem p641_1 : J1 6 4 1 1 := fun _ _ _ => by kernel_rfl
theorem p641_2 : J1 6 4 1 2 := fun _ _ _ => by kernel_rfl
theorem p641_3 : J1 6 4 1 3 := fun _ _ _ => by kernel_rfl
theorem p641_4 : J1 6 4 1 4 := fun _ _ _ => by kernel_rfl
theorem p641_5 : J1 6 4 1 5 := fun _ _ _ => by kernel_rfl
theorem p641_6 : J1 6 4 1 6 := fun _ _ _ => by kernel_rfl
theorem p641_7 : J1 6 4 1 7 := fun _ _ _ => by kernel_rfl
theorem p641_8 : J1 6 4 1 8 := fun _ _ _ => by kernel_rfl
theorem p642_0 : J1 6 4 2 0 := fun _ _ _ => by kernel_rfl
theorem p642_1 : J1 6 4 2 1 := fun _ _ _ => by kernel_rfl
theorem p642_2 : J1 6 4 2 2 := fun _ _ _ => by kernel_rfl
theorem p642_3 : J1 6 4 2 3 := fun _ _ _ => by kernel_rfl
theorem p642_4 : J1 6 4 2 4 := fun _ _ _ => by kernel_rfl
theorem p642_5 : J1 6 4 2 5 := fun _ _ _ => by kernel_rfl
theorem p642_6 : J1 6 4 2 6 := fun _ _ _ => by kernel_rfl
theorem p643_0 : J1 6 4 3 0 := fun _ _ _ => by kernel_rfl
theorem p643_1 : J1 6 4 3 1 := fun _ _ _ => by kernel_rfl
theorem p643_2 : J1 6 4 3 2 := fun _ _ _ => by kernel_rfl
theorem p643_3 : J1 6 4 3 3 := fun _ _ _ => by kernel_rfl
theorem p643_4 : J1 6 4 3 4 := fun _ _ _ => by kernel_rfl
theorem p644_0 : J1 6 4 4 0 := fun _ _ _ => by kernel_rfl
theorem p644_1 : J1 6 4 4 1 := fun _ _ _ => by kernel_rfl
theorem p644_2 : J1 6 4 4 2 := fun _ _ _ => by kernel_rfl
theorem p650_0 : J1 6 5 0 0 := fun _ _ _ => by kernel_rfl
theorem p650_1 : J1 6 5 0 1 := fun _ _ _ => by kernel_rfl
theorem p650_2 : J1 6 5 0 2 := fun _ _ _ => by kernel_rfl
theorem p650_3 : J1 6 5 0 3 := fun _ _ _ => by kernel_rfl
theorem p650_4 : J1 6 5 0 4 := fun _ _ _ => by kernel_rfl
theorem p650_5 : J1 6 5 0 5 := fun _ _ _ => by kernel_rfl
theorem p650_6 : J1 6 5 0 6 := fun _ _ _ => by kernel_rfl
theorem p650_7 : J1 6 5 0 7 := fun _ _ _ => by kernel_rfl
theorem p650_8 : J1 6 5 0 8 := fun _ _ _ => by kernel_rfl
theorem p650_9 : J1 6 5 0 9 := fun _ _ _ => by kernel_rfl
theorem p650_10 : J1 6 5 0 10 := fun _ _ _ => by kernel_rfl
theorem p650_11 : J1 6 5 0 11 := fun _ _ _ => by kernel_rfl
theorem p651_0 : J1 6 5 1 0 := fun _ _ _ => by kernel_rfl
theorem p651_1 : J1 6 5 1 1 := fun _ _ _ => by kernel_rfl
theorem p651_2 : J1 6 5 1 2 := fun _ _ _ => by kernel_rfl
theorem p651_3 : J1 6 5 1 3 := fun _ _ _ => by kernel_rfl
theorem p651_4 : J1 6 5 1 4 := fun _ _ _ => by kernel_rfl
theorem p651_5 : J1 6 5 1 5 := fun _ _ _ => by kernel_rfl
theorem p651_6 : J1 6 5 1 6 := fun _ _ _ => by kernel_rfl
theorem p651_7 : J1 6 5 1 7 := fun _ _ _ => by kernel_rfl
theorem p651_8 : J1 6 5 1 8 := fun _ _ _ => by kernel_rfl
theorem p651_9 : J1 6 5 1 9 := fun _ _ _ => by kernel_rfl
theorem p652_0 : J1 6 5 2 0 := fun _ _ _ => by kernel_rfl
theorem p652_1 : J1 6 5 2 1 := fun _ _ _ => by kernel_rfl
theorem p652_2 : J1 6 5 2 2 := fun _ _ _ => by kernel_rfl
theorem p652_3 : J1 6 5 2 3 := fun _ _ _ => by kernel_rfl
theorem p652_4 : J1 6 5 2 4 := fun _ _ _ => by kernel_rfl
theorem p652_5 : J1 6 5 2 5 := fun _ _ _ => by kernel_rfl
theorem p652_6 : J1 6 5 2 6 := fun _ _ _ => by kernel_rfl
theorem p652_7 : J1 6 5 2 7 := fun _ _ _ => by kernel_rfl
theorem p653_0 : J1 6 5 3 0 := fun _ _ _ => by kernel_rfl
theorem p653_1 : J1 6 5 3 1 := fun _ _ _ => by kernel_rfl
theorem p653_2 : J1 6 5 3 2 := fun _ _ _ => by kernel_rfl
theorem p653_3 : J1 6 5 3 3 := fun _ _ _ => by kernel_rfl
theorem p653_4 : J1 6 5 3 4 := fun _ _ _ => by kernel_rfl
theorem p653_5 : J1 6 5 3 5 := fun _ _ _ => by kernel_rfl
theorem p654_0 : J1 6 5 4 0 := fun _ _ _ => by kernel_rfl
theorem p654_1 : J1 6 5 4 1 := fun _ _ _ => by kernel_rfl
theorem p654_2 : J1 6 5 4 2 := fun _ _ _ => by kernel_rfl
theorem p654_3 : J1 6 5 4 3 := fun _ _ _ => by kernel_rfl
theorem p655_0 : J1 6 5 5 0 := fun _ _ _ => by kernel_rfl
theorem p655_1 : J1 6 5 5 1 := fun _ _ _ => by kernel_rfl
theorem p660_0 : J1 6 6 0 0 := fun _ _ _ => by kernel_rfl
theorem p660_1 : J1 6 6 0 1 := fun _ _ _ => by kernel_rfl
theorem p660_2 : J1 6 6 0 2 := fun _ _ _ => by kernel_rfl
theorem p660_3 : J1 6 6 0 3 := fun _ _ _ => by kernel_rfl
theorem p660_4 : J1 6 6 0 4 := fun _ _ _ => by kernel_rfl
theorem p660_5 : J1 6 6 0 5 := fun _ _ _ => by kernel_rfl
theorem p660_6 : J1 6 6 0 6 := fun _ _ _ => by kernel_rfl
theorem p660_7 : J1 6 6 0 7 := fun _ _ _ => by kernel_rfl
theorem p660_8 : J1 6 6 0 8 := fun _ _ _ => by kernel_rfl
theorem p660_9 : J1 6 6 0 9 := fun _ _ _ => by kernel_rfl
theorem p660_10 : J1 6 6 0 10 := fun _ _ _ => by kernel_rfl
theorem p660_11 : J1 6 6 0 11 := fun _ _ _ => by kernel_rfl
theorem p660_12 : J1 6 6 0 12 := fun _ _ _ => by kernel_rfl
theorem p661_0 : J1 6 6 1 0 := fun _ _ _ => by kernel_rfl
theorem p661_1 : J1 6 6 1 1 := fun _ _ _ => by kernel_rfl
theorem p661_2 : J1 6 6 1 2 := fun _ _ _ => by kernel_rfl
theorem p661_3 : J1 6 6 1 3 := fun _ _ _ => by kernel_rfl
theorem p661_4 : J1 6 6 1 4 := fun _ _ _ => by kernel_rfl
theorem p661_5 : J1 6 6 1 5 := fun _ _ _ => by kernel_rfl
theorem p661_6 : J1 6 6 1 6 := fun _ _ _ => by kernel_rfl
theorem p661_7 : J1 6 6 1 7 := fun _ _ _ => by kernel_rfl
theorem p661_8 : J1 6 6 1 8 := fun _ _ _ => by kernel_rfl
theorem p661_9 : J1 6 6 1 9 := fun _ _ _ => by kernel_rfl
theorem p661_10 : J1 6 6 1 10 := fun _ _ _ => by kernel_rfl
theorem p662_0 : J1 6 6 2 0 := fun _ _ _ => by kernel_rfl
theorem p662_1 : J1 6 6 2 1 := fun _ _ _ => by kernel_rfl
theorem p662_2 : J1 6 6 2 2 := fun _ _ _ => by kernel_rfl
theorem p662_3 : J1 6 6 2 3 := fun _ _ _ => by kernel_rfl
theorem p662_4 : J1 6 6 2 4 := fun _ _ _ => by kernel_rfl
theorem p662_5 : J1 6 6 2 5 := fun _ _ _ => by kernel_rfl
theorem p662_6 : J1 6 6 2 6 := fun _ _ _ => by kernel_rfl
theorem p662_7 : J1 6 6 2 7 := fun _ _ _ => by kernel_rfl
theorem p662_8 : J1 6 6 2 8 := fun _ _ _ => by kernel_rfl
theorem p663_0 : J1 6 6 3 0 := fun _ _ _ => by kernel_rfl
theorem p663_1 : J1 6 6 3 1 := fun _ _ _ => by kernel_rfl
theorem p663_2 : J1 6 6 3 2 := fun _ _ _ => by kernel_rfl
theorem p663_3 : J1 6 6 3 3 := fun _ _ _ => by kernel_rfl
theorem p663_4 : J1 6 6 3 4 := fun _ _ _ => by kernel_rfl
theorem p663_5 : J1 6 6 3 5 := fun _ _ _ => by kernel_rfl
theorem p663_6 : J1 6 6 3 6 := fun _ _ _ => by kernel_rfl
theorem p664_0 : J1 6 6 4 0 := fun _ _ _ => by kernel_rfl
theorem p664_1 : J1 6 6 4 1 := fun _ _ _ => by kernel_rfl
theorem p664_2 : J1 6 6 4 2 := fun _ _ _ => by kernel_rfl
theorem p664_3 : J1 6 6 4 3 := fun _ _ _ => by kernel_rfl
theorem p664_4 : J1 6 6 4 4 := fun _ _ _ => by kernel_rfl
theorem p665_0 : J1 6 6 5 0 := fun _ _ _ => by kernel_rfl
theorem p665_1 : J1 6 6 5 1 := fun _ _ _ => by kernel_rfl
theorem p665_2 : J1 6 6 5 2 := fun _ _ _ => by kernel_rfl
theorem p666_0 : J1 6 6 6 0 := fun _ _ _ => by kernel_rfl
end Go.Proofs.Ytbhfjdlhhjeknaa.Ab

namespace Go.Proofs.Ytbhfjdlhhjeknaa.Ab
set_option linter.unusedVariables false
set_option linter.unusedSimpArgs false
open Go
theorem q0000 : J2 0 0 0 0 := fun _ => by kernel_rfl
theorem q0100 : J2 0 1 0 0 := fun _ => by kernel_rfl
theorem q0101 : J2 0 1 0 1 := fun _ => by kernel_rfl
theorem q0200 : J2 0 2 0 0 := fun _ => by kernel_rfl
theorem q0201 : J2 0 2 0 1 := fun _ => by kernel_rfl
theorem q0202 : J2 0 2 0 2 := fun _ => by kernel_rfl
theorem q0300 : J2 0 3 0 0 := fun _ => by kernel_rfl
theorem q0301 : J2 0 3 0 1 := fun _ => by kernel_rfl
theorem q0302 : J2 0 3 0 2 := fun _ => by kernel_rfl
theorem q0303 : J2 0 3 0 3 := fun _ => by kernel_rfl
theorem q0400 : J2 0 4 0 0 := fun _ => by kernel_rfl
theorem q0401 : J2 0 4 0 1 := fun _ => by kernel_rfl
theorem q0402 : J2 0 4 0 2 := fun _ => by kernel_rfl
theorem q0403 : J2 0 4 0 3 := fun _ => by kernel_rfl
theorem q0404 : J2 0 4 0 4 := fun _ => by kernel_rfl
theorem q0500 : J2 0 5 0 0 := fun _ => by kernel_rfl
theorem q0501 : J2 0 5 0 1 := fun _ => by kernel_rfl
theorem q0502 : J2 0 5 0 2 := fun _ => by kernel_rfl
theorem q0503 : J2 0 5 0 3 := fun _ => by kernel_rfl
theorem q0504 : J2 0 5 0 4 := fun _ => by kernel_rfl
theorem q0505 : J2 0 5 0 5 := fun _ => by kernel_rfl
theorem q0600 : J2 0 6 0 0 := fun _ => by kernel_rfl
theorem q0601 : J2 0 6 0 1 := fun _ => by kernel_rfl
theorem q0602 : J2 0 6 0 2 := fun _ => by kernel_rfl
theorem q0603 : J2 0 6 0 3 := fun _ => by kernel_rfl
theorem q0604 : J2 0 6 0 4 := fun _ => by kernel_rfl
theorem q0605 : J2 0 6 0 5 := fun _ => by kernel_rfl
theorem q0606 : J2 0 6 0 6 := fun _ => by kernel_rfl
theorem q1000 : J2 1 0 0 0 := fun _ => by kernel_rfl
theorem q1010 : J2 1 0 1 0 := fun _ => by kernel_rfl
theorem q1100 : J2 1 1 0 0 := fun _ => by kernel_rfl
theorem q1101 : J2 1 1 0 1 := fun _ => by kernel_rfl
theorem q1110 : J2 1 1 1 0 := fun _ => by kernel_rfl
theorem q1111 : J2 1 1 1 1 := fun _ => by kernel_rfl
theorem q1200 : J2 1 2 0 0 := fun _ => by kernel_rfl
theorem q1201 : J2 1 2 0 1 := fun _ => by kernel_rfl
theorem q1202 : J2 1 2 0 2 := fun _ => by kernel_rfl
theorem q1210 : J2 1 2 1 0 := fun _ => by kernel_rfl
theorem q1211 : J2 1 2 1 1 := fun _ => by kernel_rfl
theorem q1212 : J2 1 2 1 2 := fun _ => by kernel_rfl
theorem q1300 : J2 1 3 0 0 := fun _ => by kernel_rfl
theorem q1301 : J2 1 3 0 1 := fun _ => by kernel_rfl
theorem q1302 : J2 1 3 0 2 := fun _ => by kernel_rfl
theorem q1303 : J2 1 3 0 3 := fun _ => by kernel_rfl
theorem q1310 : J2 1 3 1 0 := fun _ => by kernel_rfl
theorem q1311 : J2 1 3 1 1 := fun _ => by kernel_rfl
theorem q1312 : J2 1 3 1 2 := fun _ => by kernel_rfl
theorem q1313 : J2 1 3 1 3 := fun _ => by kernel_rfl
theorem q1400 : J2 1 4 0 0 := fun _ => by kernel_rfl
theorem q1401 : J2 1 4 0 1 := fun _ => by kernel_rfl
theorem q1402 : J2 1 4 0 2 := fun _ => by kernel_rfl
theorem q1403 : J2 1 4 0 3 := fun _ => by kernel_rfl
theorem q1404 : J2 1 4 0 4 := fun _ => by kernel_rfl
theorem q1410 : J2 1 4 1 0 := fun _ => by kernel_rfl
theorem q1411 : J2 1 4 1 1 := fun _ => by kernel_rfl
theorem q1412 : J2 1 4 1 2 := fun _ => by kernel_rfl
theorem q1413 : J2 1 4 1 3 := fun _ => by kernel_rfl
theorem q1414 : J2 1 4 1 4 := fun _ => by kernel_rfl
theorem q1500 : J2 1 5 0 0 := fun _ => by kernel_rfl
theorem q1501 : J2 1 5 0 1 := fun _ => by kernel_rfl
theorem q1502 : J2 1 5 0 2 := fun _ => by kernel_rfl
theorem q1503 : J2 1 5 0 3 := fun _ => by kernel_rfl
theorem q1504 : J2 1 5 0 4 := fun _ => by kernel_rfl
theorem q1505 : J2 1 5 0 5 := fun _ => by kernel_rfl
theorem q1510 : J2 1 5 1 0 := fun _ => by kernel_rfl
theorem q1511 : J2 1 5 1 1 := fun _ => by kernel_rfl
theorem q1512 : J2 1 5 1 2 := fun _ => by kernel_rfl
theorem q1513 : J2 1 5 1 3 := fun _ => by kernel_rfl
theorem q1514 : J2 1 5 1 4 := fun _ => by kernel_rfl
theorem q1515 : J2 1 5 1 5 := fun _ => by kernel_rfl
theorem q1600 : J2 1 6 0 0 := fun _ => by kernel_rfl
theorem q1601 : J2 1 6 0 1 := fun _ => by kernel_rfl
theorem q1602 : J2 1 6 0 2 := fun _ => by kernel_rfl
theorem q1603 : J2 1 6 0 3 := fun _ => by kernel_rfl
theorem q1604 : J2 1 6 0 4 := fun _ => by kernel_rfl
theorem q1605 : J2 1 6 0 5 := fun _ => by kernel_rfl
theorem q1606 : J2 1 6 0 6 := fun _ => by kernel_rfl
theorem q1610 : J2 1 6 1 0 := fun _ => by kernel_rfl
theorem q1611 : J2 1 6 1 1 := fun _ => by kernel_rfl
theorem q1612 : J2 1 6 1 2 := fun _ => by kernel_rfl
theorem q1613 : J2 1 6 1 3 := fun _ => by kernel_rfl
theorem q1614 : J2 1 6 1 4 := fun _ => by kernel_rfl
theorem q1615 : J2 1 6 1 5 := fun _ => by kernel_rfl
theorem q1616 : J2 1 6 1 6 := fun _ => by kernel_rfl
theorem q2000 : J2 2 0 0 0 := fun _ => by kernel_rfl
theorem q2010 : J2 2 0 1 0 := fun _ => by kernel_rfl
theorem q2020 : J2 2 0 2 0 := fun _ => by kernel_rfl
theorem q2100 : J2 2 1 0 0 := fun _ => by kernel_rfl
theorem q2101 : J2 2 1 0 1 := fun _ => by kernel_rfl
theorem q2110 : J2 2 1 1 0 := fun _ => by kernel_rfl
theorem q2111 : J2 2 1 1 1 := fun _ => by kernel_rfl
theorem q2120 : J2 2 1 2 0 := fun _ => by kernel_rfl
theorem q2121 : J2 2 1 2 1 := fun _ => by kernel_rfl
theorem q2200 : J2 2 2 0 0 := fun _ => by kernel_rfl
theorem q2201 : J2 2 2 0 1 := fun _ => by kernel_rfl
theorem q2202 : J2 2 2 0 2 := fun _ => by kernel_rfl
theorem q2210 : J2 2 2 1 0 := fun _ => by kernel_rfl
theorem q2211 : J2 2 2 1 1 := fun _ => by kernel_rfl
theorem q2212 : J2 2 2 1 2 := fun _ => by kernel_rfl
theorem q2220 : J2 2 2 2 0 := fun _ => by kernel_rfl
theorem q2221 : J2 2 2 2 1 := fun _ => by kernel_rfl
theorem q2222 : J2 2 2 2 2 := fun _ => by kernel_rfl
theorem q2300 : J2 2 3 0 0 := fun _ => by kernel_rfl
theorem q2301 : J2 2 3 0 1 := fun _ => by kernel_rfl
theorem q2302 : J2 2 3 0 2 := fun _ => by kernel_rfl
theorem q2303 : J2 2 3 0 3 := fun _ => by kernel_rfl
theorem q2310 : J2 2 3 1 0 := fun _ => by kernel_rfl
theorem q2311 : J2 2 3 1 1 := fun _ => by kernel_rfl
theorem q2312 : J2 2 3 1 2 := fun _ => by kernel_rfl
theorem q2313 : J2 2 3 1 3 := fun _ => by kernel_rfl
theorem q2320 : J2 2 3 2 0 := fun _ => by kernel_rfl
theorem q2321 : J2 2 3 2 1 := fun _ => by kernel_rfl
theorem q2322 : J2 2 3 2 2 := fun _ => by kernel_rfl
theorem q2323 : J2 2 3 2 3 := fun _ => by kernel_rfl
theorem q2400 : J2 2 4 0 0 := fun _ => by kernel_rfl
theorem q2401 : J2 2 4 0 1 := fun _ => by kernel_rfl
theorem q2402 : J2 2 4 0 2 := fun _ => by kernel_rfl
theorem q2403 : J2 2 4 0 3 := fun _ => by kernel_rfl
theorem q2404 : J2 2 4 0 4 := fun _ => by kernel_rfl
theorem q2410 : J2 2 4 1 0 := fun _ => by kernel_rfl
theorem q2411 : J2 2 4 1 1 := fun _ => by kernel_rfl
theorem q2412 : J2 2 4 1 2 := fun _ => by kernel_rfl
theorem q2413 : J2 2 4 1 3 := fun _ => by kernel_rfl
theorem q2414 : J2 2 4 1 4 := fun _ => by kernel_rfl
theorem q2420 : J2 2 4 2 0 := fun _ => by kernel_rfl
theorem q2421 : J2 2 4 2 1 := fun _ => by kernel_rfl
theorem q2422 : J2 2 4 2 2 := fun _ => by kernel_rfl
theorem q2423 : J2 2 4 2 3 := fun _ => by kernel_rfl
theorem q2424 : J2 2 4 2 4 := fun _ => by kernel_rfl
theorem q2500 : J2 2 5 0 0 := fun _ => by kernel_rfl
theorem q2501 : J2 2 5 0 1 := fun _ => by kernel_rfl
theorem q2502 : J2 2 5 0 2 := fun _ => by kernel_rfl
theorem q2503 : J2 2 5 0 3 := fun _ => by kernel_rfl
theorem q2504 : J2 2 5 0 4 := fun _ => by kernel_rfl
theorem q2505 : J2 2 5 0 5 := fun _ => by kernel_rfl
theorem q2510 : J2 2 5 1 0 := fun _ => by kernel_rfl
theorem q2511 : J2 2 5 1 1 := fun _ => by kernel_rfl
theorem q2512 : J2 2 5 1 2 := fun _ => by kernel_rfl
theorem q2513 : J2 2 5 1 3 := fun _ => by kernel_rfl
theorem q2514 : J2 2 5 1 4 := fun _ => by kernel_rfl
theorem q2515 : J2 2 5 1 5 := fun _ => by kernel_rfl
theorem q2520 : J2 2 5 2 0 := fun _ => by kernel_rfl
theorem q2521 : J2 2 5 2 1 := fun _ => by kernel_rfl
theorem q2522 : J2 2 5 2 2 := fun _ => by kernel_rfl
theorem q2523 : J2 2 5 2 3 := fun _ => by kernel_rfl
theorem q2524 : J2 2 5 2 4 := fun _ => by kernel_rfl
theorem q2525 : J2 2 5 2 5 := fun _ => by kernel_rfl
theorem q2600 : J2 2 6 0 0 := fun _ => by kernel_rfl
theorem q2601 : J2 2 6 0 1 := fun _ => by kernel_rfl
theorem q2602 : J2 2 6 0 2 := fun _ => by kernel_rfl
theorem q2603 : J2 2 6 0 3 := fun _ => by kernel_rfl
theorem q2604 : J2 2 6 0 4 := fun _ => by kernel_rfl
theorem q2605 : J2 2 6 0 5 := fun _ => by kernel_rfl
theorem q2606 : J2 2 6 0 6 := fun _ => by kernel_rfl
theorem q2610 : J2 2 6 1 0 := fun _ => by kernel_rfl
theorem q2611 : J2 2 6 1 1 := fun _ => by kernel_rfl
theorem q2612 : J2 2 6 1 2 := fun _ => by kernel_rfl
theorem q2613 : J2 2 6 1 3 := fun _ => by kernel_rfl
theorem q2614 : J2 2 6 1 4 := fun _ => by kernel_rfl
theorem q2615 : J2 2 6 1 5 := fun _ => by kernel_rfl
theorem q2616 : J2 2 6 1 6 := fun _ => by kernel_rfl
theorem q2620 : J2 2 6 2 0 := fun _ => by kernel_rfl
theorem q2621 : J2 2 6 2 1 := fun _ => by kernel_rfl
theorem q2622 : J2 2 6 2 2 := fun _ => by kernel_rfl
theorem q2623 : J2 2 6 2 3 := fun _ => by kernel_rfl
theorem q2624 : J2 2 6 2 4 := fun _ => by kernel_rfl
theorem q2625 : J2 2 6 2 5 := fun _ => by kernel_rfl
theorem q2626 : J2 2 6 2 6 := fun _ => by kernel_rfl
theorem q3000 : J2 3 0 0 0 := fun _ => by kernel_rfl
theorem q3010 : J2 3 0 1 0 := fun _ => by kernel_rfl
theorem q3020 : J2 3 0 2 0 := fun _ => by kernel_rfl
theorem q3030 : J2 3 0 3 0 := fun _ => by kernel_rfl
theorem q3100 : J2 3 1 0 0 := fun _ => by kernel_rfl
theorem q3101 : J2 3 1 0 1 := fun _ => by kernel_rfl
theorem q3110 : J2 3 1 1 0 := fun _ => by kernel_rfl
theorem q3111 : J2 3 1 1 1 := fun _ => by kernel_rfl
theorem q3120 : J2 3 1 2 0 := fun _ => by kernel_rfl
theorem q3121 : J2 3 1 2 1 := fun _ => by kernel_rfl
theorem q3130 : J2 3 1 3 0 := fun _ => by kernel_rfl
theorem q3131 : J2 3 1 3 1 := fun _ => by kernel_rfl
theorem q3200 : J2 3 2 0 0 := fun _ => by kernel_rfl
theorem q3201 : J2 3 2 0 1 := fun _ => by kernel_rfl
theorem q3202 : J2 3 2 0 2 := fun _ => by kernel_rfl
theorem q3210 : J2 3 2 1 0 := fun _ => by kernel_rfl
theorem q3211 : J2 3 2 1 1 := fun _ => by kernel_rfl
theorem q3212 : J2 3 2 1 2 := fun _ => by kernel_rfl
theorem q3220 : J2 3 2 2 0 := fun _ => by kernel_rfl
theorem q3221 : J2 3 2 2 1 := fun _ => by kernel_rfl
theorem q3222 : J2 3 2 2 2 := fun _ => by kernel_rfl
theorem q3230 : J2 3 2 3 0 := fun _ => by kernel_rfl
theorem q3231 : J2 3 2 3 1 := fun _ => by kernel_rfl
theorem q3232 : J2 3 2 3 2 := fun _ => by kernel_rfl
theorem q3300 : J2 3 3 0 0 := fun _ => by kernel_rfl
theorem q3301 : J2 3 3 0 1 := fun _ => by kernel_rfl
theorem q3302 : J2 3 3 0 2 := fun _ => by kernel_rfl
theorem q3303 : J2 3 3 0 3 := fun _ => by kernel_rfl
theorem q3310 : J2 3 3 1 0 := fun _ => by kernel_rfl
theorem q3311 : J2 3 3 1 1 := fun _ => by kernel_rfl
theorem q3312 : J2 3 3 1 2 := fun _ => by kernel_rfl
theorem q3313 : J2 3 3 1 3 := fun _ => by kernel_rfl
theorem q3320 : J2 3 3 2 0 := fun _ => by kernel_rfl
theorem q3321 : J2 3 3 2 1 := fun _ => by kernel_rfl
theorem q3322 : J2 3 3 2 2 := fun _ => by kernel_rfl
theorem q3323 : J2 3 3 2 3 := fun _ => by kernel_rfl
theorem q3330 : J2 3 3 3 0 := fun _ => by kernel_rfl
theorem q3331 : J2 3 3 3 1 := fun _ => by kernel_rfl
theorem q3332 : J2 3 3 3 2 := fun _ => by kernel_rfl
theorem q3333 : J2 3 3 3 3 := fun _ => by kernel_rfl
theorem q3400 : J2 3 4 0 0 := fun _ => by kernel_rfl
theorem q3401 : J2 3 4 0 1 := fun _ => by kernel_rfl
theorem q3402 : J2 3 4 0 2 := fun _ => by kernel_rfl
theorem q3403 : J2 3 4 0 3 := fun _ => by kernel_rfl
theorem q3404 : J2 3 4 0 4 := fun _ => by kernel_rfl
theorem q3410 : J2 3 4 1 0 := fun _ => by kernel_rfl
theorem q3411 : J2 3 4 1 1 := fun _ => by kernel_rfl
theorem q3412 : J2 3 4 1 2 := fun _ => by kernel_rfl
theorem q3413 : J2 3 4 1 3 := fun _ => by kernel_rfl
theorem q3414 : J2 3 4 1 4 := fun _ => by kernel_rfl
theorem q3420 : J2 3 4 2 0 := fun _ => by kernel_rfl
theorem q3421 : J2 3 4 2 1 := fun _ => by kernel_rfl
theorem q3422 : J2 3 4 2 2 := fun _ => by kernel_rfl
theorem q3423 : J2 3 4 2 3 := fun _ => by kernel_rfl
theorem q3424 : J2 3 4 2 4 := fun _ => by kernel_rfl
theorem q3430 : J2 3 4 3 0 := fun _ => by kernel_rfl
theorem q3431 : J2 3 4 3 1 := fun _ => by kernel_rfl
theorem q3432 : J2 3 4 3 2 := fun _ => by kernel_rfl
theorem q3433 : J2 3 4 3 3 := fun _ => by kernel_rfl
theorem q3434 : J2 3 4 3 4 := fun _ => by kernel_rfl
theorem q3500 : J2 3 5 0 0 := fun _ => by kernel_rfl
theorem q3501 : J2 3 5 0 1 := fun _ => by kernel_rfl
theorem q3502 : J2 3 5 0 2 := fun _ => by kernel_rfl
theorem q3503 : J2 3 5 0 3 := fun _ => by kernel_rfl
theorem q3504 : J2 3 5 0 4 := fun _ => by kernel_rfl
theorem q3505 : J2 3 5 0 5 := fun _ => by kernel_rfl
theorem q3510 : J2 3 5 1 0 := fun _ => by kernel_rfl
theorem q3511 : J2 3 5 1 1 := fun _ => by kernel_rfl
theorem q3512 : J2 3 5 1 2 := fun _ => by kernel_rfl
theorem q3513 : J2 3 5 1 3 := fun _ => by kernel_rfl
theorem q3514 : J2 3 5 1 4 := fun _ => by kernel_rfl
theorem q3515 : J2 3 5 1 5 := fun _ => by kernel_rfl
theorem q3520 : J2 3 5 2 0 := fun _ => by kernel_rfl
theorem q3521 : J2 3 5 2 1 := fun _ => by kernel_rfl
theorem q3522 : J2 3 5 2 2 := fun _ => by kernel_rfl
theorem q3523 : J2 3 5 2 3 := fun _ => by kernel_rfl
theorem q3524 : J2 3 5 2 4 := fun _ => by kernel_rfl
theorem q3525 : J2 3 5 2 5 := fun _ => by kernel_rfl
theorem q3530 : J2 3 5 3 0 := fun _ => by kernel_rfl
theorem q3531 : J2 3 5 3 1 := fun _ => by kernel_rfl
theorem q3532 : J2 3 5 3 2 := fun _ => by kernel_rfl
theorem q3533 : J2 3 5 3 3 := fun _ => by kernel_rfl
theorem q3534 : J2 3 5 3 4 := fun _ => by kernel_rfl
theorem q3535 : J2 3 5 3 5 := fun _ => by kernel_rfl
theorem q3600 : J2 3 6 0 0 := fun _ => by kernel_rfl
theorem q3601 : J2 3 6 0 1 := fun _ => by kernel_rfl
theorem q3602 : J2 3 6 0 2 := fun _ => by kernel_rfl
theorem q3603 : J2 3 6 0 3 := fun _ => by kernel_rfl
theorem q3604 : J2 3 6 0 4 := fun _ => by kernel_rfl
theorem q3605 : J2 3 6 0 5 := fun _ => by kernel_rfl
theorem q3606 : J2 3 6 0 6 := fun _ => by kernel_rfl
theorem q3610 : J2 3 6 1 0 := fun _ => by kernel_rfl
theorem q3611 : J2 3 6 1 1 := fun _ => by kernel_rfl
theorem q3612 : J2 3 6 1 2 := fun _ => by kernel_rfl
theorem q3613 : J2 3 6 1 3 := fun _ => by kernel_rfl
theorem q3614 : J2 3 6 1 4 := fun _ => by kernel_rfl
theorem q3615 : J2 3 6 1 5 := fun _ => by kernel_rfl
theorem q3616 : J2 3 6 1 6 := fun _ => by kernel_rfl
theorem q3620 : J2 3 6 2 0 := fun _ => by kernel_rfl
theorem q3621 : J2 3 6 2 1 := fun _ => by kernel_rfl
theorem q3622 : J2 3 6 2 2 := fun _ => by kernel_rfl
theorem q3623 : J2 3 6 2 3 := fun _ => by kernel_rfl
theorem q3624 : J2 3 6 2 4 := fun _ => by kernel_rfl
theorem q3625 : J2 3 6 2 5 := fun _ => by kernel_rfl
theorem q3626 : J2 3 6 2 6 := fun _ => by kernel_rfl
theorem q3630 : J2 3 6 3 0 := fun _ => by kernel_rfl
theorem q3631 : J2 3 6 3 1 := fun _ => by kernel_rfl
theorem q3632 : J2 3 6 3 2 := fun _ => by kernel_rfl
theorem q3633 : J2 3 6 3 3 := fun _ => by kernel_rfl
theorem q3634 : J2 3 6 3 4 := fun _ => by kernel_rfl
theorem q3635 : J2 3 6 3 5 := fun _ => by kernel_rfl
theorem q3636 : J2 3 6 3 6 := fun _ => by kernel_rfl
theorem q4000 : J2 4 0 0 0 := fun _ => by kernel_rfl
theorem q4010 : J2 4 0 1 0 := fun _ => by kernel_rfl
theorem q4020 : J2 4 0 2 0 := fun _ => by kernel_rfl
theorem q4030 : J2 4 0 3 0 := fun _ => by kernel_rfl
theorem q4040 : J2 4 0 4 0 := fun _ => by kernel_rfl
theorem q4100 : J2 4 1 0 0 := fun _ => by kernel_rfl
theorem q4101 : J2 4 1 0 1 := fun _ => by kernel_rfl
theorem q4110 : J2 4 1 1 0 := fun _ => by kernel_rfl
theorem q4111 : J2 4 1 1 1 := fun _ => by kernel_rfl
theorem q4120 : J2 4 1 2 0 := fun _ => by kernel_rfl
theorem q4121 : J2 4 1 2 1 := fun _ => by kernel_rfl
theorem q4130 : J2 4 1 3 0 := fun _ => by kernel_rfl
theorem q4131 : J2 4 1 3 1 := fun _ => by kernel_rfl
theorem q4140 : J2 4 1 4 0 := fun _ => by kernel_rfl
theorem q4141 : J2 4 1 4 1 := fun _ => by kernel_rfl
theorem q4200 : J2 4 2 0 0 := fun _ => by kernel_rfl
theorem q4201 : J2 4 2 0 1 := fun _ => by kernel_rfl
theorem q4202 : J2 4 2 0 2 := fun _ => by kernel_rfl
theorem q4210 : J2 4 2 1 0 := fun _ => by kernel_rfl
theorem q4211 : J2 4 2 1 1 := fun _ => by kernel_rfl
theorem q4212 : J2 4 2 1 2 := fun _ => by kernel_rfl
theorem q4220 : J2 4 2 2 0 := fun _ => by kernel_rfl
theorem q4221 : J2 4 2 2 1 := fun _ => by kernel_rfl
theorem q4222 : J2 4 2 2 2 := fun _ => by kernel_rfl
theorem q4230 : J2 4 2 3 0 := fun _ => by kernel_rfl
theorem q4231 : J2 4 2 3 1 := fun _ => by kernel_rfl
theorem q4232 : J2 4 2 3 2 := fun _ => by kernel_rfl
theorem q4240 : J2 4 2 4 0 := fun _ => by kernel_rfl
theorem q4241 : J2 4 2 4 1 := fun _ => by kernel_rfl
theorem q4242 : J2 4 2 4 2 := fun _ => by kernel_rfl
theorem q4300 : J2 4 3 0 0 := fun _ => by kernel_rfl
theorem q4301 : J2 4 3 0 1 := fun _ => by kernel_rfl
theorem q4302 : J2 4 3 0 2 := fun _ => by kernel_rfl
theorem q4303 : J2 4 3 0 3 := fun _ => by kernel_rfl
theorem q4310 : J2 4 3 1 0 := fun _ => by kernel_rfl
theorem q4311 : J2 4 3 1 1 := fun _ => by kernel_rfl
theorem q4312 : J2 4 3 1 2 := fun _ => by kernel_rfl
theorem q4313 : J2 4 3 1 3 := fun _ => by kernel_rfl
theorem q4320 : J2 4 3 2 0 := fun _ => by kernel_rfl
theorem q4321 : J2 4 3 2 1 := fun _ => by kernel_rfl
theorem q4322 : J2 4 3 2 2 := fun _ => by kernel_rfl
theorem q4323 : J2 4 3 2 3 := fun _ => by kernel_rfl
theorem q4330 : J2 4 3 3 0 := fun _ => by kernel_rfl
theorem q4331 : J2 4 3 3 1 := fun _ => by kernel_rfl
theorem q4332 : J2 4 3 3 2 := fun _ => by kernel_rfl
theorem q4333 : J2 4 3 3 3 := fun _ => by kernel_rfl
theorem q4340 : J2 4 3 4 0 := fun _ => by kernel_rfl
theorem q4341 : J2 4 3 4 1 := fun _ => by kernel_rfl
theorem q4342 : J2 4 3 4 2 := fun _ => by kernel_rfl
theorem q4343 : J2 4 3 4 3 := fun _ => by kernel_rfl
theorem q4400 : J2 4 4 0 0 := fun _ => by kernel_rfl
theorem q4401 : J2 4 4 0 1 := fun _ => by kernel_rfl
theorem q4402 : J2 4 4 0 2 := fun _ => by kernel_rfl
theorem q4403 : J2 4 4 0 3 := fun _ => by kernel_rfl
theorem q4404 : J2 4 4 0 4 := fun _ => by kernel_rfl
theorem q4410 : J2 4 4 1 0 := fun _ => by kernel_rfl
theorem q4411 : J2 4 4 1 1 := fun _ => by kernel_rfl
theorem q4412 : J2 4 4 1 2 := fun _ => by kernel_rfl
theorem q4413 : J2 4 4 1 3 := fun _ => by kernel_rfl
theorem q4414 : J2 4 4 1 4 := fun _ => by kernel_rfl
theorem q4420 : J2 4 4 2 0 := fun _ => by kernel_rfl
theorem q4421 : J2 4 4 2 1 := fun _ => by kernel_rfl
theorem q4422 : J2 4 4 2 2 := fun _ => by kernel_rfl
theorem q4423 : J2 4 4 2 3 := fun _ => by kernel_rfl
theorem q4424 : J2 4 4 2 4 := fun _ => by kernel_rfl
theorem q4430 : J2 4 4 3 0 := fun _ => by kernel_rfl
theorem q4431 : J2 4 4 3 1 := fun _ => by kernel_rfl
theorem q4432 : J2 4 4 3 2 := fun _ => by kernel_rfl
theorem q4433 : J2 4 4 3 3 := fun _ => by kernel_rfl
theorem q4434 : J2 4 4 3 4 := fun _ => by kernel_rfl
theorem q4440 : J2 4 4 4 0 := fun _ => by kernel_rfl
theorem q4441 : J2 4 4 4 1 := fun _ => by kernel_rfl
theorem q4442 : J2 4 4 4 2 := fun _ => by kernel_rfl
theorem q4443 : J2 4 4 4 3 := fun _ => by kernel_rfl
theorem q4444 : J2 4 4 4 4 := fun _ => by kernel_rfl
theorem q4500 : J2 4 5 0 0 := fun _ => by kernel_rfl
theorem q4501 : J2 4 5 0 1 := fun _ => by kernel_rfl
theorem q4502 : J2 4 5 0 2 := fun _ => by kernel_rfl
theorem q4503 : J2 4 5 0 3 := fun _ => by kernel_rfl
theorem q4504 : J2 4 5 0 4 := fun _ => by kernel_rfl
theorem q4505 : J2 4 5 0 5 := fun _ => by kernel_rfl
theorem q4510 : J2 4 5 1 0 := fun _ => by kernel_rfl
theorem q4511 : J2 4 5 1 1 := fun _ => by kernel_rfl
theorem q4512 : J2 4 5 1 2 := fun _ => by kernel_rfl
theorem q4513 : J2 4 5 1 3 := fun _ => by kernel_rfl
theorem q4514 : J2 4 5 1 4 := fun _ => by kernel_rfl
theorem q4515 : J2 4 5 1 5 := fun _ => by kernel_rfl
theorem q4520 : J2 4 5 2 0 := fun _ => by kernel_rfl
theorem q4521 : J2 4 5 2 1 := fun _ => by kernel_rfl
theorem q4522 : J2 4 5 2 2 := fun _ => by kernel_rfl
theorem q4523 : J2 4 5 2 3 := fun _ => by kernel_rfl
theorem q4524 : J2 4 5 2 4 := fun _ => by kernel_rfl
theorem q4525 : J2 4 5 2 5 := fun _ => by kernel_rfl
theorem q4530 : J2 4 5 3 0 := fun _ => by kernel_rfl
theorem q4531 : J2 4 5 3 1 := fun _ => by kernel_rfl
theorem q4532 : J2 4 5 3 2 := fun _ => by kernel_rfl
theorem q4533 : J2 4 5 3 3 := fun _ => by kernel_rfl
theorem q4534 : J2 4 5 3 4 := fun _ => by kernel_rfl
theorem q4535 : J2 4 5 3 5 := fun _ => by kernel_rfl
theorem q4540 : J2 4 5 4 0 := fun _ => by kernel_rfl
theorem q4541 : J2 4 5 4 1 := fun _ => by kernel_rfl
theorem q4542 : J2 4 5 4 2 := fun _ => by kernel_rfl
theorem q4543 : J2 4 5 4 3 := fun _ => by kernel_rfl
theorem q4544 : J2 4 5 4 4 := fun _ => by kernel_rfl
theorem q4545 : J2 4 5 4 5 := fun _ => by kernel_rfl
theorem q4600 : J2 4 6 0 0 := fun _ => by kernel_rfl
theorem q4601 : J2 4 6 0 1 := fun _ => by kernel_rfl
theorem q4602 : J2 4 6 0 2 := fun _ => by kernel_rfl
theorem q4603 : J2 4 6 0 3 := fun _ => by kernel_rfl
theorem q4604 : J2 4 6 0 4 := fun _ => by kernel_rfl
theorem q4605 : J2 4 6 0 5 := fun _ => by kernel_rfl
theorem q4606 : J2 4 6 0 6 := fun _ => by kernel_rfl
theorem q4610 : J2 4 6 1 0 := fun _ => by kernel_rfl
theorem q4611 : J2 4 6 1 1 := fun _ => by kernel_rfl
theorem q4612 : J2 4 6 1 2 := fun _ => by kernel_rfl
theorem q4613 : J2 4 6 1 3 := fun _ => by kernel_rfl
theorem q4614 : J2 4 6 1 4 := fun _ => by kernel_rfl
theorem q4615 : J2 4 6 1 5 := fun _ => by kernel_rfl
theorem q4616 : J2 4 6 1 6 := fun _ => by kernel_rfl
theorem q4620 : J2 4 6 2 0 := fun _ => by kernel_rfl
theorem q4621 : J2 4 6 2 1 := fun _ => by kernel_rfl
theorem q4622 : J2 4 6 2 2 := fun _ => by kernel_rfl
theorem q4623 : J2 4 6 2 3 := fun _ => by kernel_rfl
theorem q4624 : J2 4 6 2 4 := fun _ => by kernel_rfl
theorem q4625 : J2 4 6 2 5 := fun _ => by kernel_rfl
theorem q4626 : J2 4 6 2 6 := fun _ => by kernel_rfl
theorem q4630 : J2 4 6 3 0 := fun _ => by kernel_rfl
theorem q4631 : J2 4 6 3 1 := fun _ => by kernel_rfl
theorem q4632 : J2 4 6 3 2 := fun _ => by kernel_rfl
theorem q4633 : J2 4 6 3 3 := fun _ => by kernel_rfl
theorem q4634 : J2 4 6 3 4 := fun _ => by kernel_rfl
theorem q4635 : J2 4 6 3 5 := fun _ => by kernel_rfl
theorem q4636 : J2 4 6 3 6 := fun _ => by kernel_rfl
theorem q4640 : J2 4 6 4 0 := fun _ => by kernel_rfl
theorem q4641 : J2 4 6 4 1 := fun _ => by kernel_rfl
theorem q4642 : J2 4 6 4 2 := fun _ => by kernel_rfl
theorem q4643 : J2 4 6 4 3 := fun _ => by kernel_rfl
theorem q4644 : J2 4 6 4 4 := fun _ => by kernel_rfl
theorem q4645 : J2 4 6 4 5 := fun _ => by kernel_rfl
theorem q4646 : J2 4 6 4 6 := fun _ => by kernel_rfl
theorem q5000 : J2 5 0 0 0 := fun _ => by kernel_rfl
theorem q5010 : J2 5 0 1 0 := fun _ => by kernel_rfl
theorem q5020 : J2 5 0 2 0 := fun _ => by kernel_rfl
theorem q5030 : J2 5 0 3 0 := fun _ => by kernel_rfl
theorem q5040 : J2 5 0 4 0 := fun _ => by kernel_rfl
theorem q5050 : J2 5 0 5 0 := fun _ => by kernel_rfl
theorem q5100 : J2 5 1 0 0 := fun _ => by kernel_rfl
theorem q5101 : J2 5 1 0 1 := fun _ => by kernel_rfl
theorem q5110 : J2 5 1 1 0 := fun _ => by kernel_rfl
theorem q5111 : J2 5 1 1 1 := fun _ => by kernel_rfl
theorem q5120 : J2 5 1 2 0 := fun _ => by kernel_rfl
theorem q5121 : J2 5 1 2 1 := fun _ => by kernel_rfl
theorem q5130 : J2 5 1 3 0 := fun _ => by kernel_rfl
theorem q5131 : J2 5 1 3 1 := fun _ => by kernel_rfl
theorem q5140 : J2 5 1 4 0 := fun _ => by kernel_rfl
theorem q5141 : J2 5 1 4 1 := fun _ => by kernel_rfl
theorem q5150 : J2 5 1 5 0 := fun _ => by kernel_rfl
theorem q5151 : J2 5 1 5 1 := fun _ => by kernel_rfl
theorem q5200 : J2 5 2 0 0 := fun _ => by kernel_rfl
theorem q5201 : J2 5 2 0 1 := fun _ => by kernel_rfl
theorem q5202 : J2 5 2 0 2 := fun _ => by kernel_rfl
theorem q5210 : J2 5 2 1 0 := fun _ => by kernel_rfl
theorem q5211 : J2 5 2 1 1 := fun _ => by kernel_rfl
theorem q5212 : J2 5 2 1 2 := fun _ => by kernel_rfl
theorem q5220 : J2 5 2 2 0 := fun _ => by kernel_rfl
theorem q5221 : J2 5 2 2 1 := fun _ => by kernel_rfl
theorem q5222 : J2 5 2 2 2 := fun _ => by kernel_rfl
theorem q5230 : J2 5 2 3 0 := fun _ => by kernel_rfl
theorem q5231 : J2 5 2 3 1 := fun _ => by kernel_rfl
theorem q5232 : J2 5 2 3 2 := fun _ => by kernel_rfl
theorem q5240 : J2 5 2 4 0 := fun _ => by kernel_rfl
theorem q5241 : J2 5 2 4 1 := fun _ => by kernel_rfl
theorem q5242 : J2 5 2 4 2 := fun _ => by kernel_rfl
theorem q5250 : J2 5 2 5 0 := fun _ => by kernel_rfl
theorem q5251 : J2 5 2 5 1 := fun _ => by kernel_rfl
theorem q5252 : J2 5 2 5 2 := fun _ => by kernel_rfl
theorem q5300 : J2 5 3 0 0 := fun _ => by kernel_rfl
theorem q5301 : J2 5 3 0 1 := fun _ => by kernel_rfl
theorem q5302 : J2 5 3 0 2 := fun _ => by kernel_rfl
theorem q5303 : J2 5 3 0 3 := fun _ => by kernel_rfl
theorem q5310 : J2 5 3 1 0 := fun _ => by kernel_rfl
theorem q5311 : J2 5 3 1 1 := fun _ => by kernel_rfl
theorem q5312 : J2 5 3 1 2 := fun _ => by kernel_rfl
theorem q5313 : J2 5 3 1 3 := fun _ => by kernel_rfl
theorem q5320 : J2 5 3 2 0 := fun _ => by kernel_rfl
theorem q5321 : J2 5 3 2 1 := fun _ => by kernel_rfl
theorem q5322 : J2 5 3 2 2 := fun _ => by kernel_rfl
theorem q5323 : J2 5 3 2 3 := fun _ => by kernel_rfl
theorem q5330 : J2 5 3 3 0 := fun _ => by kernel_rfl
theorem q5331 : J2 5 3 3 1 := fun _ => by kernel_rfl
theorem q5332 : J2 5 3 3 2 := fun _ => by kernel_rfl
theorem q5333 : J2 5 3 3 3 := fun _ => by kernel_rfl
theorem q5340 : J2 5 3 4 0 := fun _ => by kernel_rfl
theorem q5341 : J2 5 3 4 1 := fun _ => by kernel_rfl
theorem q5342 : J2 5 3 4 2 := fun _ => by kernel_rfl
theorem q5343 : J2 5 3 4 3 := fun _ => by kernel_rfl
theorem q5350 : J2 5 3 5 0 := fun _ => by kernel_rfl
theorem q5351 : J2 5 3 5 1 := fun _ => by kernel_rfl
theorem q5352 : J2 5 3 5 2 := fun _ => by kernel_rfl
theorem q5353 : J2 5 3 5 3 := fun _ => by kernel_rfl
theorem q5400 : J2 5 4 0 0 := fun _ => by kernel_rfl
theorem q5401 : J2 5 4 0 1 := fun _ => by kernel_rfl
theorem q5402 : J2 5 4 0 2 := fun _ => by kernel_rfl
theorem q5403 : J2 5 4 0 3 := fun _ => by kernel_rfl
theorem q5404 : J2 5 4 0 4 := fun _ => by kernel_rfl
theorem q5410 : J2 5 4 1 0 := fun _ => by kernel_rfl
theorem q5411 : J2 5 4 1 1 := fun _ => by kernel_rfl
theorem q5412 : J2 5 4 1 2 := fun _ => by kernel_rfl
theorem q5413 : J2 5 4 1 3 := fun _ => by kernel_rfl
theorem q5414 : J2 5 4 1 4 := fun _ => by kernel_rfl
theorem q5420 : J2 5 4 2 0 := fun _ => by kernel_rfl
theorem q5421 : J2 5 4 2 1 := fun _ => by kernel_rfl
theorem q5422 : J2 5 4 2 2 := fun _ => by kernel_rfl
theorem q5423 : J2 5 4 2 3 := fun _ => by kernel_rfl
theorem q5424 : J2 5 4 2 4 := fun _ => by kernel_rfl
theorem q5430 : J2 5 4 3 0 := fun _ => by kernel_rfl
theorem q5431 : J2 5 4 3 1 := fun _ => by kernel_rfl
theorem q5432 : J2 5 4 3 2 := fun _ => by kernel_rfl
theorem q5433 : J2 5 4 3 3 := fun _ => by kernel_rfl
theorem q5434 : J2 5 4 3 4 := fun _ => by kernel_rfl
theorem q5440 : J2 5 4 4 0 := fun _ => by kernel_rfl
theorem q5441 : J2 5 4 4 1 := fun _ => by kernel_rfl
theorem q5442 : J2 5 4 4 2 := fun _ => by kernel_rfl
theorem q5443 : J2 5 4 4 3 := fun _ => by kernel_rfl
theorem q5444 : J2 5 4 4 4 := fun _ => by kernel_rfl
theorem q5450 : J2 5 4 5 0 := fun _ => by kernel_rfl
theorem q5451 : J2 5 4 5 1 := fun _ => by kernel_rfl
theorem q5452 : J2 5 4 5 2 := fun _ => by kernel_rfl
theorem q5453 : J2 5 4 5 3 := fun _ => by kernel_rfl
theorem q5454 : J2 5 4 5 4 := fun _ => by kernel_rfl
theorem q5500 : J2 5 5 0 0 := fun _ => by kernel_rfl
theorem q5501 : J2 5 5 0 1 := fun _ => by kernel_rfl
theorem q5502 : J2 5 5 0 2 := fun _ => by kernel_rfl
theorem q5503 : J2 5 5 0 3 := fun _ => by kernel_rfl
theorem q5504 : J2 5 5 0 4 := fun _ => by kernel_rfl
theorem q5505 : J2 5 5 0 5 := fun _ => by kernel_rfl
theorem q5510 : J2 5 5 1 0 := fun _ => by kernel_rfl
theorem q5511 : J2 5 5 1 1 := fun _ => by kernel_rfl
theorem q5512 : J2 5 5 1 2 := fun _ => by kernel_rfl
theorem q5513 : J2 5 5 1 3 := fun _ => by kernel_rfl
theorem q5514 : J2 5 5 1 4 := fun _ => by kernel_rfl
theorem q5515 : J2 5 5 1 5 := fun _ => by kernel_rfl
theorem q5520 : J2 5 5 2 0 := fun _ => by kernel_rfl
theorem q5521 : J2 5 5 2 1 := fun _ => by kernel_rfl
theorem q5522 : J2 5 5 2 2 := fun _ => by kernel_rfl
theorem q5523 : J2 5 5 2 3 := fun _ => by kernel_rfl
theorem q5524 : J2 5 5 2 4 := fun _ => by kernel_rfl
theorem q5525 : J2 5 5 2 5 := fun _ => by kernel_rfl
theorem q5530 : J2 5 5 3 0 := fun _ => by kernel_rfl
theorem q5531 : J2 5 5 3 1 := fun _ => by kernel_rfl
theorem q5532 : J2 5 5 3 2 := fun _ => by kernel_rfl
theorem q5533 : J2 5 5 3 3 := fun _ => by kernel_rfl
theorem q5534 : J2 5 5 3 4 := fun _ => by kernel_rfl
theorem q5535 : J2 5 5 3 5 := fun _ => by kernel_rfl
theorem q5540 : J2 5 5 4 0 := fun _ => by kernel_rfl
theorem q5541 : J2 5 5 4 1 := fun _ => by kernel_rfl
theorem q5542 : J2 5 5 4 2 := fun _ => by kernel_rfl
theorem q5543 : J2 5 5 4 3 := fun _ => by kernel_rfl
theorem q5544 : J2 5 5 4 4 := fun _ => by kernel_rfl
theorem q5545 : J2 5 5 4 5 := fun _ => by kernel_rfl
theorem q5550 : J2 5 5 5 0 := fun _ => by kernel_rfl
theorem q5551 : J2 5 5 5 1 := fun _ => by kernel_rfl
theorem q5552 : J2 5 5 5 2 := fun _ => by kernel_rfl
theorem q5553 : J2 5 5 5 3 := fun _ => by kernel_rfl
theorem q5554 : J2 5 5 5 4 := fun _ => by kernel_rfl
theorem q5555 : J2 5 5 5 5 := fun _ => by kernel_rfl
theorem q5600 : J2 5 6 0 0 := fun _ => by kernel_rfl
theorem q5601 : J2 5 6 0 1 := fun _ => by kernel_rfl
theorem q5602 : J2 5 6 0 2 := fun _ => by kernel_rfl
theorem q5603 : J2 5 6 0 3 := fun _ => by kernel_rfl
theorem q5604 : J2 5 6 0 4 := fun _ => by kernel_rfl
theorem q5605 : J2 5 6 0 5 := fun _ => by kernel_rfl
theorem q5606 : J2 5 6 0 6 := fun _ => by kernel_rfl
theorem q5610 : J2 5 6 1 0 := fun _ => by kernel_rfl
theorem q5611 : J2 5 6 1 1 := fun _ => by kernel_rfl
theorem q5612 : J2 5 6 1 2 := fun _ => by kernel_rfl
theorem q5613 : J2 5 6 1 3 := fun _ => by kernel_rfl
theorem q5614 : J2 5 6 1 4 := fun _ => by kernel_rfl
theorem q5615 : J2 5 6 1 5 := fun _ => by kernel_rfl
theorem q5616 : J2 5 6 1 6 := fun _ => by kernel_rfl
theorem q5620 : J2 5 6 2 0 := fun _ => by kernel_rfl
theorem q5621 : J2 5 6 2 1 := fun _ => by kernel_rfl
theorem q5622 : J2 5 6 2 2 := fun _ => by kernel_rfl
theorem q5623 : J2 5 6 2 3 := fun _ => by kernel_rfl
theorem q5624 : J2 5 6 2 4 := fun _ => by kernel_rfl
theorem q5625 : J2 5 6 2 5 := fun _ => by kernel_rfl
theorem q5626 : J2 5 6 2 6 := fun _ => by kernel_rfl
theorem q5630 : J2 5 6 3 0 := fun _ => by kernel_rfl
theorem q5631 : J2 5 6 3 1 := fun _ => by kernel_rfl
theorem q5632 : J2 5 6 3 2 := fun _ => by kernel_rfl
theorem q5633 : J2 5 6 3 3 := fun _ => by kernel_rfl
theorem q5634 : J2 5 6 3 4 := fun _ => by kernel_rfl
theorem q5635 : J2 5 6 3 5 := fun _ => by kernel_rfl
theorem q5636 : J2 5 6 3 6 := fun _ => by kernel_rfl
theorem q5640 : J2 5 6 4 0 := fun _ => by kernel_rfl
theorem q5641 : J2 5 6 4 1 := fun _ => by kernel_rfl
theorem q5642 : J2 5 6 4 2 := fun _ => by kernel_rfl
theorem q5643 : J2 5 6 4 3 := fun _ => by kernel_rfl
theorem q5644 : J2 5 6 4 4 := fun _ => by kernel_rfl
theorem q5645 : J2 5 6 4 5 := fun _ => by kernel_rfl
theorem q5646 : J2 5 6 4 6 := fun _ => by kernel_rfl
theorem q5650 : J2 5 6 5 0 := fun _ => by kernel_rfl
theorem q5651 : J2 5 6 5 1 := fun _ => by kernel_rfl
theorem q5652 : J2 5 6 5 2 := fun _ => by kernel_rfl
theorem q5653 : J2 5 6 5 3 := fun _ => by kernel_rfl
theorem q5654 : J2 5 6 5 4 := fun _ => by kernel_rfl
theorem q5655 : J2 5 6 5 5 := fun _ => by kernel_rfl
theorem q5656 : J2 5 6 5 6 := fun _ => by kernel_rfl
theorem q6000 : J2 6 0 0 0 := fun _ => by kernel_rfl
theorem q6010 : J2 6 0 1 0 := fun _ => by kernel_rfl
theorem q6020 : J2 6 0 2 0 := fun _ => by kernel_rfl
theorem q6030 : J2 6 0 3 0 := fun _ => by kernel_rfl
theorem q6040 : J2 6 0 4 0 := fun _ => by kernel_rfl
theorem q6050 : J2 6 0 5 0 := fun _ => by kernel_rfl
theorem q6060 : J2 6 0 6 0 := fun _ => by kernel_rfl
theorem q6100 : J2 6 1 0 0 := fun _ => by kernel_rfl
theorem q6101 : J2 6 1 0 1 := fun _ => by kernel_rfl
theorem q6110 : J2 6 1 1 0 := fun _ => by kernel_rfl
theorem q6111 : J2 6 1 1 1 := fun _ => by kernel_rfl
theorem q6120 : J2 6 1 2 0 := fun _ => by kernel_rfl
theorem q6121 : J2 6 1 2 1 := fun _ => by kernel_rfl
theorem q6130 : J2 6 1 3 0 := fun _ => by kernel_rfl
theorem q6131 : J2 6 1 3 1 := fun _ => by kernel_rfl
theorem q6140 : J2 6 1 4 0 := fun _ => by kernel_rfl
theorem q6141 : J2 6 1 4 1 := fun _ => by kernel_rfl
theorem q6150 : J2 6 1 5 0 := fun _ => by kernel_rfl
theorem q6151 : J2 6 1 5 1 := fun _ => by kernel_rfl
theorem q6160 : J2 6 1 6 0 := fun _ => by kernel_rfl
theorem q6161 : J2 6 1 6 1 := fun _ => by kernel_rfl
theorem q6200 : J2 6 2 0 0 := fun _ => by kernel_rfl
theorem q6201 : J2 6 2 0 1 := fun _ => by kernel_rfl
theorem q6202 : J2 6 2 0 2 := fun _ => by kernel_rfl
theorem q6210 : J2 6 2 1 0 := fun _ => by kernel_rfl
theorem q6211 : J2 6 2 1 1 := fun _ => by kernel_rfl
theorem q6212 : J2 6 2 1 2 := fun _ => by kernel_rfl
theorem q6220 : J2 6 2 2 0 := fun _ => by kernel_rfl
theorem q6221 : J2 6 2 2 1 := fun _ => by kernel_rfl
theorem q6222 : J2 6 2 2 2 := fun _ => by kernel_rfl
theorem q6230 : J2 6 2 3 0 := fun _ => by kernel_rfl
theorem q6231 : J2 6 2 3 1 := fun _ => by kernel_rfl
theorem q6232 : J2 6 2 3 2 := fun _ => by kernel_rfl
theorem q6240 : J2 6 2 4 0 := fun _ => by kernel_rfl
theorem q6241 : J2 6 2 4 1 := fun _ => by kernel_rfl
theorem q6242 : J2 6 2 4 2 := fun _ => by kernel_rfl
theorem q6250 : J2 6 2 5 0 := fun _ => by kernel_rfl
theorem q6251 : J2 6 2 5 1 := fun _ => by kernel_rfl
theorem q6252 : J2 6 2 5 2 := fun _ => by kernel_rfl
theorem q6260 : J2 6 2 6 0 := fun _ => by kernel_rfl
theorem q6261 : J2 6 2 6 1 := fun _ => by kernel_rfl
theorem q6262 : J2 6 2 6 2 := fun _ => by kernel_rfl
theorem q6300 : J2 6 3 0 0 := fun _ => by kernel_rfl
theorem q6301 : J2 6 3 0 1 := fun _ => by kernel_rfl
theorem q6302 : J2 6 3 0 2 := fun _ => by kernel_rfl
theorem q6303 : J2 6 3 0 3 := fun _ => by kernel_rfl
theorem q6310 : J2 6 3 1 0 := fun _ => by kernel_rfl
theorem q6311 : J2 6 3 1 1 := fun _ => by kernel_rfl
theorem q6312 : J2 6 3 1 2 := fun _ => by kernel_rfl
theorem q6313 : J2 6 3 1 3 := fun _ => by kernel_rfl
theorem q6320 : J2 6 3 2 0 := fun _ => by kernel_rfl
theorem q6321 : J2 6 3 2 1 := fun _ => by kernel_rfl
theorem q6322 : J2 6 3 2 2 := fun _ => by kernel_rfl
theorem q6323 : J2 6 3 2 3 := fun _ => by kernel_rfl
theorem q6330 : J2 6 3 3 0 := fun _ => by kernel_rfl
theorem q6331 : J2 6 3 3 1 := fun _ => by kernel_rfl
theorem q6332 : J2 6 3 3 2 := fun _ => by kernel_rfl
theorem q6333 : J2 6 3 3 3 := fun _ => by kernel_rfl
theorem q6340 : J2 6 3 4 0 := fun _ => by kernel_rfl
theorem q6341 : J2 6 3 4 1 := fun _ => by kernel_rfl
theorem q6342 : J2 6 3 4 2 := fun _ => by kernel_rfl
theorem q6343 : J2 6 3 4 3 := fun _ => by kernel_rfl
theorem q6350 : J2 6 3 5 0 := fun _ => by kernel_rfl
theorem q6351 : J2 6 3 5 1 := fun _ => by kernel_rfl
theorem q6352 : J2 6 3 5 2 := fun _ => by kernel_rfl
theorem q6353 : J2 6 3 5 3 := fun _ => by kernel_rfl
theorem q6360 : J2 6 3 6 0 := fun _ => by kernel_rfl
theorem q6361 : J2 6 3 6 1 := fun _ => by kernel_rfl
theorem q6362 : J2 6 3 6 2 := fun _ => by kernel_rfl
theorem q6363 : J2 6 3 6 3 := fun _ => by kernel_rfl
theorem q6400 : J2 6 4 0 0 := fun _ => by kernel_rfl
theorem q6401 : J2 6 4 0 1 := fun _ => by kernel_rfl
theorem q6402 : J2 6 4 0 2 := fun _ => by kernel_rfl
theorem q6403 : J2 6 4 0 3 := fun _ => by kernel_rfl
theorem q6404 : J2 6 4 0 4 := fun _ => by kernel_rfl
theorem q6410 : J2 6 4 1 0 := fun _ => by kernel_rfl
theorem q6411 : J2 6 4 1 1 := fun _ => by kernel_rfl
theorem q6412 : J2 6 4 1 2 := fun _ => by kernel_rfl
theorem q6413 : J2 6 4 1 3 := fun _ => by kernel_rfl
theorem q6414 : J2 6 4 1 4 := fun _ => by kernel_rfl
theorem q6420 : J2 6 4 2 0 := fun _ => by kernel_rfl
theorem q6421 : J2 6 4 2 1 := fun _ => by kernel_rfl
theorem q6422 : J2 6 4 2 2 := fun _ => by kernel_rfl
theorem q6423 : J2 6 4 2 3 := fun _ => by kernel_rfl
theorem q6424 : J2 6 4 2 4 := fun _ => by kernel_rfl
theorem q6430 : J2 6 4 3 0 := fun _ => by kernel_rfl
theorem q6431 : J2 6 4 3 1 := fun _ => by kernel_rfl
theorem q6432 : J2 6 4 3 2 := fun _ => by kernel_rfl
theorem q6433 : J2 6 4 3 3 := fun _ => by kernel_rfl
theorem q6434 : J2 6 4 3 4 := fun _ => by kernel_rfl
theorem q6440 : J2 6 4 4 0 := fun _ => by kernel_rfl
theorem q6441 : J2 6 4 4 1 := fun _ => by kernel_rfl
theorem q6442 : J2 6 4 4 2 := fun _ => by kernel_rfl
theorem q6443 : J2 6 4 4 3 := fun _ => by kernel_rfl
theorem q6444 : J2 6 4 4 4 := fun _ => by kernel_rfl
theorem q6450 : J2 6 4 5 0 := fun _ => by kernel_rfl
theorem q6451 : J2 6 4 5 1 := fun _ => by kernel_rfl
theorem q6452 : J2 6 4 5 2 := fun _ => by kernel_rfl
theorem q6453 : J2 6 4 5 3 := fun _ => by kernel_rfl
theorem q6454 : J2 6 4 5 4 := fun _ => by kernel_rfl
theorem q6460 : J2 6 4 6 0 := fun _ => by kernel_rfl
theorem q6461 : J2 6 4 6 1 := fun _ => by kernel_rfl
theorem q6462 : J2 6 4 6 2 := fun _ => by kernel_rfl
theorem q6463 : J2 6 4 6 3 := fun _ => by kernel_rfl
theorem q6464 : J2 6 4 6 4 := fun _ => by kernel_rfl
theorem q6500 : J2 6 5 0 0 := fun _ => by kernel_rfl
theorem q6501 : J2 6 5 0 1 := fun _ => by kernel_rfl
theorem q6502 : J2 6 5 0 2 := fun _ => by kernel_rfl
theorem q6503 : J2 6 5 0 3 := fun _ => by kernel_rfl
theorem q6504 : J2 6 5 0 4 := fun _ => by kernel_rfl
theorem q6505 : J2 6 5 0 5 := fun _ => by kernel_rfl
theorem q6510 : J2 6 5 1 0 := fun _ => by kernel_rfl
theorem q6511 : J2 6 5 1 1 := fun _ => by kernel_rfl
theorem q6512 : J2 6 5 1 2 := fun _ => by kernel_rfl
theorem q6513 : J2 6 5 1 3 := fun _ => by kernel_rfl
theorem q6514 : J2 6 5 1 4 := fun _ => by kernel_rfl
theorem q6515 : J2 6 5 1 5 := fun _ => by kernel_rfl
theorem q6520 : J2 6 5 2 0 := fun _ => by kernel_rfl
theorem q6521 : J2 6 5 2 1 := fun _ => by kernel_rfl
theorem q6522 : J2 6 5 2 2 := fun _ => by kernel_rfl
theorem q6523 : J2 6 5 2 3 := fun _ => by kernel_rfl
theorem q6524 : J2 6 5 2 4 := fun _ => by kernel_rfl
theorem q6525 : J2 6 5 2 5 := fun _ => by kernel_rfl
theorem q6530 : J2 6 5 3 0 := fun _ => by kernel_rfl
theorem q6531 : J2 6 5 3 1 := fun _ => by kernel_rfl
theorem q6532 : J2 6 5 3 2 := fun _ => by kernel_rfl
theorem q6533 : J2 6 5 3 3 := fun _ => by kernel_rfl
theorem q6534 : J2 6 5 3 4 := fun _ => by kernel_rfl
theorem q6535 : J2 6 5 3 5 := fun _ => by kernel_rfl
theorem q6540 : J2 6 5 4 0 := fun _ => by kernel_rfl
theorem q6541 : J2 6 5 4 1 := fun _ => by kernel_rfl
theorem q6542 : J2 6 5 4 2 := fun _ => by kernel_rfl
theorem q6543 : J2 6 5 4 3 := fun _ => by kernel_rfl
theorem q6544 : J2 6 5 4 4 := fun _ => by kernel_rfl
theorem q6545 : J2 6 5 4 5 := fun _ => by kernel_rfl
theorem q6550 : J2 6 5 5 0 := fun _ => by kernel_rfl
theorem q6551 : J2 6 5 5 1 := fun _ => by kernel_rfl
theorem q6552 : J2 6 5 5 2 := fun _ => by kernel_rfl
theorem q6553 : J2 6 5 5 3 := fun _ => by kernel_rfl
theorem q6554 : J2 6 5 5 4 := fun _ => by kernel_rfl
theorem q6555 : J2 6 5 5 5 := fun _ => by kernel_rfl
theorem q6560 : J2 6 5 6 0 := fun _ => by kernel_rfl
theorem q6561 : J2 6 5 6 1 := fun _ => by kernel_rfl
theorem q6562 : J2 6 5 6 2 := fun _ => by kernel_rfl
theorem q6563 : J2 6 5 6 3 := fun _ => by kernel_rfl
theorem q6564 : J2 6 5 6 4 := fun _ => by kernel_rfl
theorem q6565 : J2 6 5 6 5 := fun _ => by kernel_rfl
theorem q6600 : J2 6 6 0 0 := fun _ => by kernel_rfl
theorem q6601 : J2 6 6 0 1 := fun _ => by kernel_rfl
theorem q6602 : J2 6 6 0 2 := fun _ => by kernel_rfl
theorem q6603 : J2 6 6 0 3 := fun _ => by kernel_rfl
theorem q6604 : J2 6 6 0 4 := fun _ => by kernel_rfl
theorem q6605 : J2 6 6 0 5 := fun _ => by kernel_rfl
theorem q6606 : J2 6 6 0 6 := fun _ => by kernel_rfl
theorem q6610 : J2 6 6 1 0 := fun _ => by kernel_rfl
theorem q6611 : J2 6 6 1 1 := fun _ => by kernel_rfl
theorem q6612 : J2 6 6 1 2 := fun _ => by kernel_rfl
theorem q6613 : J2 6 6 1 3 := fun _ => by kernel_rfl
theorem q6614 : J2 6 6 1 4 := fun _ => by kernel_rfl
theorem q6615 : J2 6 6 1 5 := fun _ => by kernel_rfl
theorem q6616 : J2 6 6 1 6 := fun _ => by kernel_rfl
theorem q6620 : J2 6 6 2 0 := fun _ => by kernel_rfl
theorem q6621 : J2 6 6 2 1 := fun _ => by kernel_rfl
theorem q6622 : J2 6 6 2 2 := fun _ => by kernel_rfl
theorem q6623 : J2 6 6 2 3 := fun _ => by kernel_rfl
theorem q6624 : J2 6 6 2 4 := fun _ => by kernel_rfl
theorem q6625 : J2 6 6 2 5 := fun _ => by kernel_rfl
theorem q6626 : J2 6 6 2 6 := fun _ => by kernel_rfl
theorem q6630 : J2 6 6 3 0 := fun _ => by kernel_rfl
theorem q6631 : J2 6 6 3 1 := fun _ => by kernel_rfl
theorem q6632 : J2 6 6 3 2 := fun _ => by kernel_rfl
theorem q6633 : J2 6 6 3 3 := fun _ => by kernel_rfl
theorem q6634 : J2 6 6 3 4 := fun _ => by kernel_rfl
theorem q6635 : J2 6 6 3 5 := fun _ => by kernel_rfl
theorem q6636 : J2 6 6 3 6 := fun _ => by kernel_rfl
theorem q6640 : J2 6 6 4 0 := fun _ => by kernel_rfl
theorem q6641 : J2 6 6 4 1 := fun _ => by kernel_rfl
theorem q6642 : J2 6 6 4 2 := fun _ => by kernel_rfl
theorem q6643 : J2 6 6 4 3 := fun _ => by kernel_rfl
theorem q6644 : J2 6 6 4 4 := fun _ => by kernel_rfl
theorem q6645 : J2 6 6 4 5 := fun _ => by kernel_rfl
theorem q6646 : J2 6 6 4 6 := fun _ => by kernel_rfl
theorem q6650 : J2 6 6 5 0 := fun _ => by kernel_rfl
theorem q6651 : J2 6 6 5 1 := fun _ => by kernel_rfl
theorem q6652 : J2 6 6 5 2 := fun _ => by kernel_rfl
theorem q6653 : J2 6 6 5 3 := fun _ => by kernel_rfl
theorem q6654 : J2 6 6 5 4 := fun _ => by kernel_rfl
theorem q6655 : J2 6 6 5 5 := fun _ => by kernel_rfl
theorem q6656 : J2 6 6 5 6 := fun _ => by kernel_rfl
theorem q6660 : J2 6 6 6 0 := fun _ => by kernel_rfl
theorem q6661 : J2 6 6 6 1 := fun _ => by kernel_rfl
theorem q6662 : J2 6 6 6 2 := fun _ => by kernel_rfl
theorem q6663 : J2 6 6 6 3 := fun _ => by kernel_rfl
theorem q6664 : J2 6 6 6 4 := fun _ => by kernel_rfl
theorem q6665 : J2 6 6 6 5 := fun _ => by kernel_rfl
theorem q6666 : J2 6 6 6 6 := fun _ => by kernel_rfl
end Go.Proofs.Ytbhfjdlhhjeknaa.Ab

namespace Go.Proofs.Ytbhfjdlhhjeknaa.Ab
set_option linter.unusedVariables false
set_option linter.unusedSimpArgs false
open Go
theorem c1 {x : Int} (h : 0 ≤ x ∧ x < 1) : x = 0 := by omega
theorem c2 {x : Int} (h : 0 ≤ x ∧ x < 2) : x = 0 ∨ x = 1 := by omega
theorem c3 {x : Int} (h : 0 ≤ x ∧ x < 3) : x = 0 ∨ x = 1 ∨ x = 2 := by omega
theorem c4 {x : Int} (h : 0 ≤ x ∧ x < 4) : x = 0 ∨ x = 1 ∨ x = 2 ∨ x = 3 := by omega
theorem c5 {x : Int} (h : 0 ≤ x ∧ x < 5) : x = 0 ∨ x = 1 ∨ x = 2 ∨ x = 3 ∨ x = 4 := by omega
theorem c6 {x : Int} (h : 0 ≤ x ∧ x < 6) : x = 0 ∨ x = 1 ∨ x = 2 ∨ x = 3 ∨ x = 4 ∨ x = 5 := by omega
theorem c7 {x : Int} (h : 0 ≤ x ∧ x < 7) : x = 0 ∨ x = 1 ∨ x = 2 ∨ x = 3 ∨ x = 4 ∨ x = 5 ∨ x = 6 := by omega
theorem c8 {x : Int} (h : 0 ≤ x ∧ x < 8) : x = 0 ∨ x = 1 ∨ x = 2 ∨ x = 3 ∨ x = 4 ∨ x = 5 ∨ x = 6 ∨ x = 7 := by omega
theorem c9 {x : Int} (h : 0 ≤ x ∧ x < 9) : x = 0 ∨ x = 1 ∨ x = 2 ∨ x = 3 ∨ x = 4 ∨ x = 5 ∨ x = 6 ∨ x = 7 ∨ x = 8 := by omega
theorem c10 {x : Int} (h : 0 ≤ x ∧ x < 10) : x = 0 ∨ x = 1 ∨ x = 2 ∨ x = 3 ∨ x = 4 ∨ x = 5 ∨ x = 6 ∨ x = 7 ∨ x = 8 ∨ x = 9 := by omega
theorem c11 {x : Int} (h : 0 ≤ x ∧ x < 11) : x = 0 ∨ x = 1 ∨ x = 2 ∨ x = 3 ∨ x = 4 ∨ x = 5 ∨ x = 6 ∨ x = 7 ∨ x = 8 ∨ x = 9 ∨ x = 10 := by omega
theorem c12 {x : Int} (h : 0 ≤ x ∧ x < 12) : x = 0 ∨ x = 1 ∨ x = 2 ∨ x = 3 ∨ x = 4 ∨ x = 5 ∨ x = 6 ∨ x = 7 ∨ x = 8 ∨ x = 9 ∨ x = 10 ∨ x = 11 := by omega
theorem c13 {x : Int} (h : 0 ≤ x ∧ x < 13) : x = 0 ∨ x = 1 ∨ x = 2 ∨ x = 3 ∨ x = 4 ∨ x = 5 ∨ x = 6 ∨ x = 7 ∨ x = 8 ∨ x = 9 ∨ x = 10 ∨ x = 11 ∨ x = 12 := by omega
def B4 (w2 w3 : Int) : Int := (IntKind.i64.wrap ((if w3 < w2 then w3 else w2) + 1))
def B5 (w2 w3 w4 : Int) : Int := (IntKind.i64.wrap ((IntKind.i64.wrap ((IntKind.i64.wrap (w2 + w3)) - (IntKind.i64.wrap (2 * w4)))) + 1))
theorem join1 {w2 w3 w4 w5 : Int} (hh : H) (k0 k1 : Int → Int → Int → Int → Option (V × H)) (h2 : 0 ≤ w2 ∧ w2 < 7) (h3 : 0 ≤ w3 ∧ w3 < 7) (h4 : 0 ≤ w4 ∧ w4 < B4 w2 w3) (h5 : 0 ≤ w5 ∧ w5 < B5 w2 w3 w4) : jB1 w2 w3 w4 w5 hh k0 k1 = k1 w2 w3 1 1 := by
  rcases c7 h2 with rfl | rfl | rfl | rfl | rfl | rfl | rfl
  · rcases c7 h3 with rfl | rfl | rfl | rfl | rfl | rfl | rfl
    · rw [show B4 0 0 = 1 by kernel_rfl] at h4
      obtain rfl := c1 h4
      rw [show B5 0 0 0 = 1 by kernel_rfl] at h5
      obtain rfl := c1 h5
      exact p000_0 _ _ _
    · rw [show B4 0 1 = 1 by kernel_rfl] at h4
      obtain rfl := c1 h4
      rw [show B5 0 1 0 = 2 by kernel_rfl] at h5
      rcases c2 h5 with rfl | rfl
      · exact p010_0 _ _ _
      · exact p010_1 _ _ _
    · rw [show B4 0 2 = 1 by kernel_rfl] at h4
      obtain rfl := c1 h4
      rw [show B5 0 2 0 = 3 by kernel_rfl] at h5
      rcases c3 h5 with rfl | rfl | rfl
      · exact p020_0 _ _ _
      · exact p020_1 _ _ _
      · exact p020_2 _ _ _
    · rw [show B4 0 3 = 1 by kernel_rfl] at h4
      obtain rfl := c1 h4
      rw [show B5 0 3 0 = 4 by kernel_rfl] at h5
      rcases c4 h5 with rfl | rfl | rfl | rfl
      · exact p030_0 _ _ _
      · exact p030_1 _ _ _
      · exact p030_2 _ _ _
      · exact p030_3 _ _ _
    · rw [show B4 0 4 = 1 by kernel_rfl] at h4
      obtain rfl := c1 h4
      rw [show B5 0 4 0 = 5 by kernel_rfl] at h5
      rcases c5 h5 with rfl | rfl | rfl | rfl | rfl
      · exact p040_0 _ _ _
      · exact p040_1 _ _ _
      · exact p040_2 _ _ _
      · exact p040_3 _ _ _
      · exact p040_4 _ _ _
    · rw [show B4 0 5 = 1 by kernel_rfl] at h4
      obtain rfl := c1 h4
      rw [show B5 0 5 0 = 6 by kernel_rfl] at h5
      rcases c6 h5 with rfl | rfl | rfl | rfl | rfl | rfl
      · exact p050_0 _ _ _
      · exact p050_1 _ _ _
      · exact p050_2 _ _ _
      · exact p050_3 _ _ _
      · exact p050_4 _ _ _
      · exact p050_5 _ _ _
    · rw [show B4 0 6 = 1 by kernel_rfl] at h4
      obtain rfl := c1 h4
      rw [show B5 0 6 0 = 7 by kernel_rfl] at h5
      rcases c7 h5 with rfl | rfl | rfl | rfl | rfl | rfl | rfl
      · exact p060_0 _ _ _
      · exact p060_1 _ _ _
      · exact p060_2 _ _ _
      · exact p060_3 _ _ _
      · exact p060_4 _ _ _
      · exact p060_5 _ _ _
      · exact p060_6 _ _ _
  · rcases c7 h3 with rfl | rfl | rfl | rfl | rfl | rfl | rfl
    · rw [show B4 1 0 = 1 by kernel_rfl] at h4
      obtain rfl := c1 h4
      rw [show B5 1 0 0 = 2 by kernel_rfl] at h5
      rcases c2 h5 with rfl | rfl
      · exact p100_0 _ _ _
      · exact p100_1 _ _ _
    · rw [show B4 1 1 = 2 by kernel_rfl] at h4
      rcases c2 h4 with rfl | rfl
      · rw [show B5 1 1 0 = 3 by kernel_rfl] at h5
        rcases c3 h5 with rfl | rfl | rfl
        · exact p110_0 _ _ _
        · exact p110_1 _ _ _
        · exact p110_2 _ _ _
      · rw [show B5 1 1 1 = 1 by kernel_rfl] at h5
        obtain rfl := c1 h5
        exact p111_0 _ _ _
    · rw [show B4 1 2 = 2 by kernel_rfl] at h4
      rcases c2 h4 with rfl | rfl
      · rw [show B5 1 2 0 = 4 by kernel_rfl] at h5
        rcases c4 h5 with rfl | rfl | rfl | rfl
        · exact p120_0 _ _ _
        · exact p120_1 _ _ _
        · exact p120_2 _ _ _
        · exact p120_3 _ _ _
      · rw [show B5 1 2 1 = 2 by kernel_rfl] at h5
        rcases c2 h5 with rfl | rfl
        · exact p121_0 _ _ _
        · exact p121_1 _ _ _
    · rw [show B4 1 3 = 2 by kernel_rfl] at h4
      rcases c2 h4 with rfl | rfl
      · rw [show B5 1 3 0 = 5 by kernel_rfl] at h5
        rcases c5 h5 with rfl | rfl | rfl | rfl | rfl
        · exact p130_0 _ _ _
        · exact p130_1 _ _ _
        · exact p130_2 _ _ _
        · exact p130_3 _ _ _
        · exact p130_4 _ _ _
      · rw [show B5 1 3 1 = 3 by kernel_rfl] at h5
        rcases c3 h5 with rfl | rfl | rfl
        · exact p131_0 _ _ _
        · exact p131_1 _ _ _
        · exact p131_2 _ _ _
    · rw [show B4 1 4 = 2 by kernel_rfl] at h4
      rcases c2 h4 with rfl | rfl
      · rw [show B5 1 4 0 = 6 by kernel_rfl] at h5
        rcases c6 h5 with rfl | rfl | rfl | rfl | rfl | rfl
        · exact p140_0 _ _ _
        · exact p140_1 _ _ _
        · exact p140_2 _ _ _
        · exact p140_3 _ _ _
        · exact p140_4 _ _ _
        · exact p140_5 _ _ _
      · rw [show B5 1 4 1 = 4 by kernel_rfl] at h5
        rcases c4 h5 with rfl | rfl | rfl | rfl
        · exact p141_0 _ _ _
        · exact p141_1 _ _ _
        · exact p141_2 _ _ _
        · exact p141_3 _ _ _
    · rw [show B4 1 5 = 2 by kernel_rfl] at h4
      rcases c2 h4 with rfl | rfl
      · rw [show B5 1 5 0 = 7 by kernel_rfl] at h5
        rcases c7 h5 with rfl | rfl | rfl | rfl | rfl | rfl | rfl
        · exact p150_0 _ _ _
        · exact p150_1 _ _ _
        · exact p150_2 _ _ _
        · exact p150_3 _ _ _
        · exact p150_4 _ _ _
        · exact p150_5 _ _ _
        · exact p150_6 _ _ _
      · rw [show B5 1 5 1 = 5 by kernel_rfl] at h5
        rcases c5 h5 with rfl | rfl | rfl | rfl | rfl
        · exact p151_0 _ _ _
        · exact p151_1 _ _ _
        · exact p151_2 _ _ _
        · exact p151_3 _ _ _
        · exact p151_4 _ _ _
    · rw [show B4 1 6 = 2 by kernel_rfl] at h4
      rcases c2 h4 with rfl | rfl
      · rw [show B5 1 6 0 = 8 by kernel_rfl] at h5
        rcases c8 h5 with rfl | rfl | rfl | rfl | rfl | rfl | rfl | rfl
        · exact p160_0 _ _ _
        · exact p160_1 _ _ _
        · exact p160_2 _ _ _
        · exact p160_3 _ _ _
        · exact p160_4 _ _ _
        · exact p160_5 _ _ _
        · exact p160_6 _ _ _
        · exact p160_7 _ _ _
      · rw [show B5 1 6 1 = 6 by kernel_rfl] at h5
        rcases c6 h5 with rfl | rfl | rfl | rfl | rfl | rfl
        · exact p161_0 _ _ _
        · exact p161_1 _ _ _
        · exact p161_2 _ _ _
        · exact p161_3 _ _ _
        · exact p161_4 _ _ _
        · exact p161_5 _ _ _
  · rcases c7 h3 with rfl | rfl | rfl | rfl | rfl | rfl | rfl
    · rw [show B4 2 0 = 1 by kernel_rfl] at h4
      obtain rfl := c1 h4
      rw [show B5 2 0 0 = 3 by kernel_rfl] at h5
      rcases c3 h5 with rfl | rfl | rfl
      · exact p200_0 _ _ _
      · exact p200_1 _ _ _
      · exact p200_2 _ _ _
    · rw [show B4 2 1 = 2 by kernel_rfl] at h4
      rcases c2 h4 with rfl | rfl
      · rw [show B5 2 1 0 = 4 by kernel_rfl] at h5
        rcases c4 h5 with rfl | rfl | rfl | rfl
        · exact p210_0 _ _ _
        · exact p210_1 _ _ _
        · exact p210_2 _ _ _
        · exact p210_3 _ _ _
      · rw [show B5 2 1 1 = 2 by kernel_rfl] at h5
        rcases c2 h5 with rfl | rfl
        · exact p211_0 _ _ _
        · exact p211_1 _ _ _
    · rw [show B4 2 2 = 3 by kernel_rfl] at h4
      rcases c3 h4 with rfl | rfl | rfl
      · rw [show B5 2 2 0 = 5 by kernel_rfl] at h5
        rcases c5 h5 with rfl | rfl | rfl | rfl | rfl
        · exact p220_0 _ _ _
        · exact p220_1 _ _ _
        · exact p220_2 _ _ _
        · exact p220_3 _ _ _
        · exact p220_4 _ _ _
      · rw [show B5 2 2 1 = 3 by kernel_rfl] at h5
        rcases c3 h5 with rfl | rfl | rfl
        · exact p221_0 _ _ _
        · exact p221_1 _ _ _
        · exact p221_2 _ _ _
      · rw [show B5 2 2 2 = 1 by kernel_rfl] at h5
        obtain rfl := c1 h5
        exact p222_0 _ _ _
    · rw [show B4 2 3 = 3 by kernel_rfl] at h4
      rcases c3 h4 with rfl | rfl | rfl
      · rw [show B5 2 3 0 = 6 by kernel_rfl] at h5
        rcases c6 h5 with rfl | rfl | rfl | rfl | rfl | rfl
        · exact p230_0 _ _ _
        · exact p230_1 _ _ _
        · exact p230_2 _ _ _
        · exact p230_3 _ _ _
        · exact p230_4 _ _ _
        · exact p230_5 _ _ _
      · rw [show B5 2 3 1 = 4 by kernel_rfl] at h5
        rcases c4 h5 with rfl | rfl | rfl | rfl
        · exact p231_0 _ _ _
        · exact p231_1 _ _ _
        · exact p231_2 _ _ _
        · exact p231_3 _ _ _
      · rw [show B5 2 3 2 = 2 by kernel_rfl] at h5
        rcases c2 h5 with rfl | rfl
        · exact p232_0 _ _ _
        · exact p232_1 _ _ _
    · rw [show B4 2 4 = 3 by kernel_rfl] at h4
      rcases c3 h4 with rfl | rfl | rfl
      · rw [show B5 2 4 0 = 7 by kernel_rfl] at h5
        rcases c7 h5 with rfl | rfl | rfl | rfl | rfl | rfl | rfl
        · exact p240_0 _ _ _
        · exact p240_1 _ _ _
        · exact p240_2 _ _ _
        · exact p240_3 _ _ _
        · exact p240_4 _ _ _
        · exact p240_5 _ _ _
        · exact p240_6 _ _ _
      · rw [show B5 2 4 1 = 5 by kernel_rfl] at h5
        rcases c5 h5 with rfl | rfl | rfl | rfl | rfl
        · exact p241_0 _ _ _
        · exact p241_1 _ _ _
        · exact p241_2 _ _ _
        · exact p241_3 _ _ _
        · exact p241_4 _ _ _
      · rw [show B5 2 4 2 = 3 by kernel_rfl] at h5
        rcases c3 h5 with rfl | rfl | rfl
        · exact p242_0 _ _ _
        · exact p242_1 _ _ _
        · exact p242_2 _ _ _
    · rw [show B4 2 5 = 3 by kernel_rfl] at h4
      rcases c3 h4 with rfl | rfl | rfl
      · rw [show B5 2 5 0 = 8 by kernel_rfl] at h5
        rcases c8 h5 with rfl | rfl | rfl | rfl | rfl | rfl | rfl | rfl
        · exact p250_0 _ _ _
        · exact p250_1 _ _ _
        · exact p250_2 _ _ _
        · exact p250_3 _ _ _
        · exact p250_4 _ _ _
        · exact p250_5 _ _ _
        · exact p250_6 _ _ _
        · exact p250_7 _ _ _
      · rw [show B5 2 5 1 = 6 by kernel_rfl] at h5
        rcases c6 h5 with rfl | rfl | rfl | rfl | rfl | rfl
        · exact p251_0 _ _ _
        · exact p251_1 _ _ _
        · exact p251_2 _ _ _
        · exact p251_3 _ _ _
        · exact p251_4 _ _ _
        · exact p251_5 _ _ _
      · rw [show B5 2 5 2 = 4 by kernel_rfl] at h5
        rcases c4 h5 with rfl | rfl | rfl | rfl
        · exact p252_0 _ _ _
        · exact p252_1 _ _ _
        · exact p252_2 _ _ _
        · exact p252_3 _ _ _
    · rw [show B4 2 6 = 3 by kernel_rfl] at h4
      rcases c3 h4 with rfl | rfl | rfl
      · rw [show B5 2 6 0 = 9 by kernel_rfl] at h5
        rcases c9 h5 with rfl | rfl | rfl | rfl | rfl | rfl | rfl | rfl | rfl
        · exact p260_0 _ _ _
        · exact p260_1 _ _ _
        · exact p260_2 _ _ _
        · exact p260_3 _ _ _
        · exact p260_4 _ _ _
        · exact p260_5 _ _ _
        · exact p260_6 _ _ _
        · exact p260_7 _ _ _
        · exact p260_8 _ _ _
      · rw [show B5 2 6 1 = 7 by kernel_rfl] at h5
        rcases c7 h5 with rfl | rfl | rfl | rfl | rfl | rfl | rfl
        · exact p261_0 _ _ _
        · exact p261_1 _ _ _
        · exact p261_2 _ _ _
        · exact p261_3 _ _ _
        · exact p261_4 _ _ _
        · exact p261_5 _ _ _
        · exact p261_6 _ _ _
      · rw [show B5 2 6 2 = 5 by kernel_rfl] at h5
        rcases c5 h5 with rfl | rfl | rfl | rfl | rfl
        · exact p262_0 _ _ _
        · exact p262_1 _ _ _
        · exact p262_2 _ _ _
        · exact p262_3 _ _ _
        · exact p262_4 _ _ _
  · rcases c7 h3 with rfl | rfl | rfl | rfl | rfl | rfl | rfl
    · rw [show B4 3 0 = 1 by kernel_rfl] at h4
      obtain rfl := c1 h4
      rw [show B5 3 0 0 = 4 by kernel_rfl] at h5
      rcases c4 h5 with rfl | rfl | rfl | rfl
      · exact p300_0 _ _ _
      · exact p300_1 _ _ _
      · exact p300_2 _ _ _
      · exact p300_3 _ _ _
    · rw [show B4 3 1 = 2 by kernel_rfl] at h4
      rcases c2 h4 with rfl | rfl
      · rw [show B5 3 1 0 = 5 by kernel_rfl] at h5
        rcases c5 h5 with rfl | rfl | rfl | rfl | rfl
        · exact p310_0 _ _ _
        · exact p310_1 _ _ _
        · exact p310_2 _ _ _
        · exact p310_3 _ _ _
        · exact p310_4 _ _ _
      · rw [show B5 3 1 1 = 3 by kernel_rfl] at h5
        rcases c3 h5 with rfl | rfl | rfl
        · exact p311_0 _ _ _
        · exact p311_1 _ _ _
        · exact p311_2 _ _ _
    · rw [show B4 3 2 = 3 by kernel_rfl] at h4
      rcases c3 h4 with rfl | rfl | rfl
      · rw [show B5 3 2 0 = 6 by kernel_rfl] at h5
        rcases c6 h5 with rfl | rfl | rfl | rfl | rfl | rfl
        · exact p320_0 _ _ _
        · exact p320_1 _ _ _
        · exact p320_2 _ _ _
        · exact p320_3 _ _ _
        · exact p320_4 _ _ _
        · exact p320_5 _ _ _
      · rw [show B5 3 2 1 = 4 by kernel_rfl] at h5
        rcases c4 h5 with rfl | rfl | rfl | rfl
        · exact p321_0 _ _ _
        · exact p321_1 _ _ _
        · exact p321_2 _ _ _
        · exact p321_3 _ _ _
      · rw [show B5 3 2 2 = 2 by kernel_rfl] at h5
        rcases c2 h5 with rfl | rfl
        · exact p322_0 _ _ _
        · exact p322_1 _ _ _
    · rw [show B4 3 3 = 4 by kernel_rfl] at h4
      rcases c4 h4 with rfl | rfl | rfl | rfl
      · rw [show B5 3 3 0 = 7 by kernel_rfl] at h5
        rcases c7 h5 with rfl | rfl | rfl | rfl | rfl | rfl | rfl
        · exact p330_0 _ _ _
        · exact p330_1 _ _ _
        · exact p330_2 _ _ _
        · exact p330_3 _ _ _
        · exact p330_4 _ _ _
        · exact p330_5 _ _ _
        · exact p330_6 _ _ _
      · rw [show B5 3 3 1 = 5 by kernel_rfl] at h5
        rcases c5 h5 with rfl | rfl | rfl | rfl | rfl
        · exact p331_0 _ _ _
        · exact p331_1 _ _ _
        · exact p331_2 _ _ _
        · exact p331_3 _ _ _
        · exact p331_4 _ _ _
      · rw [show B5 3 3 2 = 3 by kernel_rfl] at h5
        rcases c3 h5 with rfl | rfl | rfl
        · exact p332_0 _ _ _
        · exact p332_1 _ _ _
        · exact p332_2 _ _ _
      · rw [show B5 3 3 3 = 1 by kernel_rfl] at h5
        obtain rfl := c1 h5
        exact p333_0 _ _ _
    · rw [show B4 3 4 = 4 by kernel_rfl] at h4
      rcases c4 h4 with rfl | rfl | rfl | rfl
      · rw [show B5 3 4 0 = 8 by kernel_rfl] at h5
        rcases c8 h5 with rfl | rfl | rfl | rfl | rfl | rfl | rfl | rfl
        · exact p340_0 _ _ _
        · exact p340_1 _ _ _
        · exact p340_2 _ _ _
        · exact p340_3 _ _ _
        · exact p340_4 _ _ _
        · exact p340_5 _ _ _
        · exact p340_6 _ _ _
        · exact p340_7 _ _ _
      · rw [show B5 3 4 1 = 6 by kernel_rfl] at h5
        rcases c6 h5 with rfl | rfl | rfl | rfl | rfl | rfl
        · exact p341_0 _ _ _
        · exact p341_1 _ _ _
        · exact p341_2 _ _ _
        · exact p341_3 _ _ _
        · exact p341_4 _ _ _
        · exact p341_5 _ _ _
      · rw [show B5 3 4 2 = 4 by kernel_rfl] at h5
        rcases c4 h5 with rfl | rfl | rfl | rfl
        · exact p342_0 _ _ _
        · exact p342_1 _ _ _
        · exact p342_2 _ _ _
        · exact p342_3 _ _ _
      · rw [show B5 3 4 3 = 2 by kernel_rfl] at h5
        rcases c2 h5 with rfl | rfl
        · exact p343_0 _ _ _
        · exact p343_1 _ _ _
    · rw [show B4 3 5 = 4 by kernel_rfl] at h4
      rcases c4 h4 with rfl | rfl | rfl | rfl
      · rw [show B5 3 5 0 = 9 by kernel_rfl] at h5
        rcases c9 h5 with rfl | rfl | rfl | rfl | rfl | rfl | rfl | rfl | rfl
        · exact p350_0 _ _ _
        · exact p350_1 _ _ _
        · exact p350_2 _ _ _
        · exact p350_3 _ _ _
        · exact p350_4 _ _ _
        · exact p350_5 _ _ _
        · exact p350_6 _ _ _
        · exact p350_7 _ _ _
        · exact p350_8 _ _ _
      · rw [show B5 3 5 1 = 7 by kernel_rfl] at h5
        rcases c7 h5 with rfl | rfl | rfl | rfl | rfl | rfl | rfl
        · exact p351_0 _ _ _
        · exact p351_1 _ _ _
        · exact p351_2 _ _ _
        · exact p351_3 _ _ _
        · exact p351_4 _ _ _
        · exact p351_5 _ _ _
        · exact p351_6 _ _ _
      · rw [show B5 3 5 2 = 5 by kernel_rfl] at h5
        rcases c5 h5 with rfl | rfl | rfl | rfl | rfl
        · exact p352_0 _ _ _
        · exact p352_1 _ _ _
        · exact p352_2 _ _ _
        · exact p352_3 _ _ _
        · exact p352_4 _ _ _
      · rw [show B5 3 5 3 = 3 by kernel_rfl] at h5
        rcases c3 h5 with rfl | rfl | rfl
        · exact p353_0 _ _ _
        · exact p353_1 _ _ _
        · exact p353_2 _ _ _
    · rw [show B4 3 6 = 4 by kernel_rfl] at h4
      rcases c4 h4 with rfl | rfl | rfl | rfl
      · rw [show B5 3 6 0 = 10 by kernel_rfl] at h5
        rcases c10 h5 with rfl | rfl | rfl | rfl | rfl | rfl | rfl | rfl | rfl | rfl
        · exact p360_0 _ _ _
        · exact p360_1 _ _ _
        · exact p360_2 _ _ _
        · exact p360_3 _ _ _
        · exact p360_4 _ _ _
        · exact p360_5 _ _ _
        · exact p360_6 _ _ _
        · exact p360_7 _ _ _
        · exact p360_8 _ _ _
        · exact p360_9 _ _ _
      · rw [show B5 3 6 1 = 8 by kernel_rfl] at h5
        rcases c8 h5 with rfl | rfl | rfl | rfl | rfl | rfl | rfl | rfl
        · exact p361_0 _ _ _
        · exact p361_1 _ _ _
        · exact p361_2 _ _ _
        · exact p361_3 _ _ _
        · exact p361_4 _ _ _
        · exact p361_5 _ _ _
        · exact p361_6 _ _ _
        · exact p361_7 _ _ _
      · rw [show B5 3 6 2 = 6 by kernel_rfl] at h5
        rcases c6 h5 with rfl | rfl | rfl | rfl | rfl | rfl
        · exact p362_0 _ _ _
        · exact p362_1 _ _ _
        · exact p362_2 _ _ _
        · exact p362_3 _ _ _
        · exact p362_4 _ _ _
        · exact p362_5 _ _ _
      · rw [show B5 3 6 3 = 4 by kernel_rfl] at h5
        rcases c4 h5 with rfl | rfl | rfl | rfl
        · exact p363_0 _ _ _
        · exact p363_1 _ _ _
        · exact p363_2 _ _ _
        · exact p363_3 _ _ _
  · rcases c7 h3 with rfl | rfl | rfl | rfl | rfl | rfl | rfl
    · rw [show B4 4 0 = 1 by kernel_rfl] at h4
      obtain rfl := c1 h4
      rw [show B5 4 0 0 = 5 by kernel_rfl] at h5
      rcases c5 h5 with rfl | rfl | rfl | rfl | rfl
      · exact p400_0 _ _ _
      · exact p400_1 _ _ _
      · exact p400_2 _ _ _
      · exact p400_3 _ _ _
      · exact p400_4 _ _ _
    · rw [show B4 4 1 = 2 by kernel_rfl] at h4
      rcases c2 h4 with rfl | rfl
      · rw [show B5 4 1 0 = 6 by kernel_rfl] at h5
        rcases c6 h5 with rfl | rfl | rfl | rfl | rfl | rfl
        · exact p410_0 _ _ _
        · exact p410_1 _ _ _
        · exact p410_2 _ _ _
        · exact p410_3 _ _ _
        · exact p410_4 _ _ _
        · exact p410_5 _ _ _
      · rw [show B5 4 1 1 = 4 by kernel_rfl] at h5
        rcases c4 h5 with rfl | rfl | rfl | rfl
        · exact p411_0 _ _ _
        · exact p411_1 _ _ _
        · exact p411_2 _ _ _
        · exact p411_3 _ _ _
    · rw [show B4 4 2 = 3 by kernel_rfl] at h4
      rcases c3 h4 with rfl | rfl | rfl
      · rw [show B5 4 2 0 = 7 by kernel_rfl] at h5
        rcases c7 h5 with rfl | rfl | rfl | rfl | rfl | rfl | rfl
        · exact p420_0 _ _ _
        · exact p420_1 _ _ _
        · exact p420_2 _ _ _
        · exact p420_3 _ _ _
        · exact p420_4 _ _ _
        · exact p420_5 _ _ _
        · exact p420_6 _ _ _
      · rw [show B5 4 2 1 = 5 by kernel_rfl] at h5
        rcases c5 h5 with rfl | rfl | rfl | rfl | rfl
        · exact p421_0 _ _ _
        · exact p421_1 _ _ _
        · exact p421_2 _ _ _
        · exact p421_3 _ _ _
        · exact p421_4 _ _ _
      · rw [show B5 4 2 2 = 3 by kernel_rfl] at h5
        rcases c3 h5 with rfl | rfl | rfl
        · exact p422_0 _ _ _
        · exact p422_1 _ _ _
        · exact p422_2 _ _ _
    · rw [show B4 4 3 = 4 by kernel_rfl] at h4
      rcases c4 h4 with rfl | rfl | rfl | rfl
      · rw [show B5 4 3 0 = 8 by kernel_rfl] at h5
        rcases c8 h5 with rfl | rfl | rfl | rfl | rfl | rfl | rfl | rfl
        · exact p430_0 _ _ _
        · exact p430_1 _ _ _
        · exact p430_2 _ _ _
        · exact p430_3 _ _ _
        · exact p430_4 _ _ _
        · exact p430_5 _ _ _
        · exact p430_6 _ _ _
        · exact p430_7 _ _ _
      · rw [show B5 4 3 1 = 6 by kernel_rfl] at h5
        rcases c6 h5 with rfl | rfl | rfl | rfl | rfl | rfl
        · exact p431_0 _ _ _
        · exact p431_1 _ _ _
        · exact p431_2 _ _ _
        · exact p431_3 _ _ _
        · exact p431_4 _ _ _
        · exact p431_5 _ _ _
      · rw [show B5 4 3 2 = 4 by kernel_rfl] at h5
        rcases c4 h5 with rfl | rfl | rfl | rfl
        · exact p432_0 _ _ _
        · exact p432_1 _ _ _
        · exact p432_2 _ _ _
        · exact p432_3 _ _ _
      · rw [show B5 4 3 3 = 2 by kernel_rfl] at h5
        rcases c2 h5 with rfl | rfl
        · exact p433_0 _ _ _
        · exact p433_1 _ _ _
    · rw [show B4 4 4 = 5 by kernel_rfl] at h4
      rcases c5 h4 with rfl | rfl | rfl | rfl | rfl
      · rw [show B5 4 4 0 = 9 by kernel_rfl] at h5
        rcases c9 h5 with rfl | rfl | rfl | rfl | rfl | rfl | rfl | rfl | rfl
        · exact p440_0 _ _ _
        · exact p440_1 _ _ _
        · exact p440_2 _ _ _
        · exact p440_3 _ _ _
        · exact p440_4 _ _ _
        · exact p440_5 _ _ _
        · exact p440_6 _ _ _
        · exact p440_7 _ _ _
        · exact p440_8 _ _ _
      · rw [show B5 4 4 1 = 7 by kernel_rfl] at h5
        rcases c7 h5 with rfl | rfl | rfl | rfl | rfl | rfl | rfl
        · exact p441_0 _ _ _
        · exact p441_1 _ _ _
        · exact p441_2 _ _ _
        · exact p441_3 _ _ _
        · exact p441_4 _ _ _
        · exact p441_5 _ _ _
        · exact p441_6 _ _ _
      · rw [show B5 4 4 2 = 5 by kernel_rfl] at h5
        rcases c5 h5 with rfl | rfl | rfl | rfl | rfl
        · exact p442_0 _ _ _
        · exact p442_1 _ _ _
        · exact p442_2 _ _ _
        · exact p442_3 _ _ _
        · exact p442_4 _ _ _
      · rw [show B5 4 4 3 = 3 by kernel_rfl] at h5
        rcases c3 h5 with rfl | rfl | rfl
        · exact p443_0 _ _ _
        · exact p443_1 _ _ _
        · exact p443_2 _ _ _
      · rw [show B5 4 4 4 = 1 by kernel_rfl] at h5
        obtain rfl := c1 h5
        exact p444_0 _ _ _
    · rw [show B4 4 5 = 5 by kernel_rfl] at h4
      rcases c5 h4 with rfl | rfl | rfl | rfl | rfl
      · rw [show B5 4 5 0 = 10 by kernel_rfl] at h5
        rcases c10 h5 with rfl | rfl | rfl | rfl | rfl | rfl | rfl | rfl | rfl | rfl
        · exact p450_0 _ _ _
        · exact p450_1 _ _ _
        · exact p450_2 _ _ _
        · exact p450_3 _ _ _
        · exact p450_4 _ _ _
        · exact p450_5 _ _ _
        · exact p450_6 _ _ _
        · exact p450_7 _ _ _
        · exact p450_8 _ _ _
        · exact p450_9 _ _ _
      · rw [show B5 4 5 1 = 8 by kernel_rfl] at h5
        rcases c8 h5 with rfl | rfl | rfl | rfl | rfl | rfl | rfl | rfl
        · exact p451_0 _ _ _
        · exact p451_1 _ _ _
        · exact p451_2 _ _ _
        · exact p451_3 _ _ _
        · exact p451_4 _ _ _
        · exact p451_5 _ _ _
        · exact p451_6 _ _ _
        · exact p451_7 _ _ _
      · rw [show B5 4 5 2 = 6 by kernel_rfl] at h5
        rcases c6 h5 with rfl | rfl | rfl | rfl | rfl | rfl
        · exact p452_0 _ _ _
        · exact p452_1 _ _ _
        · exact p452_2 _ _ _
        · exact p452_3 _ _ _
        · exact p452_4 _ _ _
        · exact p452_5 _ _ _
      · rw [show B5 4 5 3 = 4 by kernel_rfl] at h5
        rcases c4 h5 with rfl | rfl | rfl | rfl
        · exact p453_0 _ _ _
        · exact p453_1 _ _ _
        · exact p453_2 _ _ _
        · exact p453_3 _ _ _
      · rw [show B5 4 5 4 = 2 by kernel_rfl] at h5
        rcases c2 h5 with rfl | rfl
        · exact p454_0 _ _ _
        · exact p454_1 _ _ _
    · rw [show B4 4 6 = 5 by kernel_rfl] at h4
      rcases c5 h4 with rfl | rfl | rfl | rfl | rfl
      · rw [show B5 4 6 0 = 11 by kernel_rfl] at h5
        rcases c11 h5 with rfl | rfl | rfl | rfl | rfl | rfl | rfl | rfl | rfl | rfl | rfl
        · exact p460_0 _ _ _
        · exact p460_1 _ _ _
        · exact p460_2 _ _ _
        · exact p460_3 _ _ _
        · exact p460_4 _ _ _
        · exact p460_5 _ _ _
        · exact p460_6 _ _ _
        · exact p460_7 _ _ _
        · exact p460_8 _ _ _
        · exact p460_9 _ _ _
        · exact p460_10 _ _ _
      · rw [show B5 4 6 1 = 9 by kernel_rfl] at h5
        rcases c9 h5 with rfl | rfl | rfl | rfl | rfl | rfl | rfl | rfl | rfl
        · exact p461_0 _ _ _
        · exact p461_1 _ _ _
        · exact p461_2 _ _ _
        · exact p461_3 _ _ _
        · exact p461_4 _ _ _
        · exact p461_5 _ _ _
        · exact p461_6 _ _ _
        · exact p461_7 _ _ _
        · exact p461_8 _ _ _
      · rw [show B5 4 6 2 = 7 by kernel_rfl] at h5
        rcases c7 h5 with rfl | rfl | rfl | rfl | rfl | rfl | rfl
        · exact p462_0 _ _ _
        · exact p462_1 _ _ _
        · exact p462_2 _ _ _
        · exact p462_3 _ _ _
        · exact p462_4 _ _ _
        · exact p462_5 _ _ _
        · exact p462_6 _ _ _
      · rw [show B5 4 6 3 = 5 by kernel_rfl] at h5
        rcases c5 h5 with rfl | rfl | rfl | rfl | rfl
        · exact p463_0 _ _ _
        · exact p463_1 _ _ _
        · exact p463_2 _ _ _
        · exact p463_3 _ _ _
        · exact p463_4 _ _ _
      · rw [show B5 4 6 4 = 3 by kernel_rfl] at h5
        rcases c3 h5 with rfl | rfl | rfl
        · exact p464_0 _ _ _
        · exact p464_1 _ _ _
        · exact p464_2 _ _ _
  · rcases c7 h3 with rfl | rfl | rfl | rfl | rfl | rfl | rfl
    · rw [show B4 5 0 = 1 by kernel_rfl] at h4
      obtain rfl := c1 h4
      rw [show B5 5 0 0 = 6 by kernel_rfl] at h5
      rcases c6 h5 with rfl | rfl | rfl | rfl | rfl | rfl
      · exact p500_0 _ _ _
      · exact p500_1 _ _ _
      · exact p500_2 _ _ _
      · exact p500_3 _ _ _
      · exact p500_4 _ _ _
      · exact p500_5 _ _ _
    · rw [show B4 5 1 = 2 by kernel_rfl] at h4
      rcases c2 h4 with rfl | rfl
      · rw [show B5 5 1 0 = 7 by kernel_rfl] at h5
        rcases c7 h5 with rfl | rfl | rfl | rfl | rfl | rfl | rfl
        · exact p510_0 _ _ _
        · exact p510_1 _ _ _
        · exact p510_2 _ _ _
        · exact p510_3 _ _ _
        · exact p510_4 _ _ _
        · exact p510_5 _ _ _
        · exact p510_6 _ _ _
      · rw [show B5 5 1 1 = 5 by kernel_rfl] at h5
        rcases c5 h5 with rfl | rfl | rfl | rfl | rfl
        · exact p511_0 _ _ _
        · exact p511_1 _ _ _
        · exact p511_2 _ _ _
        · exact p511_3 _ _ _
        · exact p511_4 _ _ _
    · rw [show B4 5 2 = 3 by kernel_rfl] at h4
      rcases c3 h4 with rfl | rfl | rfl
      · rw [show B5 5 2 0 = 8 by kernel_rfl] at h5
        rcases c8 h5 with rfl | rfl | rfl | rfl | rfl | rfl | rfl | rfl
        · exact p520_0 _ _ _
        · exact p520_1 _ _ _
        · exact p520_2 _ _ _
        · exact p520_3 _ _ _
        · exact p520_4 _ _ _
        · exact p520_5 _ _ _
        · exact p520_6 _ _ _
        · exact p520_7 _ _ _
      · rw [show B5 5 2 1 = 6 by kernel_rfl] at h5
        rcases c6 h5 with rfl | rfl | rfl | rfl | rfl | rfl
        · exact p521_0 _ _ _
        · exact p521_1 _ _ _
        · exact p521_2 _ _ _
        · exact p521_3 _ _ _
        · exact p521_4 _ _ _
        · exact p521_5 _ _ _
      · rw [show B5 5 2 2 = 4 by kernel_rfl] at h5
        rcases c4 h5 with rfl | rfl | rfl | rfl
        · exact p522_0 _ _ _
        · exact p522_1 _ _ _
        · exact p522_2 _ _ _
        · exact p522_3 _ _ _
    · rw [show B4 5 3 = 4 by kernel_rfl] at h4
      rcases c4 h4 with rfl | rfl | rfl | rfl
      · rw [show B5 5 3 0 = 9 by kernel_rfl] at h5
        rcases c9 h5 with rfl | rfl | rfl | rfl | rfl | rfl | rfl | rfl | rfl
        · exact p530_0 _ _ _
        · exact p530_1 _ _ _
        · exact p530_2 _ _ _
        · exact p530_3 _ _ _
        · exact p530_4 _ _ _
        · exact p530_5 _ _ _
        · exact p530_6 _ _ _
        · exact p530_7 _ _ _
        · exact p530_8 _ _ _
      · rw [show B5 5 3 1 = 7 by kernel_rfl] at h5
        rcases c7 h5 with rfl | rfl | rfl | rfl | rfl | rfl | rfl
        · exact p531_0 _ _ _
        · exact p531_1 _ _ _
        · exact p531_2 _ _ _
        · exact p531_3 _ _ _
        · exact p531_4 _ _ _
        · exact p531_5 _ _ _
        · exact p531_6 _ _ _
      · rw [show B5 5 3 2 = 5 by kernel_rfl] at h5
        rcases c5 h5 with rfl | rfl | rfl | rfl | rfl
        · exact p532_0 _ _ _
        · exact p532_1 _ _ _
        · exact p532_2 _ _ _
        · exact p532_3 _ _ _
        · exact p532_4 _ _ _
      · rw [show B5 5 3 3 = 3 by kernel_rfl] at h5
        rcases c3 h5 with rfl | rfl | rfl
        · exact p533_0 _ _ _
        · exact p533_1 _ _ _
        · exact p533_2 _ _ _
    · rw [show B4 5 4 = 5 by kernel_rfl] at h4
      rcases c5 h4 with rfl | rfl | rfl | rfl | rfl
      · rw [show B5 5 4 0 = 10 by kernel_rfl] at h5
        rcases c10 h5 with rfl | rfl | rfl | rfl | rfl | rfl | rfl | rfl | rfl | rfl
        · exact p540_0 _ _ _
        · exact p540_1 _ _ _
        · exact p540_2 _ _ _
        · exact p540_3 _ _ _
        · exact p540_4 _ _ _
        · exact p540_5 _ _ _
        · exact p540_6 _ _ _
        · exact p540_7 _ _ _
        · exact p540_8 _ _ _
        · exact p540_9 _ _ _
      · rw [show B5 5 4 1 = 8 by kernel_rfl] at h5
        rcases c8 h5 with rfl | rfl | rfl | rfl | rfl | rfl | rfl | rfl
        · exact p541_0 _ _ _
        · exact p541_1 _ _ _
        · exact p541_2 _ _ _
        · exact p541_3 _ _ _
        · exact p541_4 _ _ _
        · exact p541_5 _ _ _
        · exact p541_6 _ _ _
        · exact p541_7 _ _ _
      · rw [show B5 5 4 2 = 6 by kernel_rfl] at h5
        rcases c6 h5 with rfl | rfl | rfl | rfl | rfl | rfl
        · exact p542_0 _ _ _
        · exact p542_1 _ _ _
        · exact p542_2 _ _ _
        · exact p542_3 _ _ _
        · exact p542_4 _ _ _
        · exact p542_5 _ _ _
      · rw [show B5 5 4 3 = 4 by kernel_rfl] at h5
        rcases c4 h5 with rfl | rfl | rfl | rfl
        · exact p543_0 _ _ _
        · exact p543_1 _ _ _
        · exact p543_2 _ _ _
        · exact p543_3 _ _ _
      · rw [show B5 5 4 4 = 2 by kernel_rfl] at h5
        rcases c2 h5 with rfl | rfl
        · exact p544_0 _ _ _
        · exact p544_1 _ _ _
    · rw [show B4 5 5 = 6 by kernel_rfl] at h4
      rcases c6 h4 with rfl | rfl | rfl | rfl | rfl | rfl
      · rw [show B5 5 5 0 = 11 by kernel_rfl] at h5
        rcases c11 h5 with rfl | rfl | rfl | rfl | rfl | rfl | rfl | rfl | rfl | rfl | rfl
        · exact p550_0 _ _ _
        · exact p550_1 _ _ _
        · exact p550_2 _ _ _
        · exact p550_3 _ _ _
        · exact p550_4 _ _ _
        · exact p550_5 _ _ _
        · exact p550_6 _ _ _
        · exact p550_7 _ _ _
        · exact p550_8 _ _ _
        · exact p550_9 _ _ _
        · exact p550_10 _ _ _
      · rw [show B5 5 5 1 = 9 by kernel_rfl] at h5
        rcases c9 h5 with rfl | rfl | rfl | rfl | rfl | rfl | rfl | rfl | rfl
        · exact p551_0 _ _ _
        · exact p551_1 _ _ _
        · exact p551_2 _ _ _
        · exact p551_3 _ _ _
        · exact p551_4 _ _ _
        · exact p551_5 _ _ _
        · exact p551_6 _ _ _
        · exact p551_7 _ _ _
        · exact p551_8 _ _ _
      · rw [show B5 5 5 2 = 7 by kernel_rfl] at h5
        rcases c7 h5 with rfl | rfl | rfl | rfl | rfl | rfl | rfl
        · exact p552_0 _ _ _
        · exact p552_1 _ _ _
        · exact p552_2 _ _ _
        · exact p552_3 _ _ _
        · exact p552_4 _ _ _
        · exact p552_5 _ _ _
        · exact p552_6 _ _ _
      · rw [show B5 5 5 3 = 5 by kernel_rfl] at h5
        rcases c5 h5 with rfl | rfl | rfl | rfl | rfl
        · exact p553_0 _ _ _
        · exact p553_1 _ _ _
        · exact p553_2 _ _ _
        · exact p553_3 _ _ _
        · exact p553_4 _ _ _
      · rw [show B5 5 5 4 = 3 by kernel_rfl] at h5
        rcases c3 h5 with rfl | rfl | rfl
        · exact p554_0 _ _ _
        · exact p554_1 _ _ _
        · exact p554_2 _ _ _
      · rw [show B5 5 5 5 = 1 by kernel_rfl] at h5
        obtain rfl := c1 h5
        exact p555_0 _ _ _
    · rw [show B4 5 6 = 6 by kernel_rfl] at h4
      rcases c6 h4 with rfl | rfl | rfl | rfl | rfl | rfl
      · rw [show B5 5 6 0 = 12 by kernel_rfl] at h5
        rcases c12 h5 with rfl | rfl | rfl | rfl | rfl | rfl | rfl | rfl | rfl | rfl | rfl | rfl
        · exact p560_0 _ _ _
        · exact p560_1 _ _ _
        · exact p560_2 _ _ _
        · exact p560_3 _ _ _
        · exact p560_4 _ _ _
        · exact p560_5 _ _ _
        · exact p560_6 _ _ _
        · exact p560_7 _ _ _
        · exact p560_8 _ _ _
        · exact p560_9 _ _ _
        · exact p560_10 _ _ _
        · exact p560_11 _ _ _
      · rw [show B5 5 6 1 = 10 by kernel_rfl] at h5
        rcases c10 h5 with rfl | rfl | rfl | rfl | rfl | rfl | rfl | rfl | rfl | rfl
        · exact p561_0 _ _ _
        · exact p561_1 _ _ _
        · exact p561_2 _ _ _
        · exact p561_3 _ _ _
        · exact p561_4 _ _ _
        · exact p561_5 _ _ _
        · exact p561_6 _ _ _
        · exact p561_7 _ _ _
        · exact p561_8 _ _ _
        · exact p561_9 _ _ _
      · rw [show B5 5 6 2 = 8 by kernel_rfl] at h5
        rcases c8 h5 with rfl | rfl | rfl | rfl | rfl | rfl | rfl | rfl
        · exact p562_0 _ _ _
        · exact p562_1 _ _ _
        · exact p562_2 _ _ _
        · exact p562_3 _ _ _
        · exact p562_4 _ _ _
        · exact p562_5 _ _ _
        · exact p562_6 _ _ _
        · exact p562_7 _ _ _
      · rw [show B5 5 6 3 = 6 by kernel_rfl] at h5
        rcases c6 h5 with rfl | rfl | rfl | rfl | rfl | rfl
        · exact p563_0 _ _ _
        · exact p563_1 _ _ _
        · exact p563_2 _ _ _
        · exact p563_3 _ _ _
        · exact p563_4 _ _ _
        · exact p563_5 _ _ _
      · rw [show B5 5 6 4 = 4 by kernel_rfl] at h5
        rcases c4 h5 with rfl | rfl | rfl | rfl
        · exact p564_0 _ _ _
        · exact p564_1 _ _ _
        · exact p564_2 _ _ _
        · exact p564_3 _ _ _
      · rw [show B5 5 6 5 = 2 by kernel_rfl] at h5
        rcases c2 h5 with rfl | rfl
        · exact p565_0 _ _ _
        · exact p565_1 _ _ _
  · rcases c7 h3 with rfl | rfl | rfl | rfl | rfl | rfl | rfl
    · rw [show B4 6 0 = 1 by kernel_rfl] at h4
      obtain rfl := c1 h4
      rw [show B5 6 0 0 = 7 by kernel_rfl] at h5
      rcases c7 h5 with rfl | rfl | rfl | rfl | rfl | rfl | rfl
      · exact p600_0 _ _ _
      · exact p600_1 _ _ _
      · exact p600_2 _ _ _
      · exact p600_3 _ _ _
      · exact p600_4 _ _ _
      · exact p600_5 _ _ _
      · exact p600_6 _ _ _
    · rw [show B4 6 1 = 2 by kernel_rfl] at h4
      rcases c2 h4 with rfl | rfl
      · rw [show B5 6 1 0 = 8 by kernel_rfl] at h5
        rcases c8 h5 with rfl | rfl | rfl | rfl | rfl | rfl | rfl | rfl
        · exact p610_0 _ _ _
        · exact p610_1 _ _ _
        · exact p610_2 _ _ _
        · exact p610_3 _ _ _
        · exact p610_4 _ _ _
        · exact p610_5 _ _ _
        · exact p610_6 _ _ _
        · exact p610_7 _ _ _
      · rw [show B5 6 1 1 = 6 by kernel_rfl] at h5
        rcases c6 h5 with rfl | rfl | rfl | rfl | rfl | rfl
        · exact p611_0 _ _ _
        · exact p611_1 _ _ _
        · exact p611_2 _ _ _
        · exact p611_3 _ _ _
        · exact p611_4 _ _ _
        · exact p611_5 _ _ _
    · rw [show B4 6 2 = 3 by kernel_rfl] at h4
      rcases c3 h4 with rfl | rfl | rfl
      · rw [show B5 6 2 0 = 9 by kernel_rfl] at h5
        rcases c9 h5 with rfl | rfl | rfl | rfl | rfl | rfl | rfl | rfl | rfl
        · exact p620_0 _ _ _
        · exact p620_1 _ _ _
        · exact p620_2 _ _ _
        · exact p620_3 _ _ _
        · exact p620_4 _ _ _
        · exact p620_5 _ _ _
        · exact p620_6 _ _ _
        · exact p620_7 _ _ _
        · exact p620_8 _ _ _
      · rw [show B5 6 2 1 = 7 by kernel_rfl] at h5
        rcases c7 h5 with rfl | rfl | rfl | rfl | rfl | rfl | rfl
        · exact p621_0 _ _ _
        · exact p621_1 _ _ _
        · exact p621_2 _ _ _
        · exact p621_3 _ _ _
        · exact p621_4 _ _ _
        · exact p621_5 _ _ _
        · exact p621_6 _ _ _
      · rw [show B5 6 2 2 = 5 by kernel_rfl] at h5
        rcases c5 h5 with rfl | rfl | rfl | rfl | rfl
        · exact p622_0 _ _ _
        · exact p622_1 _ _ _
        · exact p622_2 _ _ _
        · exact p622_3 _ _ _
        · exact p622_4 _ _ _
    · rw [show B4 6 3 = 4 by kernel_rfl] at h4
      rcases c4 h4 with rfl | rfl | rfl | rfl
      · rw [show B5 6 3 0 = 10 by kernel_rfl] at h5
        rcases c10 h5 with rfl | rfl | rfl | rfl | rfl | rfl | rfl | rfl | rfl | rfl
        · exact p630_0 _ _ _
        · exact p630_1 _ _ _
        · exact p630_2 _ _ _
        · exact p630_3 _ _ _
        · exact p630_4 _ _ _
        · exact p630_5 _ _ _
        · exact p630_6 _ _ _
        · exact p630_7 _ _ _
        · exact p630_8 _ _ _
        · exact p630_9 _ _ _
      · rw [show B5 6 3 1 = 8 by kernel_rfl] at h5
        rcases c8 h5 with rfl | rfl | rfl | rfl | rfl | rfl | rfl | rfl
        · exact p631_0 _ _ _
        · exact p631_1 _ _ _
        · exact p631_2 _ _ _
        · exact p631_3 _ _ _
        · exact p631_4 _ _ _
        · exact p631_5 _ _ _
        · exact p631_6 _ _ _
        · exact p631_7 _ _ _
      · rw [show B5 6 3 2 = 6 by kernel_rfl] at h5
        rcases c6 h5 with rfl | rfl | rfl | rfl | rfl | rfl
        · exact p632_0 _ _ _
        · exact p632_1 _ _ _
        · exact p632_2 _ _ _
        · exact p632_3 _ _ _
        · exact p632_4 _ _ _
        · exact p632_5 _ _ _
      · rw [show B5 6 3 3 = 4 by kernel_rfl] at h5
        rcases c4 h5 with rfl | rfl | rfl | rfl
        · exact p633_0 _ _ _
        · exact p633_1 _ _ _
        · exact p633_2 _ _ _
        · exact p633_3 _ _ _
    · rw [show B4 6 4 = 5 by kernel_rfl] at h4
      rcases c5 h4 with rfl | rfl | rfl | rfl | rfl
      · rw [show B5 6 4 0 = 11 by kernel_rfl] at h5
        rcases c11 h5 with rfl | rfl | rfl | rfl | rfl | rfl | rfl | rfl | rfl | rfl | rfl
        · exact p640_0 _ _ _
        · exact p640_1 _ _ _
        · exact p640_2 _ _ _
        · exact p640_3 _ _ _
        · exact p640_4 _ _ _
        · exact p640_5 _ _ _
        · exact p640_6 _ _ _
        · exact p640_7 _ _ _
        · exact p640_8 _ _ _
        · exact p640_9 _ _ _
        · exact p640_10 _ _ _
      · rw [show B5 6 4 1 = 9 by kernel_rfl] at h5
        rcases c9 h5 with rfl | rfl | rfl | rfl | rfl | rfl | rfl | rfl | rfl
        · exact p641_0 _ _ _
        · exact p641_1 _ _ _
        · exact p641_2 _ _ _
        · exact p641_3 _ _ _
        · exact p641_4 _ _ _
        · exact p641_5 _ _ _
        · exact p641_6 _ _ _
        · exact p641_7 _ _ _
        · exact p641_8 _ _ _
      · rw [show B5 6 4 2 = 7 by kernel_rfl] at h5
        rcases c7 h5 with rfl | rfl | rfl | rfl | rfl | rfl | rfl
        · exact p642_0 _ _ _
        · exact p642_1 _ _ _
        · exact p642_2 _ _ _
        · exact p642_3 _ _ _
        · exact p642_4 _ _ _
        · exact p642_5 _ _ _
        · exact p642_6 _ _ _
      · rw [show B5 6 4 3 = 5 by kernel_rfl] at h5
        rcases c5 h5 with rfl | rfl | rfl | rfl | rfl
        · exact p643_0 _ _ _
        · exact p643_1 _ _ _
        · exact p643_2 _ _ _
        · exact p643_3 _ _ _
        · exact p643_4 _ _ _
      · rw [show B5 6 4 4 = 3 by kernel_rfl] at h5
        rcases c3 h5 with rfl | rfl | rfl
        · exact p644_0 _ _ _
        · exact p644_1 _ _ _
        · exact p644_2 _ _ _
    · rw [show B4 6 5 = 6 by kernel_rfl] at h4
      rcases c6 h4 with rfl | rfl | rfl | rfl | rfl | rfl
      · rw [show B5 6 5 0 = 12 by kernel_rfl] at h5
        rcases c12 h5 with rfl | rfl | rfl | rfl | rfl | rfl | rfl | rfl | rfl | rfl | rfl | rfl
        · exact p650_0 _ _ _
        · exact p650_1 _ _ _
        · exact p650_2 _ _ _
        · exact p650_3 _ _ _
        · exact p650_4 _ _ _
        · exact p650_5 _ _ _
        · exact p650_6 _ _ _
        · exact p650_7 _ _ _
        · exact p650_8 _ _ _
        · exact p650_9 _ _ _
        · exact p650_10 _ _ _
        · exact p650_11 _ _ _
      · rw [show B5 6 5 1 = 10 by kernel_rfl] at h5
        rcases c10 h5 with rfl | rfl | rfl | rfl | rfl | rfl | rfl | rfl | rfl | rfl
        · exact p651_0 _ _ _
        · exact p651_1 _ _ _
        · exact p651_2 _ _ _
        · exact p651_3 _ _ _
        · exact p651_4 _ _ _
        · exact p651_5 _ _ _
        · exact p651_6 _ _ _
        · exact p651_7 _ _ _
        · exact p651_8 _ _ _
        · exact p651_9 _ _ _
      · rw [show B5 6 5 2 = 8 by kernel_rfl] at h5
        rcases c8 h5 with rfl | rfl | rfl | rfl | rfl | rfl | rfl | rfl
        · exact p652_0 _ _ _
        · exact p652_1 _ _ _
        · exact p652_2 _ _ _
        · exact p652_3 _ _ _
        · exact p652_4 _ _ _
        · exact p652_5 _ _ _
        · exact p652_6 _ _ _
        · exact p652_7 _ _ _
      · rw [show B5 6 5 3 = 6 by kernel_rfl] at h5
        rcases c6 h5 with rfl | rfl | rfl | rfl | rfl | rfl
        · exact p653_0 _ _ _
        · exact p653_1 _ _ _
        · exact p653_2 _ _ _
        · exact p653_3 _ _ _
        · exact p653_4 _ _ _
        · exact p653_5 _ _ _
      · rw [show B5 6 5 4 = 4 by kernel_rfl] at h5
        rcases c4 h5 with rfl | rfl | rfl | rfl
        · exact p654_0 _ _ _
        · exact p654_1 _ _ _
        · exact p654_2 _ _ _
        · exact p654_3 _ _ _
      · rw [show B5 6 5 5 = 2 by kernel_rfl] at h5
        rcases c2 h5 with rfl | rfl
        · exact p655_0 _ _ _
        · exact p655_1 _ _ _
    · rw [show B4 6 6 = 7 by kernel_rfl] at h4
      rcases c7 h4 with rfl | rfl | rfl | rfl | rfl | rfl | rfl
      · rw [show B5 6 6 0 = 13 by kernel_rfl] at h5
        rcases c13 h5 with rfl | rfl | rfl | rfl | rfl | rfl | rfl | rfl | rfl | rfl | rfl | rfl | rfl
        · exact p660_0 _ _ _
        · exact p660_1 _ _ _
        · exact p660_2 _ _ _
        · exact p660_3 _ _ _
        · exact p660_4 _ _ _
        · exact p660_5 _ _ _
        · exact p660_6 _ _ _
        · exact p660_7 _ _ _
        · exact p660_8 _ _ _
        · exact p660_9 _ _ _
        · exact p660_10 _ _ _
        · exact p660_11 _ _ _
        · exact p660_12 _ _ _
      · rw [show B5 6 6 1 = 11 by kernel_rfl] at h5
        rcases c11 h5 with rfl | rfl | rfl | rfl | rfl | rfl | rfl | rfl | rfl | rfl | rfl
        · exact p661_0 _ _ _
        · exact p661_1 _ _ _
        · exact p661_2 _ _ _
        · exact p661_3 _ _ _
        · exact p661_4 _ _ _
        · exact p661_5 _ _ _
        · exact p661_6 _ _ _
        · exact p661_7 _ _ _
        · exact p661_8 _ _ _
        · exact p661_9 _ _ _
        · exact p661_10 _ _ _
      · rw [show B5 6 6 2 = 9 by kernel_rfl] at h5
        rcases c9 h5 with rfl | rfl | rfl | rfl | rfl | rfl | rfl | rfl | rfl
        · exact p662_0 _ _ _
        · exact p662_1 _ _ _
        · exact p662_2 _ _ _
        · exact p662_3 _ _ _
        · exact p662_4 _ _ _
        · exact p662_5 _ _ _
        · exact p662_6 _ _ _
        · exact p662_7 _ _ _
        · exact p662_8 _ _ _
      · rw [show B5 6 6 3 = 7 by kernel_rfl] at h5
        rcases c7 h5 with rfl | rfl | rfl | rfl | rfl | rfl | rfl
        · exact p663_0 _ _ _
        · exact p663_1 _ _ _
        · exact p663_2 _ _ _
        · exact p663_3 _ _ _
        · exact p663_4 _ _ _
        · exact p663_5 _ _ _
        · exact p663_6 _ _ _
      · rw [show B5 6 6 4 = 5 by kernel_rfl] at h5
        rcases c5 h5 with rfl | rfl | rfl | rfl | rfl
        · exact p664_0 _ _ _
        · exact p664_1 _ _ _
        · exact p664_2 _ _ _
        · exact p664_3 _ _ _
        · exact p664_4 _ _ _
      · rw [show B5 6 6 5 = 3 by kernel_rfl] at h5
        rcases c3 h5 with rfl | rfl | rfl
        · exact p665_0 _ _ _
        · exact p665_1 _ _ _
        · exact p665_2 _ _ _
      · rw [show B5 6 6 6 = 1 by kernel_rfl] at h5
        obtain rfl := c1 h5
        exact p666_0 _ _ _
theorem join2 {t5 t6 w1 w2 : Int} (hh : H) (h2 : 0 ≤ t5 ∧ t5 < 7) (h3 : 0 ≤ t6 ∧ t6 < 7) (h4 : 0 ≤ w1 ∧ w1 < (IntKind.i64.wrap (t5 + 1))) (h5 : 0 ≤ w2 ∧ w2 < (IntKind.i64.wrap (t6 + 1))) : jB2 t5 t6 w1 w2 hh = some (.bool true, hh) := by
  rcases c7 h2 with rfl | rfl | rfl | rfl | rfl | rfl | rfl
  · rcases c7 h3 with rfl | rfl | rfl | rfl | rfl | rfl | rfl
    · rw [show (IntKind.i64.wrap ((0 : Int) + 1)) = 1 by kernel_rfl] at h4
      obtain rfl := c1 h4
      rw [show (IntKind.i64.wrap ((0 : Int) + 1)) = 1 by kernel_rfl] at h5
      obtain rfl := c1 h5
      exact q0000 _
    · rw [show (IntKind.i64.wrap ((0 : Int) + 1)) = 1 by kernel_rfl] at h4
      obtain rfl := c1 h4
      rw [show (IntKind.i64.wrap ((1 : Int) + 1)) = 2 by kernel_rfl] at h5
      rcases c2 h5 with rfl | rfl
      · exact q0100 _
      · exact q0101 _
    · rw [show (IntKind.i64.wrap ((0 : Int) + 1)) = 1 by kernel_rfl] at h4
      obtain rfl := c1 h4
      rw [show (IntKind.i64.wrap ((2 : Int) + 1)) = 3 by kernel_rfl] at h5
      rcases c3 h5 with rfl | rfl | rfl
      · exact q0200 _
      · exact q0201 _
      · exact q0202 _
    · rw [show (IntKind.i64.wrap ((0 : Int) + 1)) = 1 by kernel_rfl] at h4
      obtain rfl := c1 h4
      rw [show (IntKind.i64.wrap ((3 : Int) + 1)) = 4 by kernel_rfl] at h5
      rcases c4 h5 with rfl | rfl | rfl | rfl
      · exact q0300 _
      · exact q0301 _
      · exact q0302 _
      · exact q0303 _
    · rw [show (IntKind.i64.wrap ((0 : Int) + 1)) = 1 by kernel_rfl] at h4
      obtain rfl := c1 h4
      rw [show (IntKind.i64.wrap ((4 : Int) + 1)) = 5 by kernel_rfl] at h5
      rcases c5 h5 with rfl | rfl | rfl | rfl | rfl
      · exact q0400 _
      · exact q0401 _
      · exact q0402 _
      · exact q0403 _
      · exact q0404 _
    · rw [show (IntKind.i64.wrap ((0 : Int) + 1)) = 1 by kernel_rfl] at h4
      obtain rfl := c1 h4
      rw [show (IntKind.i64.wrap ((5 : Int) + 1)) = 6 by kernel_rfl] at h5
      rcases c6 h5 with rfl | rfl | rfl | rfl | rfl | rfl
      · exact q0500 _
      · exact q0501 _
      · exact q0502 _
      · exact q0503 _
      · exact q0504 _
      · exact q0505 _
    · rw [show (IntKind.i64.wrap ((0 : Int) + 1)) = 1 by kernel_rfl] at h4
      obtain rfl := c1 h4
      rw [show (IntKind.i64.wrap ((6 : Int) + 1)) = 7 by kernel_rfl] at h5
      rcases c7 h5 with rfl | rfl | rfl | rfl | rfl | rfl | rfl
      · exact q0600 _
      · exact q0601 _
      · exact q0602 _
      · exact q0603 _
      · exact q0604 _
      · exact q0605 _
      · exact q0606 _
  · rcases c7 h3 with rfl | rfl | rfl | rfl | rfl | rfl | rfl
    · rw [show (IntKind.i64.wrap ((1 : Int) + 1)) = 2 by kernel_rfl] at h4
      rcases c2 h4 with rfl | rfl
      · rw [show (IntKind.i64.wrap ((0 : Int) + 1)) = 1 by kernel_rfl] at h5
        obtain rfl := c1 h5
        exact q1000 _
      · rw [show (IntKind.i64.wrap ((0 : Int) + 1)) = 1 by kernel_rfl] at h5
        obtain rfl := c1 h5
        exact q1010 _
    · rw [show (IntKind.i64.wrap ((1 : Int) + 1)) = 2 by kernel_rfl] at h4
      rcases c2 h4 with rfl | rfl
      · rw [show (IntKind.i64.wrap ((1 : Int) + 1)) = 2 by kernel_rfl] at h5
        rcases c2 h5 with rfl | rfl
        · exact q1100 _
        · exact q1101 _
      · rw [show (IntKind.i64.wrap ((1 : Int) + 1)) = 2 by kernel_rfl] at h5
        rcases c2 h5 with rfl | rfl
        · exact q1110 _
        · exact q1111 _
    · rw [show (IntKind.i64.wrap ((1 : Int) + 1)) = 2 by kernel_rfl] at h4
      rcases c2 h4 with rfl | rfl
      · rw [show (IntKind.i64.wrap ((2 : Int) + 1)) = 3 by kernel_rfl] at h5
        rcases c3 h5 with rfl | rfl | rfl
        · exact q1200 _
        · exact q1201 _
        · exact q1202 _
      · rw [show (IntKind.i64.wrap ((2 : Int) + 1)) = 3 by kernel_rfl] at h5
        rcases c3 h5 with rfl | rfl | rfl
        · exact q1210 _
        · exact q1211 _
        · exact q1212 _
    · rw [show (IntKind.i64.wrap ((1 : Int) + 1)) = 2 by kernel_rfl] at h4
      rcases c2 h4 with rfl | rfl
      · rw [show (IntKind.i64.wrap ((3 : Int) + 1)) = 4 by kernel_rfl] at h5
        rcases c4 h5 with rfl | rfl | rfl | rfl
        · exact q1300 _
        · exact q1301 _
        · exact q1302 _
        · exact q1303 _
      · rw [show (IntKind.i64.wrap ((3 : Int) + 1)) = 4 by kernel_rfl] at h5
        rcases c4 h5 with rfl | rfl | rfl | rfl
        · exact q1310 _
        · exact q1311 _
        · exact q1312 _
        · exact q1313 _
    · rw [show (IntKind.i64.wrap ((1 : Int) + 1)) = 2 by kernel_rfl] at h4
      rcases c2 h4 with rfl | rfl
      · rw [show (IntKind.i64.wrap ((4 : Int) + 1)) = 5 by kernel_rfl] at h5
        rcases c5 h5 with rfl | rfl | rfl | rfl | rfl
        · exact q1400 _
        · exact q1401 _
        · exact q1402 _
        · exact q1403 _
        · exact q1404 _
      · rw [show (IntKind.i64.wrap ((4 : Int) + 1)) = 5 by kernel_rfl] at h5
        rcases c5 h5 with rfl | rfl | rfl | rfl | rfl
        · exact q1410 _
        · exact q1411 _
        · exact q1412 _
        · exact q1413 _
        · exact q1414 _
    · rw [show (IntKind.i64.wrap ((1 : Int) + 1)) = 2 by kernel_rfl] at h4
      rcases c2 h4 with rfl | rfl
      · rw [show (IntKind.i64.wrap ((5 : Int) + 1)) = 6 by kernel_rfl] at h5
        rcases c6 h5 with rfl | rfl | rfl | rfl | rfl | rfl
        · exact q1500 _
        · exact q1501 _
        · exact q1502 _
        · exact q1503 _
        · exact q1504 _
        · exact q1505 _
      · rw [show (IntKind.i64.wrap ((5 : Int) + 1)) = 6 by kernel_rfl] at h5
        rcases c6 h5 with rfl | rfl | rfl | rfl | rfl | rfl
        · exact q1510 _
        · exact q1511 _
        · exact q1512 _
        · exact q1513 _
        · exact q1514 _
        · exact q1515 _
    · rw [show (IntKind.i64.wrap ((1 : Int) + 1)) = 2 by kernel_rfl] at h4
      rcases c2 h4 with rfl | rfl
      · rw [show (IntKind.i64.wrap ((6 : Int) + 1)) = 7 by kernel_rfl] at h5
        rcases c7 h5 with rfl | rfl | rfl | rfl | rfl | rfl | rfl
        · exact q1600 _
        · exact q1601 _
        · exact q1602 _
        · exact q1603 _
        · exact q1604 _
        · exact q1605 _
        · exact q1606 _
      · rw [show (IntKind.i64.wrap ((6 : Int) + 1)) = 7 by kernel_rfl] at h5
        rcases c7 h5 with rfl | rfl | rfl | rfl | rfl | rfl | rfl
        · exact q1610 _
        · exact q1611 _
        · exact q1612 _
        · exact q1613 _
        · exact q1614 _
        · exact q1615 _
        · exact q1616 _
  · rcases c7 h3 with rfl | rfl | rfl | rfl | rfl | rfl | rfl
    · rw [show (IntKind.i64.wrap ((2 : Int) + 1)) = 3 by kernel_rfl] at h4
      rcases c3 h4 with rfl | rfl | rfl
      · rw [show (IntKind.i64.wrap ((0 : Int) + 1)) = 1 by kernel_rfl] at h5
        obtain rfl := c1 h5
        exact q2000 _
      · rw [show (IntKind.i64.wrap ((0 : Int) + 1)) = 1 by kernel_rfl] at h5
        obtain rfl := c1 h5
        exact q2010 _
      · rw [show (IntKind.i64.wrap ((0 : Int) + 1)) = 1 by kernel_rfl] at h5
        obtain rfl := c1 h5
        exact q2020 _
    · rw [show (IntKind.i64.wrap ((2 : Int) + 1)) = 3 by kernel_rfl] at h4
      rcases c3 h4 with rfl | rfl | rfl
      · rw [show (IntKind.i64.wrap ((1 : Int) + 1)) = 2 by kernel_rfl] at h5
        rcases c2 h5 with rfl | rfl
        · exact q2100 _
        · exact q2101 _
      · rw [show (IntKind.i64.wrap ((1 : Int) + 1)) = 2 by kernel_rfl] at h5
        rcases c2 h5 with rfl | rfl
        · exact q2110 _
        · exact q2111 _
      · rw [show (IntKind.i64.wrap ((1 : Int) + 1)) = 2 by kernel_rfl] at h5
        rcases c2 h5 with rfl | rfl
        · exact q2120 _
        · exact q2121 _
    · rw [show (IntKind.i64.wrap ((2 : Int) + 1)) = 3 by kernel_rfl] at h4
      rcases c3 h4 with rfl | rfl | rfl
      · rw [show (IntKind.i64.wrap ((2 : Int) + 1)) = 3 by kernel_rfl] at h5
        rcases c3 h5 with rfl | rfl | rfl
        · exact q2200 _
        · exact q2201 _
        · exact q2202 _
      · rw [show (IntKind.i64.wrap ((2 : Int) + 1)) = 3 by kernel_rfl] at h5
        rcases c3 h5 with rfl | rfl | rfl
        · exact q2210 _
        · exact q2211 _
        · exact q2212 _
      · rw [show (IntKind.i64.wrap ((2 : Int) + 1)) = 3 by kernel_rfl] at h5
        rcases c3 h5 with rfl | rfl | rfl
        · exact q2220 _
        · exact q2221 _
        · exact q2222 _
    · rw [show (IntKind.i64.wrap ((2 : Int) + 1)) = 3 by kernel_rfl] at h4
      rcases c3 h4 with rfl | rfl | rfl
      · rw [show (IntKind.i64.wrap ((3 : Int) + 1)) = 4 by kernel_rfl] at h5
        rcases c4 h5 with rfl | rfl | rfl | rfl
        · exact q2300 _
        · exact q2301 _
        · exact q2302 _
        · exact q2303 _
      · rw [show (IntKind.i64.wrap ((3 : Int) + 1)) = 4 by kernel_rfl] at h5
        rcases c4 h5 with rfl | rfl | rfl | rfl
        · exact q2310 _
        · exact q2311 _
        · exact q2312 _
        · exact q2313 _
      · rw [show (IntKind.i64.wrap ((3 : Int) + 1)) = 4 by kernel_rfl] at h5
        rcases c4 h5 with rfl | rfl | rfl | rfl
        · exact q2320 _
        · exact q2321 _
        · exact q2322 _
        · exact q2323 _
    · rw [show (IntKind.i64.wrap ((2 : Int) + 1)) = 3 by kernel_rfl] at h4
      rcases c3 h4 with rfl | rfl | rfl
      · rw [show (IntKind.i64.wrap ((4 : Int) + 1)) = 5 by kernel_rfl] at h5
        rcases c5 h5 with rfl | rfl | rfl | rfl | rfl
        · exact q2400 _
        · exact q2401 _
        · exact q2402 _
        · exact q2403 _
        · exact q2404 _
      · rw [show (IntKind.i64.wrap ((4 : Int) + 1)) = 5 by kernel_rfl] at h5
        rcases c5 h5 with rfl | rfl | rfl | rfl | rfl
        · exact q2410 _
        · exact q2411 _
        · exact q2412 _
        · exact q2413 _
        · exact q2414 _
      · rw [show (IntKind.i64.wrap ((4 : Int) + 1)) = 5 by kernel_rfl] at h5
        rcases c5 h5 with rfl | rfl | rfl | rfl | rfl
        · exact q2420 _
        · exact q2421 _
        · exact q2422 _
        · exact q2423 _
        · exact q2424 _
    · rw [show (IntKind.i64.wrap ((2 : Int) + 1)) = 3 by kernel_rfl] at h4
      rcases c3 h4 with rfl | rfl | rfl
      · rw [show (IntKind.i64.wrap ((5 : Int) + 1)) = 6 by kernel_rfl] at h5
        rcases c6 h5 with rfl | rfl | rfl | rfl | rfl | rfl
        · exact q2500 _
        · exact q2501 _
        · exact q2502 _
        · exact q2503 _
        · exact q2504 _
        · exact q2505 _
      · rw [show (IntKind.i64.wrap ((5 : Int) + 1)) = 6 by kernel_rfl] at h5
        rcases c6 h5 with rfl | rfl | rfl | rfl | rfl | rfl
        · exact q2510 _
        · exact q2511 _
        · exact q2512 _
        · exact q2513 _
        · exact q2514 _
        · exact q2515 _
      · rw [show (IntKind.i64.wrap ((5 : Int) + 1)) = 6 by kernel_rfl] at h5
        rcases c6 h5 with rfl | rfl | rfl | rfl | rfl | rfl
        · exact q2520 _
        · exact q2521 _
        · exact q2522 _
        · exact q2523 _
        · exact q2524 _
        · exact q2525 _
    · rw [show (IntKind.i64.wrap ((2 : Int) + 1)) = 3 by kernel_rfl] at h4
      rcases c3 h4 with rfl | rfl | rfl
      · rw [show (IntKind.i64.wrap ((6 : Int) + 1)) = 7 by kernel_rfl] at h5
        rcases c7 h5 with rfl | rfl | rfl | rfl | rfl | rfl | rfl
        · exact q2600 _
        · exact q2601 _
        · exact q2602 _
        · exact q2603 _
        · exact q2604 _
        · exact q2605 _
        · exact q2606 _
      · rw [show (IntKind.i64.wrap ((6 : Int) + 1)) = 7 by kernel_rfl] at h5
        rcases c7 h5 with rfl | rfl | rfl | rfl | rfl | rfl | rfl
        · exact q2610 _
        · exact q2611 _
        · exact q2612 _
        · exact q2613 _
        · exact q2614 _
        · exact q2615 _
        · exact q2616 _
      · rw [show (IntKind.i64.wrap ((6 : Int) + 1)) = 7 by kernel_rfl] at h5
        rcases c7 h5 with rfl | rfl | rfl | rfl | rfl | rfl | rfl
        · exact q2620 _
        · exact q2621 _
        · exact q2622 _
        · exact q2623 _
        · exact q2624 _
        · exact q2625 _
        · exact q2626 _
  · rcases c7 h3 with rfl | rfl | rfl | rfl | rfl | rfl | rfl
    · rw [show (IntKind.i64.wrap ((3 : Int) + 1)) = 4 by kernel_rfl] at h4
      rcases c4 h4 with rfl | rfl | rfl | rfl
      · rw [show (IntKind.i64.wrap ((0 : Int) + 1)) = 1 by kernel_rfl] at h5
        obtain rfl := c1 h5
        exact q3000 _
      · rw [show (IntKind.i64.wrap ((0 : Int) + 1)) = 1 by kernel_rfl] at h5
        obtain rfl := c1 h5
        exact q3010 _
      · rw [show (IntKind.i64.wrap ((0 : Int) + 1)) = 1 by kernel_rfl] at h5
        obtain rfl := c1 h5
        exact q3020 _
      · rw [show (IntKind.i64.wrap ((0 : Int) + 1)) = 1 by kernel_rfl] at h5
        obtain rfl := c1 h5
        exact q3030 _
    · rw [show (IntKind.i64.wrap ((3 : Int) + 1)) = 4 by kernel_rfl] at h4
      rcases c4 h4 with rfl | rfl | rfl | rfl
      · rw [show (IntKind.i64.wrap ((1 : Int) + 1)) = 2 by kernel_rfl] at h5
        rcases c2 h5 with rfl | rfl
        · exact q3100 _
        · exact q3101 _
      · rw [show (IntKind.i64.wrap ((1 : Int) + 1)) = 2 by kernel_rfl] at h5
        rcases c2 h5 with rfl | rfl
        · exact q3110 _
        · exact q3111 _
      · rw [show (IntKind.i64.wrap ((1 : Int) + 1)) = 2 by kernel_rfl] at h5
        rcases c2 h5 with rfl | rfl
        · exact q3120 _
        · exact q3121 _
      · rw [show (IntKind.i64.wrap ((1 : Int) + 1)) = 2 by kernel_rfl] at h5
        rcases c2 h5 with rfl | rfl
        · exact q3130 _
        · exact q3131 _
    · rw [show (IntKind.i64.wrap ((3 : Int) + 1)) = 4 by kernel_rfl] at h4
      rcases c4 h4 with rfl | rfl | rfl | rfl
      · rw [show (IntKind.i64.wrap ((2 : Int) + 1)) = 3 by kernel_rfl] at h5
        rcases c3 h5 with rfl | rfl | rfl
        · exact q3200 _
        · exact q3201 _
        · exact q3202 _
      · rw [show (IntKind.i64.wrap ((2 : Int) + 1)) = 3 by kernel_rfl] at h5
        rcases c3 h5 with rfl | rfl | rfl
        · exact q3210 _
        · exact q3211 _
        · exact q3212 _
      · rw [show (IntKind.i64.wrap ((2 : Int) + 1)) = 3 by kernel_rfl] at h5
        rcases c3 h5 with rfl | rfl | rfl
        · exact q3220 _
        · exact q3221 _
        · exact q3222 _
      · rw [show (IntKind.i64.wrap ((2 : Int) + 1)) = 3 by kernel_rfl] at h5
        rcases c3 h5 with rfl | rfl | rfl
        · exact q3230 _
        · exact q3231 _
        · exact q3232 _
    · rw [show (IntKind.i64.wrap ((3 : Int) + 1)) = 4 by kernel_rfl] at h4
      rcases c4 h4 with rfl | rfl | rfl | rfl
      · rw [show (IntKind.i64.wrap ((3 : Int) + 1)) = 4 by kernel_rfl] at h5
        rcases c4 h5 with rfl | rfl | rfl | rfl
        · exact q3300 _
        · exact q3301 _
        · exact q3302 _
        · exact q3303 _
      · rw [show (IntKind.i64.wrap ((3 : Int) + 1)) = 4 by kernel_rfl] at h5
        rcases c4 h5 with rfl | rfl | rfl | rfl
        · exact q3310 _
        · exact q3311 _
        · exact q3312 _
        · exact q3313 _
      · rw [show (IntKind.i64.wrap ((3 : Int) + 1)) = 4 by kernel_rfl] at h5
        rcases c4 h5 with rfl | rfl | rfl | rfl
        · exact q3320 _
        · exact q3321 _
        · exact q3322 _
        · exact q3323 _
      · rw [show (IntKind.i64.wrap ((3 : Int) + 1)) = 4 by kernel_rfl] at h5
        rcases c4 h5 with rfl | rfl | rfl | rfl
        · exact q3330 _
        · exact q3331 _
        · exact q3332 _
        · exact q3333 _
    · rw [show (IntKind.i64.wrap ((3 : Int) + 1)) = 4 by kernel_rfl] at h4
      rcases c4 h4 with rfl | rfl | rfl | rfl
      · rw [show (IntKind.i64.wrap ((4 : Int) + 1)) = 5 by kernel_rfl] at h5
        rcases c5 h5 with rfl | rfl | rfl | rfl | rfl
        · exact q3400 _
        · exact q3401 _
        · exact q3402 _
        · exact q3403 _
        · exact q3404 _
      · rw [show (IntKind.i64.wrap ((4 : Int) + 1)) = 5 by kernel_rfl] at h5
        rcases c5 h5 with rfl | rfl | rfl | rfl | rfl
        · exact q3410 _
        · exact q3411 _
        · exact q3412 _
        · exact q3413 _
        · exact q3414 _
      · rw [show (IntKind.i64.wrap ((4 : Int) + 1)) = 5 by kernel_rfl] at h5
        rcases c5 h5 with rfl | rfl | rfl | rfl | rfl
        · exact q3420 _
        · exact q3421 _
        · exact q3422 _
        · exact q3423 _
        · exact q3424 _
      · rw [show (IntKind.i64.wrap ((4 : Int) + 1)) = 5 by kernel_rfl] at h5
        rcases c5 h5 with rfl | rfl | rfl | rfl | rfl
        · exact q3430 _
        · exact q3431 _
        · exact q3432 _
        · exact q3433 _
        · exact q3434 _
    · rw [show (IntKind.i64.wrap ((3 : Int) + 1)) = 4 by kernel_rfl] at h4
      rcases c4 h4 with rfl | rfl | rfl | rfl
      · rw [show (IntKind.i64.wrap ((5 : Int) + 1)) = 6 by kernel_rfl] at h5
        rcases c6 h5 with rfl | rfl | rfl | rfl | rfl | rfl
        · exact q3500 _
        · exact q3501 _
        · exact q3502 _
        · exact q3503 _
        · exact q3504 _
        · exact q3505 _
      · rw [show (IntKind.i64.wrap ((5 : Int) + 1)) = 6 by kernel_rfl] at h5
        rcases c6 h5 with rfl | rfl | rfl | rfl | rfl | rfl
        · exact q3510 _
        · exact q3511 _
        · exact q3512 _
        · exact q3513 _
        · exact q3514 _
        · exact q3515 _
      · rw [show (IntKind.i64.wrap ((5 : Int) + 1)) = 6 by kernel_rfl] at h5
        rcases c6 h5 with rfl | rfl | rfl | rfl | rfl | rfl
        · exact q3520 _
        · exact q3521 _
        · exact q3522 _
        · exact q3523 _
        · exact q3524 _
        · exact q3525 _
      · rw [show (IntKind.i64.wrap ((5 : Int) + 1)) = 6 by kernel_rfl] at h5
        rcases c6 h5 with rfl | rfl | rfl | rfl | rfl | rfl
        · exact q3530 _
        · exact q3531 _
        · exact q3532 _
        · exact q3533 _
        · exact q3534 _
        · exact q3535 _
    · rw [show (IntKind.i64.wrap ((3 : Int) + 1)) = 4 by kernel_rfl] at h4
      rcases c4 h4 with rfl | rfl | rfl | rfl
      · rw [show (IntKind.i64.wrap ((6 : Int) + 1)) = 7 by kernel_rfl] at h5
        rcases c7 h5 with rfl | rfl | rfl | rfl | rfl | rfl | rfl
        · exact q3600 _
        · exact q3601 _
        · exact q3602 _
        · exact q3603 _
        · exact q3604 _
        · exact q3605 _
        · exact q3606 _
      · rw [show (IntKind.i64.wrap ((6 : Int) + 1)) = 7 by kernel_rfl] at h5
        rcases c7 h5 with rfl | rfl | rfl | rfl | rfl | rfl | rfl
        · exact q3610 _
        · exact q3611 _
        · exact q3612 _
        · exact q3613 _
        · exact q3614 _
        · exact q3615 _
        · exact q3616 _
      · rw [show (IntKind.i64.wrap ((6 : Int) + 1)) = 7 by kernel_rfl] at h5
        rcases c7 h5 with rfl | rfl | rfl | rfl | rfl | rfl | rfl
        · exact q3620 _
        · exact q3621 _
        · exact q3622 _
        · exact q3623 _
        · exact q3624 _
        · exact q3625 _
        · exact q3626 _
      · rw [show (IntKind.i64.wrap ((6 : Int) + 1)) = 7 by kernel_rfl] at h5
        rcases c7 h5 with rfl | rfl | rfl | rfl | rfl | rfl | rfl
        · exact q3630 _
        · exact q3631 _
        · exact q3632 _
        · exact q3633 _
        · exact q3634 _
        · exact q3635 _
        · exact q3636 _
  · rcases c7 h3 with rfl | rfl | rfl | rfl | rfl | rfl | rfl
    · rw [show (IntKind.i64.wrap ((4 : Int) + 1)) = 5 by kernel_rfl] at h4
      rcases c5 h4 with rfl | rfl | rfl | rfl | rfl
      · rw [show (IntKind.i64.wrap ((0 : Int) + 1)) = 1 by kernel_rfl] at h5
        obtain rfl := c1 h5
        exact q4000 _
      · rw [show (IntKind.i64.wrap ((0 : Int) + 1)) = 1 by kernel_rfl] at h5
        obtain rfl := c1 h5
        exact q4010 _
      · rw [show (IntKind.i64.wrap ((0 : Int) + 1)) = 1 by kernel_rfl] at h5
        obtain rfl := c1 h5
        exact q4020 _
      · rw [show (IntKind.i64.wrap ((0 : Int) + 1)) = 1 by kernel_rfl] at h5
        obtain rfl := c1 h5
        exact q4030 _
      · rw [show (IntKind.i64.wrap ((0 : Int) + 1)) = 1 by kernel_rfl] at h5
        obtain rfl := c1 h5
        exact q4040 _
    · rw [show (IntKind.i64.wrap ((4 : Int) + 1)) = 5 by kernel_rfl] at h4
      rcases c5 h4 with rfl | rfl | rfl | rfl | rfl
      · rw [show (IntKind.i64.wrap ((1 : Int) + 1)) = 2 by kernel_rfl] at h5
        rcases c2 h5 with rfl | rfl
        · exact q4100 _
        · exact q4101 _
      · rw [show (IntKind.i64.wrap ((1 : Int) + 1)) = 2 by kernel_rfl] at h5
        rcases c2 h5 with rfl | rfl
        · exact q4110 _
        · exact q4111 _
      · rw [show (IntKind.i64.wrap ((1 : Int) + 1)) = 2 by kernel_rfl] at h5
        rcases c2 h5 with rfl | rfl
        · exact q4120 _
        · exact q4121 _
      · rw [show (IntKind.i64.wrap ((1 : Int) + 1)) = 2 by kernel_rfl] at h5
        rcases c2 h5 with rfl | rfl
        · exact q4130 _
        · exact q4131 _
      · rw [show (IntKind.i64.wrap ((1 : Int) + 1)) = 2 by kernel_rfl] at h5
        rcases c2 h5 with rfl | rfl
        · exact q4140 _
        · exact q4141 _
    · rw [show (IntKind.i64.wrap ((4 : Int) + 1)) = 5 by kernel_rfl] at h4
      rcases c5 h4 with rfl | rfl | rfl | rfl | rfl
      · rw [show (IntKind.i64.wrap ((2 : Int) + 1)) = 3 by kernel_rfl] at h5
        rcases c3 h5 with rfl | rfl | rfl
        · exact q4200 _
        · exact q4201 _
        · exact q4202 _
      · rw [show (IntKind.i64.wrap ((2 : Int) + 1)) = 3 by kernel_rfl] at h5
        rcases c3 h5 with rfl | rfl | rfl
        · exact q4210 _
        · exact q4211 _
        · exact q4212 _
      · rw [show (IntKind.i64.wrap ((2 : Int) + 1)) = 3 by kernel_rfl] at h5
        rcases c3 h5 with rfl | rfl | rfl
        · exact q4220 _
        · exact q4221 _
        · exact q4222 _
      · rw [show (IntKind.i64.wrap ((2 : Int) + 1)) = 3 by kernel_rfl] at h5
        rcases c3 h5 with rfl | rfl | rfl
        · exact q4230 _
        · exact q4231 _
        · exact q4232 _
      · rw [show (IntKind.i64.wrap ((2 : Int) + 1)) = 3 by kernel_rfl] at h5
        rcases c3 h5 with rfl | rfl | rfl
        · exact q4240 _
        · exact q4241 _
        · exact q4242 _
    · rw [show (IntKind.i64.wrap ((4 : Int) + 1)) = 5 by kernel_rfl] at h4
      rcases c5 h4 with rfl | rfl | rfl | rfl | rfl
      · rw [show (IntKind.i64.wrap ((3 : Int) + 1)) = 4 by kernel_rfl] at h5
        rcases c4 h5 with rfl | rfl | rfl | rfl
        · exact q4300 _
        · exact q4301 _
        · exact q4302 _
        · exact q4303 _
      · rw [show (IntKind.i64.wrap ((3 : Int) + 1)) = 4 by kernel_rfl] at h5
        rcases c4 h5 with rfl | rfl | rfl | rfl
        · exact q4310 _
        · exact q4311 _
        · exact q4312 _
        · exact q4313 _
      · rw [show (IntKind.i64.wrap ((3 : Int) + 1)) = 4 by kernel_rfl] at h5
        rcases c4 h5 with rfl | rfl | rfl | rfl
        · exact q4320 _
        · exact q4321 _
        · exact q4322 _
        · exact q4323 _
      · rw [show (IntKind.i64.wrap ((3 : Int) + 1)) = 4 by kernel_rfl] at h5
        rcases c4 h5 with rfl | rfl | rfl | rfl
        · exact q4330 _
        · exact q4331 _
        · exact q4332 _
        · exact q4333 _
      · rw [show (IntKind.i64.wrap ((3 : Int) + 1)) = 4 by kernel_rfl] at h5
        rcases c4 h5 with rfl | rfl | rfl | rfl
        · exact q4340 _
        · exact q4341 _
        · exact q4342 _
        · exact q4343 _
    · rw [show (IntKind.i64.wrap ((4 : Int) + 1)) = 5 by kernel_rfl] at h4
      rcases c5 h4 with rfl | rfl | rfl | rfl | rfl
      · rw [show (IntKind.i64.wrap ((4 : Int) + 1)) = 5 by kernel_rfl] at h5
        rcases c5 h5 with rfl | rfl | rfl | rfl | rfl
        · exact q4400 _
        · exact q4401 _
        · exact q4402 _
        · exact q4403 _
        · exact q4404 _
      · rw [show (IntKind.i64.wrap ((4 : Int) + 1)) = 5 by kernel_rfl] at h5
        rcases c5 h5 with rfl | rfl | rfl | rfl | rfl
        · exact q4410 _
        · exact q4411 _
        · exact q4412 _
        · exact q4413 _
        · exact q4414 _
      · rw [show (IntKind.i64.wrap ((4 : Int) + 1)) = 5 by kernel_rfl] at h5
        rcases c5 h5 with rfl | rfl | rfl | rfl | rfl
        · exact q4420 _
        · exact q4421 _
        · exact q4422 _
        · exact q4423 _
        · exact q4424 _
      · rw [show (IntKind.i64.wrap ((4 : Int) + 1)) = 5 by kernel_rfl] at h5
        rcases c5 h5 with rfl | rfl | rfl | rfl | rfl
        · exact q4430 _
        · exact q4431 _
        · exact q4432 _
        · exact q4433 _
        · exact q4434 _
      · rw [show (IntKind.i64.wrap ((4 : Int) + 1)) = 5 by kernel_rfl] at h5
        rcases c5 h5 with rfl | rfl | rfl | rfl | rfl
        · exact q4440 _
        · exact q4441 _
        · exact q4442 _
        · exact q4443 _
        · exact q4444 _
    · rw [show (IntKind.i64.wrap ((4 : Int) + 1)) = 5 by kernel_rfl] at h4
      rcases c5 h4 with rfl | rfl | rfl | rfl | rfl
      · rw [show (IntKind.i64.wrap ((5 : Int) + 1)) = 6 by kernel_rfl] at h5
        rcases c6 h5 with rfl | rfl | rfl | rfl | rfl | rfl
        · exact q4500 _
        · exact q4501 _
        · exact q4502 _
        · exact q4503 _
        · exact q4504 _
        · exact q4505 _
      · rw [show (IntKind.i64.wrap ((5 : Int) + 1)) = 6 by kernel_rfl] at h5
        rcases c6 h5 with rfl | rfl | rfl | rfl | rfl | rfl
        · exact q4510 _
        · exact q4511 _
        · exact q4512 _
        · exact q4513 _
        · exact q4514 _
        · exact q4515 _
      · rw [show (IntKind.i64.wrap ((5 : Int) + 1)) = 6 by kernel_rfl] at h5
        rcases c6 h5 with rfl | rfl | rfl | rfl | rfl | rfl
        · exact q4520 _
        · exact q4521 _
        · exact q4522 _
        · exact q4523 _
        · exact q4524 _
        · exact q4525 _
      · rw [show (IntKind.i64.wrap ((5 : Int) + 1)) = 6 by kernel_rfl] at h5
        rcases c6 h5 with rfl | rfl | rfl | rfl | rfl | rfl
        · exact q4530 _
        · exact q4531 _
        · exact q4532 _
        · exact q4533 _
        · exact q4534 _
        · exact q4535 _
      · rw [show (IntKind.i64.wrap ((5 : Int) + 1)) = 6 by kernel_rfl] at h5
        rcases c6 h5 with rfl | rfl | rfl | rfl | rfl | rfl
        · exact q4540 _
        · exact q4541 _
        · exact q4542 _
        · exact q4543 _
        · exact q4544 _
        · exact q4545 _
    · rw [show (IntKind.i64.wrap ((4 : Int) + 1)) = 5 by kernel_rfl] at h4
      rcases c5 h4 with rfl | rfl | rfl | rfl | rfl
      · rw [show (IntKind.i64.wrap ((6 : Int) + 1)) = 7 by kernel_rfl] at h5
        rcases c7 h5 with rfl | rfl | rfl | rfl | rfl | rfl | rfl
        · exact q4600 _
        · exact q4601 _
        · exact q4602 _
        · exact q4603 _
        · exact q4604 _
        · exact q4605 _
        · exact q4606 _
      · rw [show (IntKind.i64.wrap ((6 : Int) + 1)) = 7 by kernel_rfl] at h5
        rcases c7 h5 with rfl | rfl | rfl | rfl | rfl | rfl | rfl
        · exact q4610 _
        · exact q4611 _
        · exact q4612 _
        · exact q4613 _
        · exact q4614 _
        · exact q4615 _
        · exact q4616 _
      · rw [show (IntKind.i64.wrap ((6 : Int) + 1)) = 7 by kernel_rfl] at h5
        rcases c7 h5 with rfl | rfl | rfl | rfl | rfl | rfl | rfl
        · exact q4620 _
        · exact q4621 _
        · exact q4622 _
        · exact q4623 _
        · exact q4624 _
        · exact q4625 _
        · exact q4626 _
      · rw [show (IntKind.i64.wrap ((6 : Int) + 1)) = 7 by kernel_rfl] at h5
        rcases c7 h5 with rfl | rfl | rfl | rfl | rfl | rfl | rfl
        · exact q4630 _
        · exact q4631 _
        · exact q4632 _
        · exact q4633 _
        · exact q4634 _
        · exact q4635 _
        · exact q4636 _
      · rw [show (IntKind.i64.wrap ((6 : Int) + 1)) = 7 by kernel_rfl] at h5
        rcases c7 h5 with rfl | rfl | rfl | rfl | rfl | rfl | rfl
        · exact q4640 _
        · exact q4641 _
        · exact q4642 _
        · exact q4643 _
        · exact q4644 _
        · exact q4645 _
        · exact q4646 _
  · rcases c7 h3 with rfl | rfl | rfl | rfl | rfl | rfl | rfl
    · rw [show (IntKind.i64.wrap ((5 : Int) + 1)) = 6 by kernel_rfl] at h4
      rcases c6 h4 with rfl | rfl | rfl | rfl | rfl | rfl
      · rw [show (IntKind.i64.wrap ((0 : Int) + 1)) = 1 by kernel_rfl] at h5
        obtain rfl := c1 h5
        exact q5000 _
      · rw [show (IntKind.i64.wrap ((0 : Int) + 1)) = 1 by kernel_rfl] at h5
        obtain rfl := c1 h5
        exact q5010 _
      · rw [show (IntKind.i64.wrap ((0 : Int) + 1)) = 1 by kernel_rfl] at h5
        obtain rfl := c1 h5
        exact q5020 _
      · rw [show (IntKind.i64.wrap ((0 : Int) + 1)) = 1 by kernel_rfl] at h5
        obtain rfl := c1 h5
        exact q5030 _
      · rw [show (IntKind.i64.wrap ((0 : Int) + 1)) = 1 by kernel_rfl] at h5
        obtain rfl := c1 h5
        exact q5040 _
      · rw [show (IntKind.i64.wrap ((0 : Int) + 1)) = 1 by kernel_rfl] at h5
        obtain rfl := c1 h5
        exact q5050 _
    · rw [show (IntKind.i64.wrap ((5 : Int) + 1)) = 6 by kernel_rfl] at h4
      rcases c6 h4 with rfl | rfl | rfl | rfl | rfl | rfl
      · rw [show (IntKind.i64.wrap ((1 : Int) + 1)) = 2 by kernel_rfl] at h5
        rcases c2 h5 with rfl | rfl
        · exact q5100 _
        · exact q5101 _
      · rw [show (IntKind.i64.wrap ((1 : Int) + 1)) = 2 by kernel_rfl] at h5
        rcases c2 h5 with rfl | rfl
        · exact q5110 _
        · exact q5111 _
      · rw [show (IntKind.i64.wrap ((1 : Int) + 1)) = 2 by kernel_rfl] at h5
        rcases c2 h5 with rfl | rfl
        · exact q5120 _
        · exact q5121 _
      · rw [show (IntKind.i64.wrap ((1 : Int) + 1)) = 2 by kernel_rfl] at h5
        rcases c2 h5 with rfl | rfl
        · exact q5130 _
        · exact q5131 _
      · rw [show (IntKind.i64.wrap ((1 : Int) + 1)) = 2 by kernel_rfl] at h5
        rcases c2 h5 with rfl | rfl
        · exact q5140 _
        · exact q5141 _
      · rw [show (IntKind.i64.wrap ((1 : Int) + 1)) = 2 by kernel_rfl] at h5
        rcases c2 h5 with rfl | rfl
        · exact q5150 _
        · exact q5151 _
    · rw [show (IntKind.i64.wrap ((5 : Int) + 1)) = 6 by kernel_rfl] at h4
      rcases c6 h4 with rfl | rfl | rfl | rfl | rfl | rfl
      · rw [show (IntKind.i64.wrap ((2 : Int) + 1)) = 3 by kernel_rfl] at h5
        rcases c3 h5 with rfl | rfl | rfl
        · exact q5200 _
        · exact q5201 _
        · exact q5202 _
      · rw [show (IntKind.i64.wrap ((2 : Int) + 1)) = 3 by kernel_rfl] at h5
        rcases c3 h5 with rfl | rfl | rfl
        · exact q5210 _
        · exact q5211 _
        · exact q5212 _
      · rw [show (IntKind.i64.wrap ((2 : Int) + 1)) = 3 by kernel_rfl] at h5
        rcases c3 h5 with rfl | rfl | rfl
        · exact q5220 _
        · exact q5221 _
        · exact q5222 _
      · rw [show (IntKind.i64.wrap ((2 : Int) + 1)) = 3 by kernel_rfl] at h5
        rcases c3 h5 with rfl | rfl | rfl
        · exact q5230 _
        · exact q5231 _
        · exact q5232 _
      · rw [show (IntKind.i64.wrap ((2 : Int) + 1)) = 3 by kernel_rfl] at h5
        rcases c3 h5 with rfl | rfl | rfl
        · exact q5240 _
        · exact q5241 _
        · exact q5242 _
      · rw [show (IntKind.i64.wrap ((2 : Int) + 1)) = 3 by kernel_rfl] at h5
        rcases c3 h5 with rfl | rfl | rfl
        · exact q5250 _
        · exact q5251 _
        · exact q5252 _
    · rw [show (IntKind.i64.wrap ((5 : Int) + 1)) = 6 by kernel_rfl] at h4
      rcases c6 h4 with rfl | rfl | rfl | rfl | rfl | rfl
      · rw [show (IntKind.i64.wrap ((3 : Int) + 1)) = 4 by kernel_rfl] at h5
        rcases c4 h5 with rfl | rfl | rfl | rfl
        · exact q5300 _
        · exact q5301 _
        · exact q5302 _
        · exact q5303 _
      · rw [show (IntKind.i64.wrap ((3 : Int) + 1)) = 4 by kernel_rfl] at h5
        rcases c4 h5 with rfl | rfl | rfl | rfl
        · exact q5310 _
        · exact q5311 _
        · exact q5312 _
        · exact q5313 _
      · rw [show (IntKind.i64.wrap ((3 : Int) + 1)) = 4 by kernel_rfl] at h5
        rcases c4 h5 with rfl | rfl | rfl | rfl
        · exact q5320 _
        · exact q5321 _
        · exact q5322 _
        · exact q5323 _
      · rw [show (IntKind.i64.wrap ((3 : Int) + 1)) = 4 by kernel_rfl] at h5
        rcases c4 h5 with rfl | rfl | rfl | rfl
        · exact q5330 _
        · exact q5331 _
        · exact q5332 _
        · exact q5333 _
      · rw [show (IntKind.i64.wrap ((3 : Int) + 1)) = 4 by kernel_rfl] at h5
        rcases c4 h5 with rfl | rfl | rfl | rfl
        · exact q5340 _
        · exact q5341 _
        · exact q5342 _
        · exact q5343 _
      · rw [show (IntKind.i64.wrap ((3 : Int) + 1)) = 4 by kernel_rfl] at h5
        rcases c4 h5 with rfl | rfl | rfl | rfl
        · exact q5350 _
        · exact q5351 _
        · exact q5352 _
        · exact q5353 _
    · rw [show (IntKind.i64.wrap ((5 : Int) + 1)) = 6 by kernel_rfl] at h4
      rcases c6 h4 with rfl | rfl | rfl | rfl | rfl | rfl
      · rw [show (IntKind.i64.wrap ((4 : Int) + 1)) = 5 by kernel_rfl] at h5
        rcases c5 h5 with rfl | rfl | rfl | rfl | rfl
        · exact q5400 _
        · exact q5401 _
        · exact q5402 _
        · exact q5403 _
        · exact q5404 _
      · rw [show (IntKind.i64.wrap ((4 : Int) + 1)) = 5 by kernel_rfl] at h5
        rcases c5 h5 with rfl | rfl | rfl | rfl | rfl
        · exact q5410 _
        · exact q5411 _
        · exact q5412 _
        · exact q5413 _
        · exact q5414 _
      · rw [show (IntKind.i64.wrap ((4 : Int) + 1)) = 5 by kernel_rfl] at h5
        rcases c5 h5 with rfl | rfl | rfl | rfl | rfl
        · exact q5420 _
        · exact q5421 _
        · exact q5422 _
        · exact q5423 _
        · exact q5424 _
      · rw [show (IntKind.i64.wrap ((4 : Int) + 1)) = 5 by kernel_rfl] at h5
        rcases c5 h5 with rfl | rfl | rfl | rfl | rfl
        · exact q5430 _
        · exact q5431 _
        · exact q5432 _
        · exact q5433 _
        · exact q5434 _
      · rw [show (IntKind.i64.wrap ((4 : Int) + 1)) = 5 by kernel_rfl] at h5
        rcases c5 h5 with rfl | rfl | rfl | rfl | rfl
        · exact q5440 _
        · exact q5441 _
        · exact q5442 _
        · exact q5443 _
        · exact q5444 _
      · rw [show (IntKind.i64.wrap ((4 : Int) + 1)) = 5 by kernel_rfl] at h5
        rcases c5 h5 with rfl | rfl | rfl | rfl | rfl
        · exact q5450 _
        · exact q5451 _
        · exact q5452 _
        · exact q5453 _
        · exact q5454 _
    · rw [show (IntKind.i64.wrap ((5 : Int) + 1)) = 6 by kernel_rfl] at h4
      rcases c6 h4 with rfl | rfl | rfl | rfl | rfl | rfl
      · rw [show (IntKind.i64.wrap ((5 : Int) + 1)) = 6 by kernel_rfl] at h5
        rcases c6 h5 with rfl | rfl | rfl | rfl | rfl | rfl
        · exact q5500 _
        · exact q5501 _
        · exact q5502 _
        · exact q5503 _
        · exact q5504 _
        · exact q5505 _
      · rw [show (IntKind.i64.wrap ((5 : Int) + 1)) = 6 by kernel_rfl] at h5
        rcases c6 h5 with rfl | rfl | rfl | rfl | rfl | rfl
        · exact q5510 _
        · exact q5511 _
        · exact q5512 _
        · exact q5513 _
        · exact q5514 _
        · exact q5515 _
      · rw [show (IntKind.i64.wrap ((5 : Int) + 1)) = 6 by kernel_rfl] at h5
        rcases c6 h5 with rfl | rfl | rfl | rfl | rfl | rfl
        · exact q5520 _
        · exact q5521 _
        · exact q5522 _
        · exact q5523 _
        · exact q5524 _
        · exact q5525 _
      · rw [show (IntKind.i64.wrap ((5 : Int) + 1)) = 6 by kernel_rfl] at h5
        rcases c6 h5 with rfl | rfl | rfl | rfl | rfl | rfl
        · exact q5530 _
        · exact q5531 _
        · exact q5532 _
        · exact q5533 _
        · exact q5534 _
        · exact q5535 _
      · rw [show (IntKind.i64.wrap ((5 : Int) + 1)) = 6 by kernel_rfl] at h5
        rcases c6 h5 with rfl | rfl | rfl | rfl | rfl | rfl
        · exact q5540 _
        · exact q5541 _
        · exact q5542 _
        · exact q5543 _
        · exact q5544 _
        · exact q5545 _
      · rw [show (IntKind.i64.wrap ((5 : Int) + 1)) = 6 by kernel_rfl] at h5
        rcases c6 h5 with rfl | rfl | rfl | rfl | rfl | rfl
        · exact q5550 _
        · exact q5551 _
        · exact q5552 _
        · exact q5553 _
        · exact q5554 _
        · exact q5555 _
    · rw [show (IntKind.i64.wrap ((5 : Int) + 1)) = 6 by kernel_rfl] at h4
      rcases c6 h4 with rfl | rfl | rfl | rfl | rfl | rfl
      · rw [show (IntKind.i64.wrap ((6 : Int) + 1)) = 7 by kernel_rfl] at h5
        rcases c7 h5 with rfl | rfl | rfl | rfl | rfl | rfl | rfl
        · exact q5600 _
        · exact q5601 _
        · exact q5602 _
        · exact q5603 _
        · exact q5604 _
        · exact q5605 _
        · exact q5606 _
      · rw [show (IntKind.i64.wrap ((6 : Int) + 1)) = 7 by kernel_rfl] at h5
        rcases c7 h5 with rfl | rfl | rfl | rfl | rfl | rfl | rfl
        · exact q5610 _
        · exact q5611 _
        · exact q5612 _
        · exact q5613 _
        · exact q5614 _
        · exact q5615 _
        · exact q5616 _
      · rw [show (IntKind.i64.wrap ((6 : Int) + 1)) = 7 by kernel_rfl] at h5
        rcases c7 h5 with rfl | rfl | rfl | rfl | rfl | rfl | rfl
        · exact q5620 _
        · exact q5621 _
        · exact q5622 _
        · exact q5623 _
        · exact q5624 _
        · exact q5625 _
        · exact q5626 _
      · rw [show (IntKind.i64.wrap ((6 : Int) + 1)) = 7 by kernel_rfl] at h5
        rcases c7 h5 with rfl | rfl | rfl | rfl | rfl | rfl | rfl
        · exact q5630 _
        · exact q5631 _
        · exact q5632 _
        · exact q5633 _
        · exact q5634 _
        · exact q5635 _
        · exact q5636 _
      · rw [show (IntKind.i64.wrap ((6 : Int) + 1)) = 7 by kernel_rfl] at h5
        rcases c7 h5 with rfl | rfl | rfl | rfl | rfl | rfl | rfl
        · exact q5640 _
        · exact q5641 _
        · exact q5642 _
        · exact q5643 _
        · exact q5644 _
        · exact q5645 _
        · exact q5646 _
      · rw [show (IntKind.i64.wrap ((6 : Int) + 1)) = 7 by kernel_rfl] at h5
        rcases c7 h5 with rfl | rfl | rfl | rfl | rfl | rfl | rfl
        · exact q5650 _
        · exact q5651 _
        · exact q5652 _
        · exact q5653 _
        · exact q5654 _
        · exact q5655 _
        · exact q5656 _
  · rcases c7 h3 with rfl | rfl | rfl | rfl | rfl | rfl | rfl
    · rw [show (IntKind.i64.wrap ((6 : Int) + 1)) = 7 by kernel_rfl] at h4
      rcases c7 h4 with rfl | rfl | rfl | rfl | rfl | rfl | rfl
      · rw [show (IntKind.i64.wrap ((0 : Int) + 1)) = 1 by kernel_rfl] at h5
        obtain rfl := c1 h5
        exact q6000 _
      · rw [show (IntKind.i64.wrap ((0 : Int) + 1)) = 1 by kernel_rfl] at h5
        obtain rfl := c1 h5
        exact q6010 _
      · rw [show (IntKind.i64.wrap ((0 : Int) + 1)) = 1 by kernel_rfl] at h5
        obtain rfl := c1 h5
        exact q6020 _
      · rw [show (IntKind.i64.wrap ((0 : Int) + 1)) = 1 by kernel_rfl] at h5
        obtain rfl := c1 h5
        exact q6030 _
      · rw [show (IntKind.i64.wrap ((0 : Int) + 1)) = 1 by kernel_rfl] at h5
        obtain rfl := c1 h5
        exact q6040 _
      · rw [show (IntKind.i64.wrap ((0 : Int) + 1)) = 1 by kernel_rfl] at h5
        obtain rfl := c1 h5
        exact q6050 _
      · rw [show (IntKind.i64.wrap ((0 : Int) + 1)) = 1 by kernel_rfl] at h5
        obtain rfl := c1 h5
        exact q6060 _
    · rw [show (IntKind.i64.wrap ((6 : Int) + 1)) = 7 by kernel_rfl] at h4
      rcases c7 h4 with rfl | rfl | rfl | rfl | rfl | rfl | rfl
      · rw [show (IntKind.i64.wrap ((1 : Int) + 1)) = 2 by kernel_rfl] at h5
        rcases c2 h5 with rfl | rfl
        · exact q6100 _
        · exact q6101 _
      · rw [show (IntKind.i64.wrap ((1 : Int) + 1)) = 2 by kernel_rfl] at h5
        rcases c2 h5 with rfl | rfl
        · exact q6110 _
        · exact q6111 _
      · rw [show (IntKind.i64.wrap ((1 : Int) + 1)) = 2 by kernel_rfl] at h5
        rcases c2 h5 with rfl | rfl
        · exact q6120 _
        · exact q6121 _
      · rw [show (IntKind.i64.wrap ((1 : Int) + 1)) = 2 by kernel_rfl] at h5
        rcases c2 h5 with rfl | rfl
        · exact q6130 _
        · exact q6131 _
      · rw [show (IntKind.i64.wrap ((1 : Int) + 1)) = 2 by kernel_rfl] at h5
        rcases c2 h5 with rfl | rfl
        · exact q6140 _
        · exact q6141 _
      · rw [show (IntKind.i64.wrap ((1 : Int) + 1)) = 2 by kernel_rfl] at h5
        rcases c2 h5 with rfl | rfl
        · exact q6150 _
        · exact q6151 _
      · rw [show (IntKind.i64.wrap ((1 : Int) + 1)) = 2 by kernel_rfl] at h5
        rcases c2 h5 with rfl | rfl
        · exact q6160 _
        · exact q6161 _
    · rw [show (IntKind.i64.wrap ((6 : Int) + 1)) = 7 by kernel_rfl] at h4
      rcases c7 h4 with rfl | rfl | rfl | rfl | rfl | rfl | rfl
      · rw [show (IntKind.i64.wrap ((2 : Int) + 1)) = 3 by kernel_rfl] at h5
        rcases c3 h5 with rfl | rfl | rfl
        · exact q6200 _
        · exact q6201 _
        · exact q6202 _
      · rw [show (IntKind.i64.wrap ((2 : Int) + 1)) = 3 by kernel_rfl] at h5
        rcases c3 h5 with rfl | rfl | rfl
        · exact q6210 _
        · exact q6211 _
        · exact q6212 _
      · rw [show (IntKind.i64.wrap ((2 : Int) + 1)) = 3 by kernel_rfl] at h5
        rcases c3 h5 with rfl | rfl | rfl
        · exact q6220 _
        · exact q6221 _
        · exact q6222 _
      · rw [show (IntKind.i64.wrap ((2 : Int) + 1)) = 3 by kernel_rfl] at h5
        rcases c3 h5 with rfl | rfl | rfl
        · exact q6230 _
        · exact q6231 _
        · exact q6232 _
      · rw [show (IntKind.i64.wrap ((2 : Int) + 1)) = 3 by kernel_rfl] at h5
        rcases c3 h5 with rfl | rfl | rfl
        · exact q6240 _
        · exact q6241 _
        · exact q6242 _
      · rw [show (IntKind.i64.wrap ((2 : Int) + 1)) = 3 by kernel_rfl] at h5
        rcases c3 h5 with rfl | rfl | rfl
        · exact q6250 _
        · exact q6251 _
        · exact q6252 _
      · rw [show (IntKind.i64.wrap ((2 : Int) + 1)) = 3 by kernel_rfl] at h5
        rcases c3 h5 with rfl | rfl | rfl
        · exact q6260 _
        · exact q6261 _
        · exact q6262 _
    · rw [show (IntKind.i64.wrap ((6 : Int) + 1)) = 7 by kernel_rfl] at h4
      rcases c7 h4 with rfl | rfl | rfl | rfl | rfl | rfl | rfl
      · rw [show (IntKind.i64.wrap ((3 : Int) + 1)) = 4 by kernel_rfl] at h5
        rcases c4 h5 with rfl | rfl | rfl | rfl
        · exact q6300 _
        · exact q6301 _
        · exact q6302 _
        · exact q6303 _
      · rw [show (IntKind.i64.wrap ((3 : Int) + 1)) = 4 by kernel_rfl] at h5
        rcases c4 h5 with rfl | rfl | rfl | rfl
        · exact q6310 _
        · exact q6311 _
        · exact q6312 _
        · exact q6313 _
      · rw [show (IntKind.i64.wrap ((3 : Int) + 1)) = 4 by kernel_rfl] at h5
        rcases c4 h5 with rfl | rfl | rfl | rfl
        · exact q6320 _
        · exact q6321 _
        · exact q6322 _
        · exact q6323 _
      · rw [show (IntKind.i64.wrap ((3 : Int) + 1)) = 4 by kernel_rfl] at h5
        rcases c4 h5 with rfl | rfl | rfl | rfl
        · exact q6330 _
        · exact q6331 _
        · exact q6332 _
        · exact q6333 _
      · rw [show (IntKind.i64.wrap ((3 : Int) + 1)) = 4 by kernel_rfl] at h5
        rcases c4 h5 with rfl | rfl | rfl | rfl
        · exact q6340 _
        · exact q6341 _
        · exact q6342 _
        · exact q6343 _
      · rw [show (IntKind.i64.wrap ((3 : Int) + 1)) = 4 by kernel_rfl] at h5
        rcases c4 h5 with rfl | rfl | rfl | rfl
        · exact q6350 _
        · exact q6351 _
        · exact q6352 _
        · exact q6353 _
      · rw [show (IntKind.i64.wrap ((3 : Int) + 1)) = 4 by kernel_rfl] at h5
        rcases c4 h5 with rfl | rfl | rfl | rfl
        · exact q6360 _
        · exact q6361 _
        · exact q6362 _
        · exact q6363 _
    · rw [show (IntKind.i64.wrap ((6 : Int) + 1)) = 7 by kernel_rfl] at h4
      rcases c7 h4 with rfl | rfl | rfl | rfl | rfl | rfl | rfl
      · rw [show (IntKind.i64.wrap ((4 : Int) + 1)) = 5 by kernel_rfl] at h5
        rcases c5 h5 with rfl | rfl | rfl | rfl | rfl
        · exact q6400 _
        · exact q6401 _
        · exact q6402 _
        · exact q6403 _
        · exact q6404 _
      · rw [show (IntKind.i64.wrap ((4 : Int) + 1)) = 5 by kernel_rfl] at h5
        rcases c5 h5 with rfl | rfl | rfl | rfl | rfl
        · exact q6410 _
        · exact q6411 _
        · exact q6412 _
        · exact q6413 _
        · exact q6414 _
      · rw [show (IntKind.i64.wrap ((4 : Int) + 1)) = 5 by kernel_rfl] at h5
        rcases c5 h5 with rfl | rfl | rfl | rfl | rfl
        · exact q6420 _
        · exact q6421 _
        · exact q6422 _
        · exact q6423 _
        · exact q6424 _
      · rw [show (IntKind.i64.wrap ((4 : Int) + 1)) = 5 by kernel_rfl] at h5
        rcases c5 h5 with rfl | rfl | rfl | rfl | rfl
        · exact q6430 _
        · exact q6431 _
        · exact q6432 _
        · exact q6433 _
        · exact q6434 _
      · rw [show (IntKind.i64.wrap ((4 : Int) + 1)) = 5 by kernel_rfl] at h5
        rcases c5 h5 with rfl | rfl | rfl | rfl | rfl
        · exact q6440 _
        · exact q6441 _
        · exact q6442 _
        · exact q6443 _
        · exact q6444 _
      · rw [show (IntKind.i64.wrap ((4 : Int) + 1)) = 5 by kernel_rfl] at h5
        rcases c5 h5 with rfl | rfl | rfl | rfl | rfl
        · exact q6450 _
        · exact q6451 _
        · exact q6452 _
        · exact q6453 _
        · exact q6454 _
      · rw [show (IntKind.i64.wrap ((4 : Int) + 1)) = 5 by kernel_rfl] at h5
        rcases c5 h5 with rfl | rfl | rfl | rfl | rfl
        · exact q6460 _
        · exact q6461 _
        · exact q6462 _
        · exact q6463 _
        · exact q6464 _
    · rw [show (IntKind.i64.wrap ((6 : Int) + 1)) = 7 by kernel_rfl] at h4
      rcases c7 h4 with rfl | rfl | rfl | rfl | rfl | rfl | rfl
      · rw [show (IntKind.i64.wrap ((5 : Int) + 1)) = 6 by kernel_rfl] at h5
        rcases c6 h5 with rfl | rfl | rfl | rfl | rfl | rfl
        · exact q6500 _
        · exact q6501 _
        · exact q6502 _
        · exact q6503 _
        · exact q6504 _
        · exact q6505 _
      · rw [show (IntKind.i64.wrap ((5 : Int) + 1)) = 6 by kernel_rfl] at h5
        rcases c6 h5 with rfl | rfl | rfl | rfl | rfl | rfl
        · exact q6510 _
        · exact q6511 _
        · exact q6512 _
        · exact q6513 _
        · exact q6514 _
        · exact q6515 _
      · rw [show (IntKind.i64.wrap ((5 : Int) + 1)) = 6 by kernel_rfl] at h5
        rcases c6 h5 with rfl | rfl | rfl | rfl | rfl | rfl
        · exact q6520 _
        · exact q6521 _
        · exact q6522 _
        · exact q6523 _
        · exact q6524 _
        · exact q6525 _
      · rw [show (IntKind.i64.wrap ((5 : Int) + 1)) = 6 by kernel_rfl] at h5
        rcases c6 h5 with rfl | rfl | rfl | rfl | rfl | rfl
        · exact q6530 _
        · exact q6531 _
        · exact q6532 _
        · exact q6533 _
        · exact q6534 _
        · exact q6535 _
      · rw [show (IntKind.i64.wrap ((5 : Int) + 1)) = 6 by kernel_rfl] at h5
        rcases c6 h5 with rfl | rfl | rfl | rfl | rfl | rfl
        · exact q6540 _
        · exact q6541 _
        · exact q6542 _
        · exact q6543 _
        · exact q6544 _
        · exact q6545 _
      · rw [show (IntKind.i64.wrap ((5 : Int) + 1)) = 6 by kernel_rfl] at h5
        rcases c6 h5 with rfl | rfl | rfl | rfl | rfl | rfl
        · exact q6550 _
        · exact q6551 _
        · exact q6552 _
        · exact q6553 _
        · exact q6554 _
        · exact q6555 _
      · rw [show (IntKind.i64.wrap ((5 : Int) + 1)) = 6 by kernel_rfl] at h5
        rcases c6 h5 with rfl | rfl | rfl | rfl | rfl | rfl
        · exact q6560 _
        · exact q6561 _
        · exact q6562 _
        · exact q6563 _
        · exact q6564 _
        · exact q6565 _
    · rw [show (IntKind.i64.wrap ((6 : Int) + 1)) = 7 by kernel_rfl] at h4
      rcases c7 h4 with rfl | rfl | rfl | rfl | rfl | rfl | rfl
      · rw [show (IntKind.i64.wrap ((6 : Int) + 1)) = 7 by kernel_rfl] at h5
        rcases c7 h5 with rfl | rfl | rfl | rfl | rfl | rfl | rfl
        · exact q6600 _
        · exact q6601 _
        · exact q6602 _
        · exact q6603 _
        · exact q6604 _
        · exact q6605 _
        · exact q6606 _
      · rw [show (IntKind.i64.wrap ((6 : Int) + 1)) = 7 by kernel_rfl] at h5
        rcases c7 h5 with rfl | rfl | rfl | rfl | rfl | rfl | rfl
        · exact q6610 _
        · exact q6611 _
        · exact q6612 _
        · exact q6613 _
        · exact q6614 _
        · exact q6615 _
        · exact q6616 _
      · rw [show (IntKind.i64.wrap ((6 : Int) + 1)) = 7 by kernel_rfl] at h5
        rcases c7 h5 with rfl | rfl | rfl | rfl | rfl | rfl | rfl
        · exact q6620 _
        · exact q6621 _
        · exact q6622 _
        · exact q6623 _
        · exact q6624 _
        · exact q6625 _
        · exact q6626 _
      · rw [show (IntKind.i64.wrap ((6 : Int) + 1)) = 7 by kernel_rfl] at h5
        rcases c7 h5 with rfl | rfl | rfl | rfl | rfl | rfl | rfl
        · exact q6630 _
        · exact q6631 _
        · exact q6632 _
        · exact q6633 _
        · exact q6634 _
        · exact q6635 _
        · exact q6636 _
      · rw [show (IntKind.i64.wrap ((6 : Int) + 1)) = 7 by kernel_rfl] at h5
        rcases c7 h5 with rfl | rfl | rfl | rfl | rfl | rfl | rfl
        · exact q6640 _
        · exact q6641 _
        · exact q6642 _
        · exact q6643 _
        · exact q6644 _
        · exact q6645 _
        · exact q6646 _
      · rw [show (IntKind.i64.wrap ((6 : Int) + 1)) = 7 by kernel_rfl] at h5
        rcases c7 h5 with rfl | rfl | rfl | rfl | rfl | rfl | rfl
        · exact q6650 _
        · exact q6651 _
        · exact q6652 _
        · exact q6653 _
        · exact q6654 _
        · exact q6655 _
        · exact q6656 _
      · rw [show (IntKind.i64.wrap ((6 : Int) + 1)) = 7 by kernel_rfl] at h5
        rcases c7 h5 with rfl | rfl | rfl | rfl | rfl | rfl | rfl
        · exact q6660 _
        · exact q6661 _
        · exact q6662 _
        · exact q6663 _
        · exact q6664 _
        · exact q6665 _
        · exact q6666 _
theorem H_joiA (n : Nat) (m : Nat) (l0 : List Int) (l1 : List Int) (hl : l1.length = m) (hb : bytesB l1 = true) : md_joiA 40 n m l0 l1 = some (.bool true, [.at false (.int .u8 l0), .at false (.int .u8 l1)]) := by
  unfold md_joiA
  cases hg : longB n m with
  | true => rfl
  | false =>
    unfold longB at hg
    simp only [Bool.or_eq_false_iff, decide_eq_false_iff_not] at hg
    have hb' : bytesB l1 = true := hb
    have hok : ∀ i : Int, 0 ≤ i → i < 1000 → atOk m l1 i = true := fun i h1 h2 => decide_eq_true ⟨hl, by omega, h1, h2⟩
    have hat : ∀ i k : Int, 0 ≤ i → i < 1000 → 1 ≤ k → 0 ≤ atF l1 i k ∧ atF l1 i k < k := fun i k h1 h2 h3 => atF_range hb' h1 h2 h3
    rw [hok 0 (by omega) (by omega), hok 1 (by omega) (by omega), hok 2 (by omega) (by omega), hok 3 (by omega) (by omega)]
    simp only [tr_joiA14]
    obtain ⟨w2, e0⟩ : ∃ w : Int, w = atF l1 0 7 := ⟨_, rfl⟩
    obtain ⟨w3, e1⟩ : ∃ w : Int, w = atF l1 1 7 := ⟨_, rfl⟩
    obtain ⟨w4, e2⟩ : ∃ w : Int, w = atF l1 2 (IntKind.i64.wrap ((if w3 < w2 then w3 else w2) + 1)) := ⟨_, rfl⟩
    obtain ⟨w5, e3⟩ : ∃ w : Int, w = atF l1 3 (IntKind.i64.wrap ((IntKind.i64.wrap ((IntKind.i64.wrap (w2 + w3)) - (IntKind.i64.wrap (2 * w4)))) + 1)) := ⟨_, rfl⟩
    have g0 : 0 ≤ w2 ∧ w2 < 7 := by rw [e0]; exact hat _ _ (by omega) (by omega) (by omega)
    have g1 : 0 ≤ w3 ∧ w3 < 7 := by rw [e1]; exact hat _ _ (by omega) (by omega) (by omega)
    have g2 : 0 ≤ w4 ∧ w4 < (IntKind.i64.wrap ((if w3 < w2 then w3 else w2) + 1)) := by rw [e2]; exact hat _ _ (by omega) (by omega) (by rw [wrap_n (by split <;> omega) (by split <;> omega)]; split <;> omega)
    have q3 : w4 < w2 + 1 ∧ w4 < w3 + 1 := by
      have := g2.2
      rw [wrap_n (by split <;> omega) (by split <;> omega)] at this
      split at this <;> omega
    have g3 : 0 ≤ w5 ∧ w5 < (IntKind.i64.wrap ((IntKind.i64.wrap ((IntKind.i64.wrap (w2 + w3)) - (IntKind.i64.wrap (2 * w4)))) + 1)) := by rw [e3]; exact hat _ _ (by omega) (by omega) (by rw [wrap_n (n := w2 + w3) (by omega) (by omega), wrap_n (n := 2 * w4) (by omega) (by omega), wrap_n (n := w2 + w3 - 2 * w4) (by omega) (by omega), wrap_n (by omega) (by omega)]; omega)
    refine Eq.trans (b := jB1 w2 w3 w4 w5 [.at false (.int .u8 l0), .at false (.int .u8 l1)] (fun (t5 : Int) (t6 : Int) (t17 : Int) (t18 : Int) => ce_joiA14_0 40 m t5 t6 t17 t18 l0 l1) (fun (t5 : Int) (t6 : Int) (t17 : Int) (t18 : Int) => ce_joiA14_1 40 m t5 t6 t17 t18 l0 l1)) ?_ (Eq.trans (join1 [.at false (.int .u8 l0), .at false (.int .u8 l1)] (fun (t5 : Int) (t6 : Int) (t17 : Int) (t18 : Int) => ce_joiA14_0 40 m t5 t6 t17 t18 l0 l1) (fun (t5 : Int) (t6 : Int) (t17 : Int) (t18 : Int) => ce_joiA14_1 40 m t5 t6 t17 t18 l0 l1) g0 g1 g2 g3) ?_)
    · rw [e3, e2, e1, e0]
      kernel_rfl
    · show ce_joiA14_1 40 m w2 w3 1 1 l0 l1 = _
      unfold ce_joiA14_1
      rw [hok 4 (by omega) (by omega), hok 5 (by omega) (by omega)]
      simp only [tr_joiA38]
      obtain ⟨y1, f0⟩ : ∃ w : Int, w = atF l1 4 (IntKind.i64.wrap (w2 + 1)) := ⟨_, rfl⟩
      obtain ⟨y2, f1⟩ : ∃ w : Int, w = atF l1 5 (IntKind.i64.wrap (w3 + 1)) := ⟨_, rfl⟩
      have r0 : 0 ≤ y1 ∧ y1 < (IntKind.i64.wrap (w2 + 1)) := by rw [f0]; exact hat _ _ (by omega) (by omega) (by rw [wrap_n (by omega) (by omega)]; omega)
      have r1 : 0 ≤ y2 ∧ y2 < (IntKind.i64.wrap (w3 + 1)) := by rw [f1]; exact hat _ _ (by omega) (by omega) (by rw [wrap_n (by omega) (by omega)]; omega)
      refine Eq.trans ?_ (join2 [.at false (.int .u8 l0), .at false (.int .u8 l1)] g0 g1 r0 r1)
      rw [f1, f0]
      kernel_rfl
theorem H_joiB (n : Nat) (l0 : List Int) : md_joiB 40 n l0 = some (.bool true, [.at false (.int .u8 l0)]) := by
  unfold md_joiB
  cases hg : longB n 0 with
  | true => rfl
  | false =>
    unfold longB at hg
    simp only [Bool.or_eq_false_iff, decide_eq_false_iff_not] at hg
    have hb' : bytesB [] = true := rfl
    have hok : ∀ i : Int, 0 ≤ i → i < 1000 → atOk 0 [] i = true := fun i h1 h2 => decide_eq_true ⟨rfl, by omega, h1, h2⟩
    have hat : ∀ i k : Int, 0 ≤ i → i < 1000 → 1 ≤ k → 0 ≤ atF [] i k ∧ atF [] i k < k := fun i k h1 h2 h3 => atF_range hb' h1 h2 h3
    rw [hok 0 (by omega) (by omega), hok 1 (by omega) (by omega), hok 2 (by omega) (by omega), hok 3 (by omega) (by omega)]
    simp only [tr_joiB14]
    obtain ⟨w2, e0⟩ : ∃ w : Int, w = atF [] 0 7 := ⟨_, rfl⟩
    obtain ⟨w3, e1⟩ : ∃ w : Int, w = atF [] 1 7 := ⟨_, rfl⟩
    obtain ⟨w4, e2⟩ : ∃ w : Int, w = atF [] 2 (IntKind.i64.wrap ((if w3 < w2 then w3 else w2) + 1)) := ⟨_, rfl⟩
    obtain ⟨w5, e3⟩ : ∃ w : Int, w = atF [] 3 (IntKind.i64.wrap ((IntKind.i64.wrap ((IntKind.i64.wrap (w2 + w3)) - (IntKind.i64.wrap (2 * w4)))) + 1)) := ⟨_, rfl⟩
    have g0 : 0 ≤ w2 ∧ w2 < 7 := by rw [e0]; exact hat _ _ (by omega) (by omega) (by omega)
    have g1 : 0 ≤ w3 ∧ w3 < 7 := by rw [e1]; exact hat _ _ (by omega) (by omega) (by omega)
    have g2 : 0 ≤ w4 ∧ w4 < (IntKind.i64.wrap ((if w3 < w2 then w3 else w2) + 1)) := by rw [e2]; exact hat _ _ (by omega) (by omega) (by rw [wrap_n (by split <;> omega) (by split <;> omega)]; split <;> omega)
    have q3 : w4 < w2 + 1 ∧ w4 < w3 + 1 := by
      have := g2.2
      rw [wrap_n (by split <;> omega) (by split <;> omega)] at this
      split at this <;> omega
    have g3 : 0 ≤ w5 ∧ w5 < (IntKind.i64.wrap ((IntKind.i64.wrap ((IntKind.i64.wrap (w2 + w3)) - (IntKind.i64.wrap (2 * w4)))) + 1)) := by rw [e3]; exact hat _ _ (by omega) (by omega) (by rw [wrap_n (n := w2 + w3) (by omega) (by omega), wrap_n (n := 2 * w4) (by omega) (by omega), wrap_n (n := w2 + w3 - 2 * w4) (by omega) (by omega), wrap_n (by omega) (by omega)]; omega)
    refine Eq.trans (b := jB1 w2 w3 w4 w5 [.at false (.int .u8 l0)] (fun (t5 : Int) (t6 : Int) (t17 : Int) (t18 : Int) => ce_joiB14_0 40 t5 t6 t17 t18 l0) (fun (t5 : Int) (t6 : Int) (t17 : Int) (t18 : Int) => ce_joiB14_1 40 t5 t6 t17 t18 l0)) ?_ (Eq.trans (join1 [.at false (.int .u8 l0)] (fun (t5 : Int) (t6 : Int) (t17 : Int) (t18 : Int) => ce_joiB14_0 40 t5 t6 t17 t18 l0) (fun (t5 : Int) (t6 : Int) (t17 : Int) (t18 : Int) => ce_joiB14_1 40 t5 t6 t17 t18 l0) g0 g1 g2 g3) ?_)
    · rw [e3, e2, e1, e0]
      kernel_rfl
    · show ce_joiB14_1 40 w2 w3 1 1 l0 = _
      unfold ce_joiB14_1
      rw [hok 4 (by omega) (by omega), hok 5 (by omega) (by omega)]
      simp only [tr_joiB38]
      obtain ⟨y1, f0⟩ : ∃ w : Int, w = atF [] 4 (IntKind.i64.wrap (w2 + 1)) := ⟨_, rfl⟩
      obtain ⟨y2, f1⟩ : ∃ w : Int, w = atF [] 5 (IntKind.i64.wrap (w3 + 1)) := ⟨_, rfl⟩
      have r0 : 0 ≤ y1 ∧ y1 < (IntKind.i64.wrap (w2 + 1)) := by rw [f0]; exact hat _ _ (by omega) (by omega) (by rw [wrap_n (by omega) (by omega)]; omega)
      have r1 : 0 ≤ y2 ∧ y2 < (IntKind.i64.wrap (w3 + 1)) := by rw [f1]; exact hat _ _ (by omega) (by omega) (by rw [wrap_n (by omega) (by omega)]; omega)
      refine Eq.trans ?_ (join2 [.at false (.int .u8 l0)] g0 g1 r0 r1)
      rw [f1, f0]
      kernel_rfl
theorem H_joiC (m : Nat) (l1 : List Int) (hl : l1.length = m) (hb : bytesB l1 = true) : md_joiC 40 m l1 = some (.bool true, [.at false (.int .u8 l1)]) := by
  unfold md_joiC
  cases hg : longB 0 m with
  | true => rfl
  | false =>
    unfold longB at hg
    simp only [Bool.or_eq_false_iff, decide_eq_false_iff_not] at hg
    have hb' : bytesB l1 = true := hb
    have hok : ∀ i : Int, 0 ≤ i → i < 1000 → atOk m l1 i = true := fun i h1 h2 => decide_eq_true ⟨hl, by omega, h1, h2⟩
    have hat : ∀ i k : Int, 0 ≤ i → i < 1000 → 1 ≤ k → 0 ≤ atF l1 i k ∧ atF l1 i k < k := fun i k h1 h2 h3 => atF_range hb' h1 h2 h3
    rw [hok 0 (by omega) (by omega), hok 1 (by omega) (by omega), hok 2 (by omega) (by omega), hok 3 (by omega) (by omega)]
    simp only [tr_joiC14]
    obtain ⟨w2, e0⟩ : ∃ w : Int, w = atF l1 0 7 := ⟨_, rfl⟩
    obtain ⟨w3, e1⟩ : ∃ w : Int, w = atF l1 1 7 := ⟨_, rfl⟩
    obtain ⟨w4, e2⟩ : ∃ w : Int, w = atF l1 2 (IntKind.i64.wrap ((if w3 < w2 then w3 else w2) + 1)) := ⟨_, rfl⟩
    obtain ⟨w5, e3⟩ : ∃ w : Int, w = atF l1 3 (IntKind.i64.wrap ((IntKind.i64.wrap ((IntKind.i64.wrap (w2 + w3)) - (IntKind.i64.wrap (2 * w4)))) + 1)) := ⟨_, rfl⟩
    have g0 : 0 ≤ w2 ∧ w2 < 7 := by rw [e0]; exact hat _ _ (by omega) (by omega) (by omega)
    have g1 : 0 ≤ w3 ∧ w3 < 7 := by rw [e1]; exact hat _ _ (by omega) (by omega) (by omega)
    have g2 : 0 ≤ w4 ∧ w4 < (IntKind.i64.wrap ((if w3 < w2 then w3 else w2) + 1)) := by rw [e2]; exact hat _ _ (by omega) (by omega) (by rw [wrap_n (by split <;> omega) (by split <;> omega)]; split <;> omega)
    have q3 : w4 < w2 + 1 ∧ w4 < w3 + 1 := by
      have := g2.2
      rw [wrap_n (by split <;> omega) (by split <;> omega)] at this
      split at this <;> omega
    have g3 : 0 ≤ w5 ∧ w5 < (IntKind.i64.wrap ((IntKind.i64.wrap ((IntKind.i64.wrap (w2 + w3)) - (IntKind.i64.wrap (2 * w4)))) + 1)) := by rw [e3]; exact hat _ _ (by omega) (by omega) (by rw [wrap_n (n := w2 + w3) (by omega) (by omega), wrap_n (n := 2 * w4) (by omega) (by omega), wrap_n (n := w2 + w3 - 2 * w4) (by omega) (by omega), wrap_n (by omega) (by omega)]; omega)
    refine Eq.trans (b := jB1 w2 w3 w4 w5 [.at false (.int .u8 l1)] (fun (t5 : Int) (t6 : Int) (t17 : Int) (t18 : Int) => ce_joiC14_0 40 m t5 t6 t17 t18 l1) (fun (t5 : Int) (t6 : Int) (t17 : Int) (t18 : Int) => ce_joiC14_1 40 m t5 t6 t17 t18 l1)) ?_ (Eq.trans (join1 [.at false (.int .u8 l1)] (fun (t5 : Int) (t6 : Int) (t17 : Int) (t18 : Int) => ce_joiC14_0 40 m t5 t6 t17 t18 l1) (fun (t5 : Int) (t6 : Int) (t17 : Int) (t18 : Int) => ce_joiC14_1 40 m t5 t6 t17 t18 l1) g0 g1 g2 g3) ?_)
    · rw [e3, e2, e1, e0]
      kernel_rfl
    · show ce_joiC14_1 40 m w2 w3 1 1 l1 = _
      unfold ce_joiC14_1
      rw [hok 4 (by omega) (by omega), hok 5 (by omega) (by omega)]
      simp only [tr_joiC38]
      obtain ⟨y1, f0⟩ : ∃ w : Int, w = atF l1 4 (IntKind.i64.wrap (w2 + 1)) := ⟨_, rfl⟩
      obtain ⟨y2, f1⟩ : ∃ w : Int, w = atF l1 5 (IntKind.i64.wrap (w3 + 1)) := ⟨_, rfl⟩
      have r0 : 0 ≤ y1 ∧ y1 < (IntKind.i64.wrap (w2 + 1)) := by rw [f0]; exact hat _ _ (by omega) (by omega) (by rw [wrap_n (by omega) (by omega)]; omega)
      have r1 : 0 ≤ y2 ∧ y2 < (IntKind.i64.wrap (w3 + 1)) := by rw [f1]; exact hat _ _ (by omega) (by omega) (by rw [wrap_n (by omega) (by omega)]; omega)
      refine Eq.trans ?_ (join2 [.at false (.int .u8 l1)] g0 g1 r0 r1)
      rw [f1, f0]
      kernel_rfl
theorem H_joiD  : md_joiD 40  = some (.bool true, []) := by
  unfold md_joiD
  cases hg : longB 0 0 with
  | true => rfl
  | false =>
    unfold longB at hg
    simp only [Bool.or_eq_false_iff, decide_eq_false_iff_not] at hg
    have hb' : bytesB [] = true := rfl
    have hok : ∀ i : Int, 0 ≤ i → i < 1000 → atOk 0 [] i = true := fun i h1 h2 => decide_eq_true ⟨rfl, by omega, h1, h2⟩
    have hat : ∀ i k : Int, 0 ≤ i → i < 1000 → 1 ≤ k → 0 ≤ atF [] i k ∧ atF [] i k < k := fun i k h1 h2 h3 => atF_range hb' h1 h2 h3
    rw [hok 0 (by omega) (by omega), hok 1 (by omega) (by omega), hok 2 (by omega) (by omega), hok 3 (by omega) (by omega)]
    obtain ⟨w2, e0⟩ : ∃ w : Int, w = atF [] 0 7 := ⟨_, rfl⟩
    obtain ⟨w3, e1⟩ : ∃ w : Int, w = atF [] 1 7 := ⟨_, rfl⟩
    obtain ⟨w4, e2⟩ : ∃ w : Int, w = atF [] 2 (IntKind.i64.wrap ((if w3 < w2 then w3 else w2) + 1)) := ⟨_, rfl⟩
    obtain ⟨w5, e3⟩ : ∃ w : Int, w = atF [] 3 (IntKind.i64.wrap ((IntKind.i64.wrap ((IntKind.i64.wrap (w2 + w3)) - (IntKind.i64.wrap (2 * w4)))) + 1)) := ⟨_, rfl⟩
    have g0 : 0 ≤ w2 ∧ w2 < 7 := by rw [e0]; exact hat _ _ (by omega) (by omega) (by omega)
    have g1 : 0 ≤ w3 ∧ w3 < 7 := by rw [e1]; exact hat _ _ (by omega) (by omega) (by omega)
    have g2 : 0 ≤ w4 ∧ w4 < (IntKind.i64.wrap ((if w3 < w2 then w3 else w2) + 1)) := by rw [e2]; exact hat _ _ (by omega) (by omega) (by rw [wrap_n (by split <;> omega) (by split <;> omega)]; split <;> omega)
    have q3 : w4 < w2 + 1 ∧ w4 < w3 + 1 := by
      have := g2.2
      rw [wrap_n (by split <;> omega) (by split <;> omega)] at this
      split at this <;> omega
    have g3 : 0 ≤ w5 ∧ w5 < (IntKind.i64.wrap ((IntKind.i64.wrap ((IntKind.i64.wrap (w2 + w3)) - (IntKind.i64.wrap (2 * w4)))) + 1)) := by rw [e3]; exact hat _ _ (by omega) (by omega) (by rw [wrap_n (n := w2 + w3) (by omega) (by omega), wrap_n (n := 2 * w4) (by omega) (by omega), wrap_n (n := w2 + w3 - 2 * w4) (by omega) (by omega), wrap_n (by omega) (by omega)]; omega)
    refine Eq.trans (b := jB1 w2 w3 w4 w5 [] (fun (t5 : Int) (t6 : Int) (t17 : Int) (t18 : Int) => ce_joiD14_0 40 t5 t6 t17 t18) (fun (t5 : Int) (t6 : Int) (t17 : Int) (t18 : Int) => ce_joiD14_1 40 t5 t6 t17 t18)) ?_ (Eq.trans (join1 [] (fun (t5 : Int) (t6 : Int) (t17 : Int) (t18 : Int) => ce_joiD14_0 40 t5 t6 t17 t18) (fun (t5 : Int) (t6 : Int) (t17 : Int) (t18 : Int) => ce_joiD14_1 40 t5 t6 t17 t18) g0 g1 g2 g3) ?_)
    · rw [e3, e2, e1, e0]
      kernel_rfl
    · show ce_joiD14_1 40 w2 w3 1 1 = _
      unfold ce_joiD14_1
      rw [hok 4 (by omega) (by omega), hok 5 (by omega) (by omega)]
      obtain ⟨y1, f0⟩ : ∃ w : Int, w = atF [] 4 (IntKind.i64.wrap (w2 + 1)) := ⟨_, rfl⟩
      obtain ⟨y2, f1⟩ : ∃ w : Int, w = atF [] 5 (IntKind.i64.wrap (w3 + 1)) := ⟨_, rfl⟩
      have r0 : 0 ≤ y1 ∧ y1 < (IntKind.i64.wrap (w2 + 1)) := by rw [f0]; exact hat _ _ (by omega) (by omega) (by rw [wrap_n (by omega) (by omega)]; omega)
      have r1 : 0 ≤ y2 ∧ y2 < (IntKind.i64.wrap (w3 + 1)) := by rw [f1]; exact hat _ _ (by omega) (by omega) (by rw [wrap_n (by omega) (by omega)]; omega)
      refine Eq.trans ?_ (join2 [] g0 g1 r0 r1)
      rw [f1, f0]
      kernel_rfl
def gBytes : G := fun vs h => match vs, h with
  | [.sl 0 0 n, .sl 1 0 m], [.at false (.int .u8 l0), .at false (.int .u8 l1)] => if n = l0.length ∧ m = l1.length ∧ bytesB l0 = true ∧ bytesB l1 = true then some (.bool true, [.at false (.int .u8 l0), .at false (.int .u8 l1)]) else none
  | [.sl 0 0 n, .nil], [.at false (.int .u8 l0)] => if n = l0.length ∧ bytesB l0 = true then some (.bool true, [.at false (.int .u8 l0)]) else none
  | [.nil, .sl 0 0 m], [.at false (.int .u8 l1)] => if m = l1.length ∧ bytesB l1 = true then some (.bool true, [.at false (.int .u8 l1)]) else none
  | [.nil, .nil], [] => some (.bool true, [])
  | _, _ => none
theorem bytes_wf {l : List Int} (h : ∀ z ∈ l, (Lit.int .u8 z).wf = true) : bytesB l = true := by
  unfold bytesB
  rw [List.all_eq_true]
  intro z hz
  have hw := h z hz
  simp only [Lit.wf, Bool.and_eq_true, decide_eq_true_eq] at hw
  have h1 : (0 : Int) ≤ z := hw.1
  have h2 : z ≤ 255 := hw.2
  exact decide_eq_true (by omega)
theorem ok_lawjoi : FnOk Try.prog 14 gBytes := by
  intro vs hp v h' e
  rw [T.run_of] at e
  unfold gBytes at e
  split at e
  · rename_i n m l0 l1
    split at e
    · rename_i hc
      cases e
      refine FnT.runs tabok_joiA Try.func14 rfl rfl an_joiA 40 _ _ _ _ ?_
      rw [T.run_of]
      exact Eq.trans (mdl_joiA 40 n m l0 l1) (H_joiA n m l0 l1 hc.2.1.symm hc.2.2.2)
    · cases e
  · rename_i n l0
    split at e
    · rename_i hc
      cases e
      refine FnT.runs tabok_joiB Try.func14 rfl rfl an_joiB 40 _ _ _ _ ?_
      rw [T.run_of]
      exact Eq.trans (mdl_joiB 40 n l0) (H_joiB n l0)
    · cases e
  · rename_i m l1
    split at e
    · rename_i hc
      cases e
      refine FnT.runs tabok_joiC Try.func14 rfl rfl an_joiC 40 _ _ _ _ ?_
      rw [T.run_of]
      exact Eq.trans (mdl_joiC 40 m l1) (H_joiC m l1 hc.1.symm hc.2)
    · cases e
  · cases e
    refine FnT.runs tabok_joiD Try.func14 rfl rfl an_joiD 40 _ _ _ _ ?_
    rw [T.run_of]
    exact Eq.trans (mdl_joiD 40) H_joiD
  · cases e
end Go.Proofs.Ytbhfjdlhhjeknaa.Ab
